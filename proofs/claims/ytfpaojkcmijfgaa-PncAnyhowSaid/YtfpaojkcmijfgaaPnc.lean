/- Contracts of package pnc and of the reference for chapter 11: Check, Apply and Value. -/
import Derived.Test.YtfpaojkcmijfgaaTally
import Derived.Test.YtfpaojkcmijfgaaBlk
import Derived.Lib.SmallJoins
import Derived.Lib.Hide
namespace Go.Proofs.Ytfpaojkcmijfgaa
open Go.RowKit
set_option linter.unusedVariables false
theorem retP {k : IntKind} {a b : Int} (h : a = b) : Ending.returned (.int k a) = .returned (.int k b) := by rw [h]
theorem retA {a b c a' b' c' : Int} (h : c = c' ∧ a = a' ∧ b = b') : Ending.returned (.tuple #[.agg #[.int .i64 a', .int .i64 b'], .int .i64 c']) = .returned (.tuple #[.agg #[.int .i64 a, .int .i64 b], .int .i64 c]) := by
  obtain ⟨rfl, rfl, rfl⟩ := h; rfl
def pchk (p m : Int) : Int := if 0 ≤ p ∧ p ≤ 1125899906842624 ∧ 0 ≤ m ∧ m ≤ 1125899906842624 then 0 else 2
theorem pchk_yes {p m : Int} (h : 0 ≤ p ∧ p ≤ 1125899906842624 ∧ 0 ≤ m ∧ m ≤ 1125899906842624) : pchk p m = 0 := if_pos h
theorem pchk_no {p m : Int} (h : ¬ (0 ≤ p ∧ p ≤ 1125899906842624 ∧ 0 ≤ m ∧ m ≤ 1125899906842624)) : pchk p m = 2 := if_neg h
def apE (p m b : Int) : Int := if pchk p m = 0 ∧ -1073741824 ≤ b ∧ b ≤ 1073741824 then (if 0 ≤ b then (if p + b ≤ 1125899906842624 then 0 else 12) else (if m - b ≤ 1125899906842624 then 0 else 12)) else 2
def apP (p m b : Int) : Int := if apE p m b = 0 then (if 0 ≤ b then p + b else p) else 0
def apM (p m b : Int) : Int := if apE p m b = 0 then (if 0 ≤ b then m else m - b) else 0
theorem ap_bad {p m b : Int} (h : ¬ (pchk p m = 0 ∧ -1073741824 ≤ b ∧ b ≤ 1073741824)) : apE p m b = 2 ∧ apP p m b = 0 ∧ apM p m b = 0 := by
  have e : apE p m b = 2 := if_neg h
  exact ⟨e, if_neg (by omega), if_neg (by omega)⟩
theorem ap_overP {p m b : Int} (h : pchk p m = 0 ∧ -1073741824 ≤ b ∧ b ≤ 1073741824) (h0 : 0 ≤ b) (h1 : ¬ p + b ≤ 1125899906842624) : apE p m b = 12 ∧ apP p m b = 0 ∧ apM p m b = 0 := by
  have e : apE p m b = 12 := by unfold apE; rw [if_pos h, if_pos h0, if_neg h1]
  exact ⟨e, if_neg (by omega), if_neg (by omega)⟩
theorem ap_overM {p m b : Int} (h : pchk p m = 0 ∧ -1073741824 ≤ b ∧ b ≤ 1073741824) (h0 : ¬ 0 ≤ b) (h1 : ¬ m - b ≤ 1125899906842624) : apE p m b = 12 ∧ apP p m b = 0 ∧ apM p m b = 0 := by
  have e : apE p m b = 12 := by unfold apE; rw [if_pos h, if_neg h0, if_neg h1]
  exact ⟨e, if_neg (by omega), if_neg (by omega)⟩
theorem ap_okP {p m b : Int} (h : pchk p m = 0 ∧ -1073741824 ≤ b ∧ b ≤ 1073741824) (h0 : 0 ≤ b) (h1 : p + b ≤ 1125899906842624) : apE p m b = 0 ∧ apP p m b = p + b ∧ apM p m b = m := by
  have e : apE p m b = 0 := by unfold apE; rw [if_pos h, if_pos h0, if_pos h1]
  exact ⟨e, by unfold apP; rw [if_pos e, if_pos h0], by unfold apM; rw [if_pos e, if_pos h0]⟩
theorem ap_okM {p m b : Int} (h : pchk p m = 0 ∧ -1073741824 ≤ b ∧ b ≤ 1073741824) (h0 : ¬ 0 ≤ b) (h1 : m - b ≤ 1125899906842624) : apE p m b = 0 ∧ apP p m b = p ∧ apM p m b = m - b := by
  have e : apE p m b = 0 := by unfold apE; rw [if_pos h, if_neg h0, if_pos h1]
  exact ⟨e, by unfold apP; rw [if_pos e, if_neg h0], by unfold apM; rw [if_pos e, if_neg h0]⟩
theorem pchk_inv {p m : Int} (h : pchk p m = 0) : 0 ≤ p ∧ p ≤ 1125899906842624 ∧ 0 ≤ m ∧ m ≤ 1125899906842624 := by
  unfold pchk at h
  by_cases k : 0 ≤ p ∧ p ≤ 1125899906842624 ∧ 0 ≤ m ∧ m ≤ 1125899906842624
  · exact k
  · rw [if_neg k] at h; omega
set_option maxHeartbeats 800000 in
theorem pcheck_a (p m : Int) (w : World) (h0 : p < 0) : Calls Try.prog 47 #[.agg #[.int .i64 p, .int .i64 m]] w fun e w' => e = .returned (.int .i64 2) ∧ Below w.heap.size w w' := by
  have d0 : decide (p < 0) = true := decide_eq_true (by omega)
  have i0 : ∀ W : World, (Instr.index 110 (.agg #[.int .i64 p, .int .i64 m]) (.int .i64 0)).run Try.prog W = .ok (.int .i64 p) W := fun _ => by kernel_rfl
  have i1 : ∀ W : World, (Instr.index 110 (.agg #[.int .i64 p, .int .i64 m]) (.int .i64 1)).run Try.prog W = .ok (.int .i64 m) W := fun _ => by kernel_rfl
  go_enter Try.func47, Try.ntmps47
  go_wp2
  refine wp_loop_rounds 1 ?_
  rw [rounds_succ]
  go_wp2
  go_ret
  exact ⟨rfl, Joins.below_alloc1 w _⟩
set_option maxHeartbeats 800000 in
theorem pcheck_b (p m : Int) (w : World) (h0 : 0 ≤ p) (h1 : 1125899906842624 < p) : Calls Try.prog 47 #[.agg #[.int .i64 p, .int .i64 m]] w fun e w' => e = .returned (.int .i64 2) ∧ Below w.heap.size w w' := by
  have d0 : decide (p < 0) = false := decide_eq_false (by omega)
  have d1 : decide (1125899906842624 < p) = true := decide_eq_true (by omega)
  have i0 : ∀ W : World, (Instr.index 110 (.agg #[.int .i64 p, .int .i64 m]) (.int .i64 0)).run Try.prog W = .ok (.int .i64 p) W := fun _ => by kernel_rfl
  have i1 : ∀ W : World, (Instr.index 110 (.agg #[.int .i64 p, .int .i64 m]) (.int .i64 1)).run Try.prog W = .ok (.int .i64 m) W := fun _ => by kernel_rfl
  go_enter Try.func47, Try.ntmps47
  go_wp2
  refine wp_loop_rounds 1 ?_
  rw [rounds_succ]
  go_wp2
  go_ret
  exact ⟨rfl, Joins.below_alloc1 w _⟩
set_option maxHeartbeats 800000 in
theorem pcheck_c (p m : Int) (w : World) (h0 : 0 ≤ p) (h1 : p ≤ 1125899906842624) (h2 : m < 0) : Calls Try.prog 47 #[.agg #[.int .i64 p, .int .i64 m]] w fun e w' => e = .returned (.int .i64 2) ∧ Below w.heap.size w w' := by
  have d0 : decide (p < 0) = false := decide_eq_false (by omega)
  have d1 : decide (1125899906842624 < p) = false := decide_eq_false (by omega)
  have d2 : decide (m < 0) = true := decide_eq_true (by omega)
  have i0 : ∀ W : World, (Instr.index 110 (.agg #[.int .i64 p, .int .i64 m]) (.int .i64 0)).run Try.prog W = .ok (.int .i64 p) W := fun _ => by kernel_rfl
  have i1 : ∀ W : World, (Instr.index 110 (.agg #[.int .i64 p, .int .i64 m]) (.int .i64 1)).run Try.prog W = .ok (.int .i64 m) W := fun _ => by kernel_rfl
  go_enter Try.func47, Try.ntmps47
  go_wp2
  refine wp_loop_rounds 2 ?_
  rw [rounds_succ]
  go_wp2
  rw [rounds_succ]
  go_wp2
  go_ret
  exact ⟨rfl, Joins.below_alloc1 w _⟩
set_option maxHeartbeats 800000 in
theorem pcheck_d (p m : Int) (w : World) (h0 : 0 ≤ p) (h1 : p ≤ 1125899906842624) (h2 : 0 ≤ m) (h3 : 1125899906842624 < m) : Calls Try.prog 47 #[.agg #[.int .i64 p, .int .i64 m]] w fun e w' => e = .returned (.int .i64 2) ∧ Below w.heap.size w w' := by
  have d0 : decide (p < 0) = false := decide_eq_false (by omega)
  have d1 : decide (1125899906842624 < p) = false := decide_eq_false (by omega)
  have d2 : decide (m < 0) = false := decide_eq_false (by omega)
  have d3 : decide (1125899906842624 < m) = true := decide_eq_true (by omega)
  have i0 : ∀ W : World, (Instr.index 110 (.agg #[.int .i64 p, .int .i64 m]) (.int .i64 0)).run Try.prog W = .ok (.int .i64 p) W := fun _ => by kernel_rfl
  have i1 : ∀ W : World, (Instr.index 110 (.agg #[.int .i64 p, .int .i64 m]) (.int .i64 1)).run Try.prog W = .ok (.int .i64 m) W := fun _ => by kernel_rfl
  go_enter Try.func47, Try.ntmps47
  go_wp2
  refine wp_loop_rounds 2 ?_
  rw [rounds_succ]
  go_wp2
  rw [rounds_succ]
  go_wp2
  go_ret
  exact ⟨rfl, Joins.below_alloc1 w _⟩
set_option maxHeartbeats 800000 in
theorem pcheck_e (p m : Int) (w : World) (h0 : 0 ≤ p) (h1 : p ≤ 1125899906842624) (h2 : 0 ≤ m) (h3 : m ≤ 1125899906842624) : Calls Try.prog 47 #[.agg #[.int .i64 p, .int .i64 m]] w fun e w' => e = .returned (.int .i64 0) ∧ Below w.heap.size w w' := by
  have d0 : decide (p < 0) = false := decide_eq_false (by omega)
  have d1 : decide (1125899906842624 < p) = false := decide_eq_false (by omega)
  have d2 : decide (m < 0) = false := decide_eq_false (by omega)
  have d3 : decide (1125899906842624 < m) = false := decide_eq_false (by omega)
  have i0 : ∀ W : World, (Instr.index 110 (.agg #[.int .i64 p, .int .i64 m]) (.int .i64 0)).run Try.prog W = .ok (.int .i64 p) W := fun _ => by kernel_rfl
  have i1 : ∀ W : World, (Instr.index 110 (.agg #[.int .i64 p, .int .i64 m]) (.int .i64 1)).run Try.prog W = .ok (.int .i64 m) W := fun _ => by kernel_rfl
  go_enter Try.func47, Try.ntmps47
  go_wp2
  refine wp_loop_rounds 3 ?_
  rw [rounds_succ]
  go_wp2
  rw [rounds_succ]
  go_wp2
  rw [rounds_succ]
  go_wp2
  go_ret
  exact ⟨rfl, Joins.below_alloc1 w _⟩
theorem pcheck (p m : Int) (w : World) : Calls Try.prog 47 #[.agg #[.int .i64 p, .int .i64 m]] w fun e w' => e = .returned (.int .i64 (pchk p m)) ∧ Below w.heap.size w w' := by
  by_cases h0 : p < 0
  · rw [pchk_no (by omega)]; exact pcheck_a p m w h0
  by_cases h1 : 1125899906842624 < p
  · rw [pchk_no (by omega)]; exact pcheck_b p m w (by omega) h1
  by_cases h2 : m < 0
  · rw [pchk_no (by omega)]; exact pcheck_c p m w (by omega) (by omega) h2
  by_cases h3 : 1125899906842624 < m
  · rw [pchk_no (by omega)]; exact pcheck_d p m w (by omega) (by omega) (by omega) h3
  · rw [pchk_yes (by omega)]; exact pcheck_e p m w (by omega) (by omega) (by omega) (by omega)
set_option maxRecDepth 100000 in
set_option maxHeartbeats 3200000 in
theorem papply_bad (p m b : Int) (w : World) (h : ¬ (0 ≤ p ∧ p ≤ 1125899906842624 ∧ 0 ≤ m ∧ m ≤ 1125899906842624)) : Calls Try.prog 13 #[.agg #[.int .i64 p, .int .i64 m], .int .i64 b] w fun e w' => e = .returned (.tuple #[.agg #[.int .i64 0, .int .i64 0], .int .i64 2]) ∧ Below w.heap.size w w' := by
  have hv : pchk p m = 2 := pchk_no (by omega)
  have C : ∀ W : World, Calls Try.prog 47 #[.agg #[.int .i64 p, .int .i64 m]] W fun e w' => e = .returned (.int .i64 2) ∧ Below W.heap.size W w' := fun W => (pcheck p m W).mono (by rintro e w' ⟨rfl, h⟩; exact ⟨retP hv, h⟩)
  have D := Lib.hid C
  clear C hv
  clear h
  go_enter Try.func13, Try.ntmps13
  go_wp2_with fail
  refine (D.out _).mono ?_; rintro e w1 ⟨rfl, hb⟩
  have HA := Lib.hid (((Blk.new w 25 #[.int .i64 p, .int .i64 m]).alloc (.cells #[.int .i64 0, .int .i64 0] 25)).keep hb)
  have HZ := Lib.hid ((show Blk ((w.alloc (.cells #[.int .i64 p, .int .i64 m] 25)).alloc (.cells #[.int .i64 0, .int .i64 0] 25)) (w.heap.size + 1) 25 #[.int .i64 0, .int .i64 0] by simpa using Blk.new (w.alloc (.cells #[.int .i64 p, .int .i64 m] 25)) 25 #[.int .i64 0, .int .i64 0]).keep hb)
  have HB := Lib.hid ((Joins.below_alloc2 w (.cells #[.int .i64 p, .int .i64 m] 25) (.cells #[.int .i64 0, .int .i64 0] 25)).trans (hb.mono (by simp; omega)))
  clear hb
  have xa0 := HA.out.cell 0
  have xa1 := HA.out.cell 1
  have ya0 := HA.out.frozen 0
  have ya1 := HA.out.frozen 1
  have za0 := HZ.out.cell 0
  have za1 := HZ.out.cell 1
  have va0 := HZ.out.frozen 0
  have va1 := HZ.out.frozen 1
  simp at xa0 xa1 za0 za1
  go_wp2
  exact bodyPost_ret (v := .tuple #[.agg #[.int .i64 0, .int .i64 0], .int .i64 2]) (by simp [results, Try.results13, go_sem, *]) rfl ⟨rfl, by repeat (first | exact HB.out | refine Below.setCell ?_ (by simp) _)⟩
set_option maxRecDepth 100000 in
set_option maxHeartbeats 3200000 in
theorem papply_low (p m b : Int) (w : World) (h0 : 0 ≤ p) (h1 : p ≤ 1125899906842624) (h2 : 0 ≤ m) (h3 : m ≤ 1125899906842624) (h4 : b < -1073741824) : Calls Try.prog 13 #[.agg #[.int .i64 p, .int .i64 m], .int .i64 b] w fun e w' => e = .returned (.tuple #[.agg #[.int .i64 0, .int .i64 0], .int .i64 2]) ∧ Below w.heap.size w w' := by
  have hv : pchk p m = 0 := pchk_yes (by omega)
  have C : ∀ W : World, Calls Try.prog 47 #[.agg #[.int .i64 p, .int .i64 m]] W fun e w' => e = .returned (.int .i64 0) ∧ Below W.heap.size W w' := fun W => (pcheck p m W).mono (by rintro e w' ⟨rfl, h⟩; exact ⟨retP hv, h⟩)
  have D := Lib.hid C
  clear C hv
  have d0 : decide (b < -1073741824) = true := decide_eq_true (by omega)
  go_enter Try.func13, Try.ntmps13
  go_wp2_with fail
  refine (D.out _).mono ?_; rintro e w1 ⟨rfl, hb⟩
  have HA := Lib.hid (((Blk.new w 25 #[.int .i64 p, .int .i64 m]).alloc (.cells #[.int .i64 0, .int .i64 0] 25)).keep hb)
  have HZ := Lib.hid ((show Blk ((w.alloc (.cells #[.int .i64 p, .int .i64 m] 25)).alloc (.cells #[.int .i64 0, .int .i64 0] 25)) (w.heap.size + 1) 25 #[.int .i64 0, .int .i64 0] by simpa using Blk.new (w.alloc (.cells #[.int .i64 p, .int .i64 m] 25)) 25 #[.int .i64 0, .int .i64 0]).keep hb)
  have HB := Lib.hid ((Joins.below_alloc2 w (.cells #[.int .i64 p, .int .i64 m] 25) (.cells #[.int .i64 0, .int .i64 0] 25)).trans (hb.mono (by simp; omega)))
  clear hb
  have xa0 := HA.out.cell 0
  have xa1 := HA.out.cell 1
  have ya0 := HA.out.frozen 0
  have ya1 := HA.out.frozen 1
  have za0 := HZ.out.cell 0
  have za1 := HZ.out.cell 1
  have va0 := HZ.out.frozen 0
  have va1 := HZ.out.frozen 1
  simp at xa0 xa1 za0 za1
  go_wp2
  exact bodyPost_ret (v := .tuple #[.agg #[.int .i64 0, .int .i64 0], .int .i64 2]) (by simp [results, Try.results13, go_sem, *]) rfl ⟨rfl, by repeat (first | exact HB.out | refine Below.setCell ?_ (by simp) _)⟩
set_option maxRecDepth 100000 in
set_option maxHeartbeats 3200000 in
theorem papply_high (p m b : Int) (w : World) (h0 : 0 ≤ p) (h1 : p ≤ 1125899906842624) (h2 : 0 ≤ m) (h3 : m ≤ 1125899906842624) (h4 : 1073741824 < b) : Calls Try.prog 13 #[.agg #[.int .i64 p, .int .i64 m], .int .i64 b] w fun e w' => e = .returned (.tuple #[.agg #[.int .i64 0, .int .i64 0], .int .i64 2]) ∧ Below w.heap.size w w' := by
  have hv : pchk p m = 0 := pchk_yes (by omega)
  have C : ∀ W : World, Calls Try.prog 47 #[.agg #[.int .i64 p, .int .i64 m]] W fun e w' => e = .returned (.int .i64 0) ∧ Below W.heap.size W w' := fun W => (pcheck p m W).mono (by rintro e w' ⟨rfl, h⟩; exact ⟨retP hv, h⟩)
  have D := Lib.hid C
  clear C hv
  have d0 : decide (b < -1073741824) = false := decide_eq_false (by omega)
  have d1 : decide (1073741824 < b) = true := decide_eq_true (by omega)
  go_enter Try.func13, Try.ntmps13
  go_wp2_with fail
  refine (D.out _).mono ?_; rintro e w1 ⟨rfl, hb⟩
  have HA := Lib.hid (((Blk.new w 25 #[.int .i64 p, .int .i64 m]).alloc (.cells #[.int .i64 0, .int .i64 0] 25)).keep hb)
  have HZ := Lib.hid ((show Blk ((w.alloc (.cells #[.int .i64 p, .int .i64 m] 25)).alloc (.cells #[.int .i64 0, .int .i64 0] 25)) (w.heap.size + 1) 25 #[.int .i64 0, .int .i64 0] by simpa using Blk.new (w.alloc (.cells #[.int .i64 p, .int .i64 m] 25)) 25 #[.int .i64 0, .int .i64 0]).keep hb)
  have HB := Lib.hid ((Joins.below_alloc2 w (.cells #[.int .i64 p, .int .i64 m] 25) (.cells #[.int .i64 0, .int .i64 0] 25)).trans (hb.mono (by simp; omega)))
  clear hb
  have xa0 := HA.out.cell 0
  have xa1 := HA.out.cell 1
  have ya0 := HA.out.frozen 0
  have ya1 := HA.out.frozen 1
  have za0 := HZ.out.cell 0
  have za1 := HZ.out.cell 1
  have va0 := HZ.out.frozen 0
  have va1 := HZ.out.frozen 1
  simp at xa0 xa1 za0 za1
  go_wp2
  exact bodyPost_ret (v := .tuple #[.agg #[.int .i64 0, .int .i64 0], .int .i64 2]) (by simp [results, Try.results13, go_sem, *]) rfl ⟨rfl, by repeat (first | exact HB.out | refine Below.setCell ?_ (by simp) _)⟩
set_option maxRecDepth 100000 in
set_option maxHeartbeats 3200000 in
theorem papply_overP (p m b : Int) (w : World) (h0 : 0 ≤ p) (h1 : p ≤ 1125899906842624) (h2 : 0 ≤ m) (h3 : m ≤ 1125899906842624) (h4 : -1073741824 ≤ b) (h5 : b ≤ 1073741824) (h6 : 0 ≤ b) (h7 : ¬ p + b ≤ 1125899906842624) : Calls Try.prog 13 #[.agg #[.int .i64 p, .int .i64 m], .int .i64 b] w fun e w' => e = .returned (.tuple #[.agg #[.int .i64 0, .int .i64 0], .int .i64 12]) ∧ Below w.heap.size w w' := by
  have hv : pchk p m = 0 := pchk_yes (by omega)
  have C : ∀ W : World, Calls Try.prog 47 #[.agg #[.int .i64 p, .int .i64 m]] W fun e w' => e = .returned (.int .i64 0) ∧ Below W.heap.size W w' := fun W => (pcheck p m W).mono (by rintro e w' ⟨rfl, h⟩; exact ⟨retP hv, h⟩)
  have D := Lib.hid C
  clear C hv
  have d0 : decide (b < -1073741824) = false := decide_eq_false (by omega)
  have d1 : decide (1073741824 < b) = false := decide_eq_false (by omega)
  have d2 : decide (b < 0) = false := decide_eq_false (by omega)
  have C : ∀ W : World, Calls Try.prog 48 #[.int .i64 p, .int .i64 b] W fun e w' => e = .returned (.tuple #[.int .i64 (0), .int .i64 12]) ∧ Below W.heap.size W w' := fun W => (plus_any p b W (by omega) (by omega) (by omega) (by omega)).mono (by rintro e w' ⟨rfl, hb⟩; have := plus_over p b (by omega) (by omega); exact ⟨ret_two (this.1.trans (by omega)) this.2, hb⟩)
  have E := Lib.hid C
  clear C
  go_enter Try.func13, Try.ntmps13
  go_wp2_with fail
  refine (D.out _).mono ?_; rintro e w1 ⟨rfl, hb⟩
  have HA := Lib.hid (((Blk.new w 25 #[.int .i64 p, .int .i64 m]).alloc (.cells #[.int .i64 0, .int .i64 0] 25)).keep hb)
  have HZ := Lib.hid ((show Blk ((w.alloc (.cells #[.int .i64 p, .int .i64 m] 25)).alloc (.cells #[.int .i64 0, .int .i64 0] 25)) (w.heap.size + 1) 25 #[.int .i64 0, .int .i64 0] by simpa using Blk.new (w.alloc (.cells #[.int .i64 p, .int .i64 m] 25)) 25 #[.int .i64 0, .int .i64 0]).keep hb)
  have HB := Lib.hid ((Joins.below_alloc2 w (.cells #[.int .i64 p, .int .i64 m] 25) (.cells #[.int .i64 0, .int .i64 0] 25)).trans (hb.mono (by simp; omega)))
  clear hb
  have xa0 := HA.out.cell 0
  have xa1 := HA.out.cell 1
  have ya0 := HA.out.frozen 0
  have ya1 := HA.out.frozen 1
  have za0 := HZ.out.cell 0
  have za1 := HZ.out.cell 1
  have va0 := HZ.out.frozen 0
  have va1 := HZ.out.frozen 1
  simp at xa0 xa1 za0 za1
  go_wp2_with fail
  refine (E.out _).mono ?_; rintro e w2 ⟨rfl, hb⟩
  have HA2 := Lib.hid (HA.out.keep hb)
  have HZ2 := Lib.hid (HZ.out.keep hb)
  have HB2 := Lib.hid (HB.out.trans (hb.mono HB.out.size))
  clear hb xa0 xa1 ya0 ya1 za0 za1 va0 va1
  have xb0 := HA2.out.cell 0
  have xb1 := HA2.out.cell 1
  have yb0 := HA2.out.frozen 0
  have yb1 := HA2.out.frozen 1
  have zb0 := HZ2.out.cell 0
  have zb1 := HZ2.out.cell 1
  have vb0 := HZ2.out.frozen 0
  have vb1 := HZ2.out.frozen 1
  simp at xb0 xb1 zb0 zb1
  go_wp2
  exact bodyPost_ret (v := .tuple #[.agg #[.int .i64 0, .int .i64 0], .int .i64 12]) (by simp [results, Try.results13, go_sem, *]) rfl ⟨rfl, by repeat (first | exact HB2.out | refine Below.setCell ?_ (by simp) _)⟩
set_option maxRecDepth 100000 in
set_option maxHeartbeats 3200000 in
theorem papply_okP (p m b : Int) (w : World) (h0 : 0 ≤ p) (h1 : p ≤ 1125899906842624) (h2 : 0 ≤ m) (h3 : m ≤ 1125899906842624) (h4 : -1073741824 ≤ b) (h5 : b ≤ 1073741824) (h6 : 0 ≤ b) (h7 : p + b ≤ 1125899906842624) : Calls Try.prog 13 #[.agg #[.int .i64 p, .int .i64 m], .int .i64 b] w fun e w' => e = .returned (.tuple #[.agg #[.int .i64 (p + b), .int .i64 m], .int .i64 0]) ∧ Below w.heap.size w w' := by
  have hv : pchk p m = 0 := pchk_yes (by omega)
  have C : ∀ W : World, Calls Try.prog 47 #[.agg #[.int .i64 p, .int .i64 m]] W fun e w' => e = .returned (.int .i64 0) ∧ Below W.heap.size W w' := fun W => (pcheck p m W).mono (by rintro e w' ⟨rfl, h⟩; exact ⟨retP hv, h⟩)
  have D := Lib.hid C
  clear C hv
  have d0 : decide (b < -1073741824) = false := decide_eq_false (by omega)
  have d1 : decide (1073741824 < b) = false := decide_eq_false (by omega)
  have d2 : decide (b < 0) = false := decide_eq_false (by omega)
  have C : ∀ W : World, Calls Try.prog 48 #[.int .i64 p, .int .i64 b] W fun e w' => e = .returned (.tuple #[.int .i64 (p + b), .int .i64 0]) ∧ Below W.heap.size W w' := fun W => (plus_any p b W (by omega) (by omega) (by omega) (by omega)).mono (by rintro e w' ⟨rfl, hb⟩; have := plus_ok p b (by omega) (by omega); exact ⟨ret_two (this.1.trans (by omega)) this.2, hb⟩)
  have E := Lib.hid C
  clear C
  go_enter Try.func13, Try.ntmps13
  go_wp2_with fail
  refine (D.out _).mono ?_; rintro e w1 ⟨rfl, hb⟩
  have HA := Lib.hid (((Blk.new w 25 #[.int .i64 p, .int .i64 m]).alloc (.cells #[.int .i64 0, .int .i64 0] 25)).keep hb)
  have HZ := Lib.hid ((show Blk ((w.alloc (.cells #[.int .i64 p, .int .i64 m] 25)).alloc (.cells #[.int .i64 0, .int .i64 0] 25)) (w.heap.size + 1) 25 #[.int .i64 0, .int .i64 0] by simpa using Blk.new (w.alloc (.cells #[.int .i64 p, .int .i64 m] 25)) 25 #[.int .i64 0, .int .i64 0]).keep hb)
  have HB := Lib.hid ((Joins.below_alloc2 w (.cells #[.int .i64 p, .int .i64 m] 25) (.cells #[.int .i64 0, .int .i64 0] 25)).trans (hb.mono (by simp; omega)))
  clear hb
  have xa0 := HA.out.cell 0
  have xa1 := HA.out.cell 1
  have ya0 := HA.out.frozen 0
  have ya1 := HA.out.frozen 1
  have za0 := HZ.out.cell 0
  have za1 := HZ.out.cell 1
  have va0 := HZ.out.frozen 0
  have va1 := HZ.out.frozen 1
  simp at xa0 xa1 za0 za1
  go_wp2_with fail
  refine (E.out _).mono ?_; rintro e w2 ⟨rfl, hb⟩
  have HA2 := Lib.hid (HA.out.keep hb)
  have HZ2 := Lib.hid (HZ.out.keep hb)
  have HB2 := Lib.hid (HB.out.trans (hb.mono HB.out.size))
  clear hb xa0 xa1 ya0 ya1 za0 za1 va0 va1
  have xb0 := HA2.out.cell 0
  have xb1 := HA2.out.cell 1
  have yb0 := HA2.out.frozen 0
  have yb1 := HA2.out.frozen 1
  have zb0 := HZ2.out.cell 0
  have zb1 := HZ2.out.cell 1
  have vb0 := HZ2.out.frozen 0
  have vb1 := HZ2.out.frozen 1
  simp at xb0 xb1 zb0 zb1
  go_wp2
  exact bodyPost_ret (v := .tuple #[.agg #[.int .i64 (p + b), .int .i64 m], .int .i64 0]) (by simp [results, Try.results13, go_sem, *]) rfl ⟨rfl, by repeat (first | exact HB2.out | refine Below.setCell ?_ (by simp) _)⟩
set_option maxRecDepth 100000 in
set_option maxHeartbeats 3200000 in
theorem papply_overM (p m b : Int) (w : World) (h0 : 0 ≤ p) (h1 : p ≤ 1125899906842624) (h2 : 0 ≤ m) (h3 : m ≤ 1125899906842624) (h4 : -1073741824 ≤ b) (h5 : b ≤ 1073741824) (h6 : b < 0) (h7 : ¬ m - b ≤ 1125899906842624) : Calls Try.prog 13 #[.agg #[.int .i64 p, .int .i64 m], .int .i64 b] w fun e w' => e = .returned (.tuple #[.agg #[.int .i64 0, .int .i64 0], .int .i64 12]) ∧ Below w.heap.size w w' := by
  have hv : pchk p m = 0 := pchk_yes (by omega)
  have C : ∀ W : World, Calls Try.prog 47 #[.agg #[.int .i64 p, .int .i64 m]] W fun e w' => e = .returned (.int .i64 0) ∧ Below W.heap.size W w' := fun W => (pcheck p m W).mono (by rintro e w' ⟨rfl, h⟩; exact ⟨retP hv, h⟩)
  have D := Lib.hid C
  clear C hv
  have d0 : decide (b < -1073741824) = false := decide_eq_false (by omega)
  have d1 : decide (1073741824 < b) = false := decide_eq_false (by omega)
  have d2 : decide (b < 0) = true := decide_eq_true (by omega)
  have C : ∀ W : World, Calls Try.prog 48 #[.int .i64 m, .int .i64 (-b)] W fun e w' => e = .returned (.tuple #[.int .i64 (0), .int .i64 12]) ∧ Below W.heap.size W w' := fun W => (plus_any m (-b) W (by omega) (by omega) (by omega) (by omega)).mono (by rintro e w' ⟨rfl, hb⟩; have := plus_over m (-b) (by omega) (by omega); exact ⟨ret_two (this.1.trans (by omega)) this.2, hb⟩)
  have E := Lib.hid C
  clear C
  go_enter Try.func13, Try.ntmps13
  go_wp2_with fail
  refine (D.out _).mono ?_; rintro e w1 ⟨rfl, hb⟩
  have HA := Lib.hid (((Blk.new w 25 #[.int .i64 p, .int .i64 m]).alloc (.cells #[.int .i64 0, .int .i64 0] 25)).keep hb)
  have HZ := Lib.hid ((show Blk ((w.alloc (.cells #[.int .i64 p, .int .i64 m] 25)).alloc (.cells #[.int .i64 0, .int .i64 0] 25)) (w.heap.size + 1) 25 #[.int .i64 0, .int .i64 0] by simpa using Blk.new (w.alloc (.cells #[.int .i64 p, .int .i64 m] 25)) 25 #[.int .i64 0, .int .i64 0]).keep hb)
  have HB := Lib.hid ((Joins.below_alloc2 w (.cells #[.int .i64 p, .int .i64 m] 25) (.cells #[.int .i64 0, .int .i64 0] 25)).trans (hb.mono (by simp; omega)))
  clear hb
  have xa0 := HA.out.cell 0
  have xa1 := HA.out.cell 1
  have ya0 := HA.out.frozen 0
  have ya1 := HA.out.frozen 1
  have za0 := HZ.out.cell 0
  have za1 := HZ.out.cell 1
  have va0 := HZ.out.frozen 0
  have va1 := HZ.out.frozen 1
  simp at xa0 xa1 za0 za1
  go_wp2_with fail
  refine (E.out _).mono ?_; rintro e w2 ⟨rfl, hb⟩
  have HA2 := Lib.hid (HA.out.keep hb)
  have HZ2 := Lib.hid (HZ.out.keep hb)
  have HB2 := Lib.hid (HB.out.trans (hb.mono HB.out.size))
  clear hb xa0 xa1 ya0 ya1 za0 za1 va0 va1
  have xb0 := HA2.out.cell 0
  have xb1 := HA2.out.cell 1
  have yb0 := HA2.out.frozen 0
  have yb1 := HA2.out.frozen 1
  have zb0 := HZ2.out.cell 0
  have zb1 := HZ2.out.cell 1
  have vb0 := HZ2.out.frozen 0
  have vb1 := HZ2.out.frozen 1
  simp at xb0 xb1 zb0 zb1
  go_wp2
  exact bodyPost_ret (v := .tuple #[.agg #[.int .i64 0, .int .i64 0], .int .i64 12]) (by simp [results, Try.results13, go_sem, *]) rfl ⟨rfl, by repeat (first | exact HB2.out | refine Below.setCell ?_ (by simp) _)⟩
set_option maxRecDepth 100000 in
set_option maxHeartbeats 3200000 in
theorem papply_okM (p m b : Int) (w : World) (h0 : 0 ≤ p) (h1 : p ≤ 1125899906842624) (h2 : 0 ≤ m) (h3 : m ≤ 1125899906842624) (h4 : -1073741824 ≤ b) (h5 : b ≤ 1073741824) (h6 : b < 0) (h7 : m - b ≤ 1125899906842624) : Calls Try.prog 13 #[.agg #[.int .i64 p, .int .i64 m], .int .i64 b] w fun e w' => e = .returned (.tuple #[.agg #[.int .i64 p, .int .i64 (m - b)], .int .i64 0]) ∧ Below w.heap.size w w' := by
  have hv : pchk p m = 0 := pchk_yes (by omega)
  have C : ∀ W : World, Calls Try.prog 47 #[.agg #[.int .i64 p, .int .i64 m]] W fun e w' => e = .returned (.int .i64 0) ∧ Below W.heap.size W w' := fun W => (pcheck p m W).mono (by rintro e w' ⟨rfl, h⟩; exact ⟨retP hv, h⟩)
  have D := Lib.hid C
  clear C hv
  have d0 : decide (b < -1073741824) = false := decide_eq_false (by omega)
  have d1 : decide (1073741824 < b) = false := decide_eq_false (by omega)
  have d2 : decide (b < 0) = true := decide_eq_true (by omega)
  have C : ∀ W : World, Calls Try.prog 48 #[.int .i64 m, .int .i64 (-b)] W fun e w' => e = .returned (.tuple #[.int .i64 (m - b), .int .i64 0]) ∧ Below W.heap.size W w' := fun W => (plus_any m (-b) W (by omega) (by omega) (by omega) (by omega)).mono (by rintro e w' ⟨rfl, hb⟩; have := plus_ok m (-b) (by omega) (by omega); exact ⟨ret_two (this.1.trans (by omega)) this.2, hb⟩)
  have E := Lib.hid C
  clear C
  go_enter Try.func13, Try.ntmps13
  go_wp2_with fail
  refine (D.out _).mono ?_; rintro e w1 ⟨rfl, hb⟩
  have HA := Lib.hid (((Blk.new w 25 #[.int .i64 p, .int .i64 m]).alloc (.cells #[.int .i64 0, .int .i64 0] 25)).keep hb)
  have HZ := Lib.hid ((show Blk ((w.alloc (.cells #[.int .i64 p, .int .i64 m] 25)).alloc (.cells #[.int .i64 0, .int .i64 0] 25)) (w.heap.size + 1) 25 #[.int .i64 0, .int .i64 0] by simpa using Blk.new (w.alloc (.cells #[.int .i64 p, .int .i64 m] 25)) 25 #[.int .i64 0, .int .i64 0]).keep hb)
  have HB := Lib.hid ((Joins.below_alloc2 w (.cells #[.int .i64 p, .int .i64 m] 25) (.cells #[.int .i64 0, .int .i64 0] 25)).trans (hb.mono (by simp; omega)))
  clear hb
  have xa0 := HA.out.cell 0
  have xa1 := HA.out.cell 1
  have ya0 := HA.out.frozen 0
  have ya1 := HA.out.frozen 1
  have za0 := HZ.out.cell 0
  have za1 := HZ.out.cell 1
  have va0 := HZ.out.frozen 0
  have va1 := HZ.out.frozen 1
  simp at xa0 xa1 za0 za1
  go_wp2_with fail
  refine (E.out _).mono ?_; rintro e w2 ⟨rfl, hb⟩
  have HA2 := Lib.hid (HA.out.keep hb)
  have HZ2 := Lib.hid (HZ.out.keep hb)
  have HB2 := Lib.hid (HB.out.trans (hb.mono HB.out.size))
  clear hb xa0 xa1 ya0 ya1 za0 za1 va0 va1
  have xb0 := HA2.out.cell 0
  have xb1 := HA2.out.cell 1
  have yb0 := HA2.out.frozen 0
  have yb1 := HA2.out.frozen 1
  have zb0 := HZ2.out.cell 0
  have zb1 := HZ2.out.cell 1
  have vb0 := HZ2.out.frozen 0
  have vb1 := HZ2.out.frozen 1
  simp at xb0 xb1 zb0 zb1
  go_wp2
  exact bodyPost_ret (v := .tuple #[.agg #[.int .i64 p, .int .i64 (m - b)], .int .i64 0]) (by simp [results, Try.results13, go_sem, *]) rfl ⟨rfl, by repeat (first | exact HB2.out | refine Below.setCell ?_ (by simp) _)⟩
theorem papply (p m b : Int) (w : World) (hb0 : -9223372036854775808 ≤ b) (hb1 : b ≤ 9223372036854775807) : Calls Try.prog 13 #[.agg #[.int .i64 p, .int .i64 m], .int .i64 b] w fun e w' => e = .returned (.tuple #[.agg #[.int .i64 (apP p m b), .int .i64 (apM p m b)], .int .i64 (apE p m b)]) ∧ Below w.heap.size w w' := by
  by_cases h : 0 ≤ p ∧ p ≤ 1125899906842624 ∧ 0 ≤ m ∧ m ≤ 1125899906842624
  · have hc := pchk_yes h
    obtain ⟨h0, h1, h2, h3⟩ := h
    by_cases h4 : b < -1073741824
    · exact (papply_low p m b w h0 h1 h2 h3 h4).mono (by rintro e w' ⟨rfl, hb⟩; exact ⟨retA (ap_bad (by omega)), hb⟩)
    by_cases h5 : 1073741824 < b
    · exact (papply_high p m b w h0 h1 h2 h3 h5).mono (by rintro e w' ⟨rfl, hb⟩; exact ⟨retA (ap_bad (by omega)), hb⟩)
    have hr : pchk p m = 0 ∧ -1073741824 ≤ b ∧ b ≤ 1073741824 := ⟨hc, by omega, by omega⟩
    by_cases h6 : 0 ≤ b
    · by_cases h7 : p + b ≤ 1125899906842624
      · exact (papply_okP p m b w h0 h1 h2 h3 (by omega) (by omega) h6 h7).mono (by rintro e w' ⟨rfl, hb⟩; exact ⟨retA (ap_okP hr h6 h7), hb⟩)
      · exact (papply_overP p m b w h0 h1 h2 h3 (by omega) (by omega) h6 h7).mono (by rintro e w' ⟨rfl, hb⟩; exact ⟨retA (ap_overP hr h6 h7), hb⟩)
    · by_cases h7 : m - b ≤ 1125899906842624
      · exact (papply_okM p m b w h0 h1 h2 h3 (by omega) (by omega) (by omega) h7).mono (by rintro e w' ⟨rfl, hb⟩; exact ⟨retA (ap_okM hr h6 h7), hb⟩)
      · exact (papply_overM p m b w h0 h1 h2 h3 (by omega) (by omega) (by omega) h7).mono (by rintro e w' ⟨rfl, hb⟩; exact ⟨retA (ap_overM hr h6 h7), hb⟩)
  · exact (papply_bad p m b w h).mono (by rintro e w' ⟨rfl, hb⟩; exact ⟨retA (ap_bad (by rw [pchk_no h]; omega)), hb⟩)
def pval (p m : Int) : Int := if pchk p m = 0 then p - m else 0
theorem pvalue (p m : Int) (w : World) : Calls Try.prog 14 #[.agg #[.int .i64 p, .int .i64 m]] w fun e w' => e = .returned (.int .i64 (pval p m)) ∧ Below w.heap.size w w' := by
  by_cases h : 0 ≤ p ∧ p ≤ 1125899906842624 ∧ 0 ≤ m ∧ m ≤ 1125899906842624
  · have hv := pchk_yes h
    have HV := Lib.hid (show pval p m = p - m from if_pos hv)
    have C : ∀ W : World, Calls Try.prog 47 #[.agg #[.int .i64 p, .int .i64 m]] W fun e w' => e = .returned (.int .i64 0) ∧ Below W.heap.size W w' := fun W => (pcheck p m W).mono (by rintro e w' ⟨rfl, h⟩; exact ⟨retP hv, h⟩)
    have D := Lib.hid C
    obtain ⟨h0, h1, h2, h3⟩ := h
    clear C hv
    go_enter Try.func14, Try.ntmps14
    go_wp2_with fail
    refine (D.out _).mono ?_; rintro e w1 ⟨rfl, hb⟩
    have x0 := ((Blk.new w 25 #[.int .i64 p, .int .i64 m]).keep hb).cell 0
    have x1 := ((Blk.new w 25 #[.int .i64 p, .int .i64 m]).keep hb).cell 1
    simp at x0 x1
    have HB := Lib.hid ((Joins.below_alloc1 w (.cells #[.int .i64 p, .int .i64 m] 25)).trans (hb.mono (by simp)))
    clear hb
    go_wp2
    go_ret
    exact ⟨retP HV.out.symm, HB.out⟩
  · have hv := pchk_no h
    have HV := Lib.hid (show pval p m = 0 from if_neg (by omega))
    have C : ∀ W : World, Calls Try.prog 47 #[.agg #[.int .i64 p, .int .i64 m]] W fun e w' => e = .returned (.int .i64 2) ∧ Below W.heap.size W w' := fun W => (pcheck p m W).mono (by rintro e w' ⟨rfl, h⟩; exact ⟨retP hv, h⟩)
    have D := Lib.hid C
    clear C hv h
    go_enter Try.func14, Try.ntmps14
    go_wp2_with fail
    refine (D.out _).mono ?_; rintro e w1 ⟨rfl, hb⟩
    go_wp2
    go_ret
    exact ⟨retP HV.out.symm, (Joins.below_alloc1 w _).trans (hb.mono (by simp))⟩
end Go.Proofs.Ytfpaojkcmijfgaa

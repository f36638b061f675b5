/- Contracts of vec.Take. -/
import Derived.Test.YtofpefbnkmeokaaVec6r
import Derived.Test.YtofpefbnkmeokaaBlk
import Derived.ChangeKeysEq
import Derived.Deep.QuietTactic
import Derived.BigQuiet
import Derived.Lib.QuietBelow
import Derived.WalkSpells
namespace Go.Proofs.Ytofpefbnkmeokaa
open Go.RowKit
set_option linter.unusedVariables false
attribute [local go_sem ↓] Go.wp_at_zero Go.wp_at_succ
def tkE (x0 x1 x2 x3 x4 x5 x6 x7 o s : Int) : Int := if vchk x0 x1 x2 x3 x4 x5 x6 x7 = 0 ∧ idV o s = 0 then (if s ≤ pk x0 x1 x2 x3 x4 x5 x6 x7 o then 11 else if s = pk x0 x1 x2 x3 x4 x5 x6 x7 o + 1 then 0 else 17) else 2
def tkV (x0 x1 x2 x3 x4 x5 x6 x7 o s : Int) : Value := if tkE x0 x1 x2 x3 x4 x5 x6 x7 o s = 0 then .agg #[.int .u32 (if o = 0 then s else x0), .int .u32 (if o = 1 then s else x1), .int .u32 (if o = 2 then s else x2), .int .u32 (if o = 3 then s else x3), .int .u32 (if o = 4 then s else x4), .int .u32 (if o = 5 then s else x5), .int .u32 (if o = 6 then s else x6), .int .u32 (if o = 7 then s else x7)] else .agg #[.int .u32 0, .int .u32 0, .int .u32 0, .int .u32 0, .int .u32 0, .int .u32 0, .int .u32 0, .int .u32 0]
theorem tk_bad {x0 x1 x2 x3 x4 x5 x6 x7 o s : Int} (h : ¬ (vchk x0 x1 x2 x3 x4 x5 x6 x7 = 0 ∧ idV o s = 0)) : tkE x0 x1 x2 x3 x4 x5 x6 x7 o s = 2 ∧ tkV x0 x1 x2 x3 x4 x5 x6 x7 o s = .agg #[.int .u32 0, .int .u32 0, .int .u32 0, .int .u32 0, .int .u32 0, .int .u32 0, .int .u32 0, .int .u32 0] := by
  have e : tkE x0 x1 x2 x3 x4 x5 x6 x7 o s = 2 := if_neg h
  exact ⟨e, by unfold tkV; rw [if_neg (by omega)]⟩
theorem tk_twice {x0 x1 x2 x3 x4 x5 x6 x7 o s : Int} (h : vchk x0 x1 x2 x3 x4 x5 x6 x7 = 0 ∧ idV o s = 0) (h2 : s ≤ pk x0 x1 x2 x3 x4 x5 x6 x7 o) : tkE x0 x1 x2 x3 x4 x5 x6 x7 o s = 11 ∧ tkV x0 x1 x2 x3 x4 x5 x6 x7 o s = .agg #[.int .u32 0, .int .u32 0, .int .u32 0, .int .u32 0, .int .u32 0, .int .u32 0, .int .u32 0, .int .u32 0] := by
  have e : tkE x0 x1 x2 x3 x4 x5 x6 x7 o s = 11 := by unfold tkE; rw [if_pos h, if_pos h2]
  exact ⟨e, by unfold tkV; rw [if_neg (by omega)]⟩
theorem tk_gap {x0 x1 x2 x3 x4 x5 x6 x7 o s : Int} (h : vchk x0 x1 x2 x3 x4 x5 x6 x7 = 0 ∧ idV o s = 0) (h2 : ¬ s ≤ pk x0 x1 x2 x3 x4 x5 x6 x7 o) (h3 : ¬ s = pk x0 x1 x2 x3 x4 x5 x6 x7 o + 1) : tkE x0 x1 x2 x3 x4 x5 x6 x7 o s = 17 ∧ tkV x0 x1 x2 x3 x4 x5 x6 x7 o s = .agg #[.int .u32 0, .int .u32 0, .int .u32 0, .int .u32 0, .int .u32 0, .int .u32 0, .int .u32 0, .int .u32 0] := by
  have e : tkE x0 x1 x2 x3 x4 x5 x6 x7 o s = 17 := by unfold tkE; rw [if_pos h, if_neg h2, if_neg h3]
  exact ⟨e, by unfold tkV; rw [if_neg (by omega)]⟩
theorem tk_ok {x0 x1 x2 x3 x4 x5 x6 x7 o s : Int} (h : vchk x0 x1 x2 x3 x4 x5 x6 x7 = 0 ∧ idV o s = 0) (h3 : s = pk x0 x1 x2 x3 x4 x5 x6 x7 o + 1) : tkE x0 x1 x2 x3 x4 x5 x6 x7 o s = 0 ∧ tkV x0 x1 x2 x3 x4 x5 x6 x7 o s = .agg #[.int .u32 (if o = 0 then s else x0), .int .u32 (if o = 1 then s else x1), .int .u32 (if o = 2 then s else x2), .int .u32 (if o = 3 then s else x3), .int .u32 (if o = 4 then s else x4), .int .u32 (if o = 5 then s else x5), .int .u32 (if o = 6 then s else x6), .int .u32 (if o = 7 then s else x7)] := by
  have e : tkE x0 x1 x2 x3 x4 x5 x6 x7 o s = 0 := by unfold tkE; rw [if_pos h, if_neg (by omega), if_pos h3]
  exact ⟨e, by unfold tkV; rw [if_pos e]⟩
theorem tk_shape (x0 x1 x2 x3 x4 x5 x6 x7 o s : Int) : ∃ z0 z1 z2 z3 z4 z5 z6 z7 : Int, tkV x0 x1 x2 x3 x4 x5 x6 x7 o s = .agg #[.int .u32 z0, .int .u32 z1, .int .u32 z2, .int .u32 z3, .int .u32 z4, .int .u32 z5, .int .u32 z6, .int .u32 z7] := by
  unfold tkV; split
  · exact ⟨_, _, _, _, _, _, _, _, rfl⟩
  · exact ⟨_, _, _, _, _, _, _, _, rfl⟩
theorem ret_tk {a a' : Int} {v v' : Value} (h : a = a' ∧ v = v') : Ending.returned (.tuple #[v', .int .i64 a']) = .returned (.tuple #[v, .int .i64 a]) := by
  obtain ⟨rfl, rfl⟩ := h; rfl
theorem blk_at2 {w : World} {m : Nat} (h : w.heap.size = m) (T : TypeId) (cs : Array Value) : Blk (w.alloc (.cells cs T)) m T cs := by subst h; exact Blk.new _ _ _
theorem k_cases {k : Nat} (h : k < 8) : k = 0 ∨ k = 1 ∨ k = 2 ∨ k = 3 ∨ k = 4 ∨ k = 5 ∨ k = 6 ∨ k = 7 := by omega
set_option maxRecDepth 100000 in
set_option maxHeartbeats 1600000 in
theorem vtake_bad (x0 x1 x2 x3 x4 x5 x6 x7 : Int) (w : World) (o s : Int) (hs : 0 ≤ s) (hv : vchk x0 x1 x2 x3 x4 x5 x6 x7 = 2) :
    Calls Try.prog 11 #[.agg #[.int .u32 x0, .int .u32 x1, .int .u32 x2, .int .u32 x3, .int .u32 x4, .int .u32 x5, .int .u32 x6, .int .u32 x7], .agg #[.int .i64 o, .int .u32 s]] w fun e w' => e = .returned (.tuple #[.agg #[.int .u32 0, .int .u32 0, .int .u32 0, .int .u32 0, .int .u32 0, .int .u32 0, .int .u32 0, .int .u32 0], .int .i64 2]) ∧ Below w.heap.size w w' := by
  have C1 : ∀ W : World, Calls Try.prog 5 #[.agg #[.int .u32 x0, .int .u32 x1, .int .u32 x2, .int .u32 x3, .int .u32 x4, .int .u32 x5, .int .u32 x6, .int .u32 x7]] W fun e w' => e = .returned (.int .i64 2) ∧ Below W.heap.size W w' := fun W => (vcheck x0 x1 x2 x3 x4 x5 x6 x7 W).mono (by rintro e w' ⟨rfl, h⟩; exact ⟨retI hv, h⟩)
  have D := Lib.hid C1
  clear C1
  clear hv
  go_enter Try.func11, Try.ntmps11
  go_wp2_with fail
  have HV0 := Lib.hid (((Blk.new w 24 #[.int .u32 x0, .int .u32 x1, .int .u32 x2, .int .u32 x3, .int .u32 x4, .int .u32 x5, .int .u32 x6, .int .u32 x7]).alloc (.cells #[.int .i64 o, .int .u32 s] 40)).alloc (.cells #[.int .u32 0, .int .u32 0, .int .u32 0, .int .u32 0, .int .u32 0, .int .u32 0, .int .u32 0, .int .u32 0] 24))
  have HI0 := Lib.hid ((blk_at2 (w := w.alloc (.cells #[.int .u32 x0, .int .u32 x1, .int .u32 x2, .int .u32 x3, .int .u32 x4, .int .u32 x5, .int .u32 x6, .int .u32 x7] 24)) (by simp) 40 #[.int .i64 o, .int .u32 s] : Blk _ (w.heap.size + 1) _ _).alloc (.cells #[.int .u32 0, .int .u32 0, .int .u32 0, .int .u32 0, .int .u32 0, .int .u32 0, .int .u32 0, .int .u32 0] 24))
  have HR0 := Lib.hid (blk_at2 (w := (w.alloc (.cells #[.int .u32 x0, .int .u32 x1, .int .u32 x2, .int .u32 x3, .int .u32 x4, .int .u32 x5, .int .u32 x6, .int .u32 x7] 24)).alloc (.cells #[.int .i64 o, .int .u32 s] 40)) (by simp) 24 #[.int .u32 0, .int .u32 0, .int .u32 0, .int .u32 0, .int .u32 0, .int .u32 0, .int .u32 0, .int .u32 0] : Blk _ (w.heap.size + 1 + 1) _ _)
  have HB0 := Lib.hid (Joins.below_alloc3 w (.cells #[.int .u32 x0, .int .u32 x1, .int .u32 x2, .int .u32 x3, .int .u32 x4, .int .u32 x5, .int .u32 x6, .int .u32 x7] 24) (.cells #[.int .i64 o, .int .u32 s] 40) (.cells #[.int .u32 0, .int .u32 0, .int .u32 0, .int .u32 0, .int .u32 0, .int .u32 0, .int .u32 0, .int .u32 0] 24))
  refine (D.out _).mono ?_; rintro e w1 ⟨rfl, hb1⟩
  have HV1 := Lib.hid (HV0.out.keep hb1)
  have HI1 := Lib.hid (HI0.out.keep hb1)
  have HR1 := Lib.hid (HR0.out.keep hb1)
  have HB1 := Lib.hid (HB0.out.trans (hb1.mono HB0.out.size))
  clear hb1 HV0 HI0 HR0 HB0
  have hz := HR1.out.lt
  have r0 := HR1.out.cell 0
  have r1 := HR1.out.cell 1
  have r2 := HR1.out.cell 2
  have r3 := HR1.out.cell 3
  have r4 := HR1.out.cell 4
  have r5 := HR1.out.cell 5
  have r6 := HR1.out.cell 6
  have r7 := HR1.out.cell 7
  simp at r0 r1 r2 r3 r4 r5 r6 r7
  have rf0 := HR1.out.frozen 0
  have rf1 := HR1.out.frozen 1
  have rf2 := HR1.out.frozen 2
  have rf3 := HR1.out.frozen 3
  have rf4 := HR1.out.frozen 4
  have rf5 := HR1.out.frozen 5
  have rf6 := HR1.out.frozen 6
  have rf7 := HR1.out.frozen 7
  go_wp2
  exact bodyPost_ret (v := .tuple #[.agg #[.int .u32 0, .int .u32 0, .int .u32 0, .int .u32 0, .int .u32 0, .int .u32 0, .int .u32 0, .int .u32 0], .int .i64 2]) (by simp [results, Try.results11, go_sem, r0, r1, r2, r3, r4, r5, r6, r7]) rfl ⟨rfl, ((((((((HB1.out.setCell (by simp <;> omega) _).setCell (by simp <;> omega) _).setCell (by simp <;> omega) _).setCell (by simp <;> omega) _).setCell (by simp <;> omega) _).setCell (by simp <;> omega) _).setCell (by simp <;> omega) _).setCell (by simp <;> omega) _)⟩
set_option maxRecDepth 100000 in
set_option maxHeartbeats 1600000 in
theorem vtake_badid (x0 x1 x2 x3 x4 x5 x6 x7 : Int) (w : World) (o s : Int) (hs : 0 ≤ s) (hv : vchk x0 x1 x2 x3 x4 x5 x6 x7 = 0) (hi : idV o s = 2) :
    Calls Try.prog 11 #[.agg #[.int .u32 x0, .int .u32 x1, .int .u32 x2, .int .u32 x3, .int .u32 x4, .int .u32 x5, .int .u32 x6, .int .u32 x7], .agg #[.int .i64 o, .int .u32 s]] w fun e w' => e = .returned (.tuple #[.agg #[.int .u32 0, .int .u32 0, .int .u32 0, .int .u32 0, .int .u32 0, .int .u32 0, .int .u32 0, .int .u32 0], .int .i64 2]) ∧ Below w.heap.size w w' := by
  have C1 : ∀ W : World, Calls Try.prog 5 #[.agg #[.int .u32 x0, .int .u32 x1, .int .u32 x2, .int .u32 x3, .int .u32 x4, .int .u32 x5, .int .u32 x6, .int .u32 x7]] W fun e w' => e = .returned (.int .i64 0) ∧ Below W.heap.size W w' := fun W => (vcheck x0 x1 x2 x3 x4 x5 x6 x7 W).mono (by rintro e w' ⟨rfl, h⟩; exact ⟨retI hv, h⟩)
  have D := Lib.hid C1
  clear C1
  have C2 : ∀ W : World, Calls Try.prog 19 #[.agg #[.int .i64 o, .int .u32 s]] W fun e w' => e = .returned (.int .i64 2) ∧ Below W.heap.size W w' := fun W => (idcheck o s W hs).mono (by rintro e w' ⟨rfl, h⟩; exact ⟨retI hi, h⟩)
  have E := Lib.hid C2
  clear C2
  clear hv hi
  go_enter Try.func11, Try.ntmps11
  go_wp2_with fail
  have HV0 := Lib.hid (((Blk.new w 24 #[.int .u32 x0, .int .u32 x1, .int .u32 x2, .int .u32 x3, .int .u32 x4, .int .u32 x5, .int .u32 x6, .int .u32 x7]).alloc (.cells #[.int .i64 o, .int .u32 s] 40)).alloc (.cells #[.int .u32 0, .int .u32 0, .int .u32 0, .int .u32 0, .int .u32 0, .int .u32 0, .int .u32 0, .int .u32 0] 24))
  have HI0 := Lib.hid ((blk_at2 (w := w.alloc (.cells #[.int .u32 x0, .int .u32 x1, .int .u32 x2, .int .u32 x3, .int .u32 x4, .int .u32 x5, .int .u32 x6, .int .u32 x7] 24)) (by simp) 40 #[.int .i64 o, .int .u32 s] : Blk _ (w.heap.size + 1) _ _).alloc (.cells #[.int .u32 0, .int .u32 0, .int .u32 0, .int .u32 0, .int .u32 0, .int .u32 0, .int .u32 0, .int .u32 0] 24))
  have HR0 := Lib.hid (blk_at2 (w := (w.alloc (.cells #[.int .u32 x0, .int .u32 x1, .int .u32 x2, .int .u32 x3, .int .u32 x4, .int .u32 x5, .int .u32 x6, .int .u32 x7] 24)).alloc (.cells #[.int .i64 o, .int .u32 s] 40)) (by simp) 24 #[.int .u32 0, .int .u32 0, .int .u32 0, .int .u32 0, .int .u32 0, .int .u32 0, .int .u32 0, .int .u32 0] : Blk _ (w.heap.size + 1 + 1) _ _)
  have HB0 := Lib.hid (Joins.below_alloc3 w (.cells #[.int .u32 x0, .int .u32 x1, .int .u32 x2, .int .u32 x3, .int .u32 x4, .int .u32 x5, .int .u32 x6, .int .u32 x7] 24) (.cells #[.int .i64 o, .int .u32 s] 40) (.cells #[.int .u32 0, .int .u32 0, .int .u32 0, .int .u32 0, .int .u32 0, .int .u32 0, .int .u32 0, .int .u32 0] 24))
  refine (D.out _).mono ?_; rintro e w1 ⟨rfl, hb1⟩
  have HV1 := Lib.hid (HV0.out.keep hb1)
  have HI1 := Lib.hid (HI0.out.keep hb1)
  have HR1 := Lib.hid (HR0.out.keep hb1)
  have HB1 := Lib.hid (HB0.out.trans (hb1.mono HB0.out.size))
  clear hb1 HV0 HI0 HR0 HB0
  have hz := HR1.out.lt
  have i0 := HI1.out.cell 0
  have i1 := HI1.out.cell 1
  simp at i0 i1
  go_wp2_with fail
  refine (E.out _).mono ?_; rintro e w2 ⟨rfl, hb2⟩
  have HV2 := Lib.hid (HV1.out.keep hb2)
  have HI2 := Lib.hid (HI1.out.keep hb2)
  have HR2 := Lib.hid (HR1.out.keep hb2)
  have HB2 := Lib.hid (HB1.out.trans (hb2.mono HB1.out.size))
  clear hb2 HV1 HI1 HR1 HB1
  clear i0 i1
  have hz := HR2.out.lt
  have r0 := HR2.out.cell 0
  have r1 := HR2.out.cell 1
  have r2 := HR2.out.cell 2
  have r3 := HR2.out.cell 3
  have r4 := HR2.out.cell 4
  have r5 := HR2.out.cell 5
  have r6 := HR2.out.cell 6
  have r7 := HR2.out.cell 7
  simp at r0 r1 r2 r3 r4 r5 r6 r7
  have rf0 := HR2.out.frozen 0
  have rf1 := HR2.out.frozen 1
  have rf2 := HR2.out.frozen 2
  have rf3 := HR2.out.frozen 3
  have rf4 := HR2.out.frozen 4
  have rf5 := HR2.out.frozen 5
  have rf6 := HR2.out.frozen 6
  have rf7 := HR2.out.frozen 7
  go_wp2
  exact bodyPost_ret (v := .tuple #[.agg #[.int .u32 0, .int .u32 0, .int .u32 0, .int .u32 0, .int .u32 0, .int .u32 0, .int .u32 0, .int .u32 0], .int .i64 2]) (by simp [results, Try.results11, go_sem, r0, r1, r2, r3, r4, r5, r6, r7]) rfl ⟨rfl, ((((((((HB2.out.setCell (by simp <;> omega) _).setCell (by simp <;> omega) _).setCell (by simp <;> omega) _).setCell (by simp <;> omega) _).setCell (by simp <;> omega) _).setCell (by simp <;> omega) _).setCell (by simp <;> omega) _).setCell (by simp <;> omega) _)⟩
set_option maxRecDepth 100000 in
set_option maxHeartbeats 1600000 in
theorem vtake_twice (x0 x1 x2 x3 x4 x5 x6 x7 : Int) (w : World) (k : Nat) (s P : Int) (hs : 0 ≤ s) (hk : k < 8) (hv : vchk x0 x1 x2 x3 x4 x5 x6 x7 = 0) (hi : idV (k : Int) s = 0) (hP : pk x0 x1 x2 x3 x4 x5 x6 x7 (k : Int) = P) (hP0 : 0 ≤ P) (hP1 : P ≤ 1048576) (ht : s ≤ P) :
    Calls Try.prog 11 #[.agg #[.int .u32 x0, .int .u32 x1, .int .u32 x2, .int .u32 x3, .int .u32 x4, .int .u32 x5, .int .u32 x6, .int .u32 x7], .agg #[.int .i64 (k : Int), .int .u32 s]] w fun e w' => e = .returned (.tuple #[.agg #[.int .u32 0, .int .u32 0, .int .u32 0, .int .u32 0, .int .u32 0, .int .u32 0, .int .u32 0, .int .u32 0], .int .i64 11]) ∧ Below w.heap.size w w' := by
  have C1 : ∀ W : World, Calls Try.prog 5 #[.agg #[.int .u32 x0, .int .u32 x1, .int .u32 x2, .int .u32 x3, .int .u32 x4, .int .u32 x5, .int .u32 x6, .int .u32 x7]] W fun e w' => e = .returned (.int .i64 0) ∧ Below W.heap.size W w' := fun W => (vcheck x0 x1 x2 x3 x4 x5 x6 x7 W).mono (by rintro e w' ⟨rfl, h⟩; exact ⟨retI hv, h⟩)
  have D := Lib.hid C1
  clear C1
  have C2 : ∀ W : World, Calls Try.prog 19 #[.agg #[.int .i64 (k : Int), .int .u32 s]] W fun e w' => e = .returned (.int .i64 0) ∧ Below W.heap.size W w' := fun W => (idcheck (k : Int) s W hs).mono (by rintro e w' ⟨rfl, h⟩; exact ⟨retI hi, h⟩)
  have E := Lib.hid C2
  clear C2
  have C3 : ∀ W : World, Calls Try.prog 20 #[.agg #[.int .u32 x0, .int .u32 x1, .int .u32 x2, .int .u32 x3, .int .u32 x4, .int .u32 x5, .int .u32 x6, .int .u32 x7], .agg #[.int .i64 (k : Int), .int .u32 s]] W fun e w' => e = .returned (.bool true) ∧ Below W.heap.size W w' := fun W => (vhas x0 x1 x2 x3 x4 x5 x6 x7 (k : Int) s W hs).mono (by rintro e w' ⟨rfl, h⟩; exact ⟨ret_bh (by unfold hasB; rw [hP]; simp [hi]; omega), h⟩)
  have F := Lib.hid C3
  clear C3
  obtain ⟨-, -, hs1, hs2⟩ := idV_inv hi
  have HPK := Lib.hid hP
  have hk0 : (0 : Int) ≤ (k : Int) := by omega
  have hk1 : (k : Int) < 8 := by omega
  clear hv hi hP ht
  go_enter Try.func11, Try.ntmps11
  go_wp2_with fail
  have HV0 := Lib.hid (((Blk.new w 24 #[.int .u32 x0, .int .u32 x1, .int .u32 x2, .int .u32 x3, .int .u32 x4, .int .u32 x5, .int .u32 x6, .int .u32 x7]).alloc (.cells #[.int .i64 (k : Int), .int .u32 s] 40)).alloc (.cells #[.int .u32 0, .int .u32 0, .int .u32 0, .int .u32 0, .int .u32 0, .int .u32 0, .int .u32 0, .int .u32 0] 24))
  have HI0 := Lib.hid ((blk_at2 (w := w.alloc (.cells #[.int .u32 x0, .int .u32 x1, .int .u32 x2, .int .u32 x3, .int .u32 x4, .int .u32 x5, .int .u32 x6, .int .u32 x7] 24)) (by simp) 40 #[.int .i64 (k : Int), .int .u32 s] : Blk _ (w.heap.size + 1) _ _).alloc (.cells #[.int .u32 0, .int .u32 0, .int .u32 0, .int .u32 0, .int .u32 0, .int .u32 0, .int .u32 0, .int .u32 0] 24))
  have HR0 := Lib.hid (blk_at2 (w := (w.alloc (.cells #[.int .u32 x0, .int .u32 x1, .int .u32 x2, .int .u32 x3, .int .u32 x4, .int .u32 x5, .int .u32 x6, .int .u32 x7] 24)).alloc (.cells #[.int .i64 (k : Int), .int .u32 s] 40)) (by simp) 24 #[.int .u32 0, .int .u32 0, .int .u32 0, .int .u32 0, .int .u32 0, .int .u32 0, .int .u32 0, .int .u32 0] : Blk _ (w.heap.size + 1 + 1) _ _)
  have HB0 := Lib.hid (Joins.below_alloc3 w (.cells #[.int .u32 x0, .int .u32 x1, .int .u32 x2, .int .u32 x3, .int .u32 x4, .int .u32 x5, .int .u32 x6, .int .u32 x7] 24) (.cells #[.int .i64 (k : Int), .int .u32 s] 40) (.cells #[.int .u32 0, .int .u32 0, .int .u32 0, .int .u32 0, .int .u32 0, .int .u32 0, .int .u32 0, .int .u32 0] 24))
  refine (D.out _).mono ?_; rintro e w1 ⟨rfl, hb1⟩
  have HV1 := Lib.hid (HV0.out.keep hb1)
  have HI1 := Lib.hid (HI0.out.keep hb1)
  have HR1 := Lib.hid (HR0.out.keep hb1)
  have HB1 := Lib.hid (HB0.out.trans (hb1.mono HB0.out.size))
  clear hb1 HV0 HI0 HR0 HB0
  have hz := HR1.out.lt
  have i0 := HI1.out.cell 0
  have i1 := HI1.out.cell 1
  simp at i0 i1
  go_wp2_with fail
  refine (E.out _).mono ?_; rintro e w2 ⟨rfl, hb2⟩
  have HV2 := Lib.hid (HV1.out.keep hb2)
  have HI2 := Lib.hid (HI1.out.keep hb2)
  have HR2 := Lib.hid (HR1.out.keep hb2)
  have HB2 := Lib.hid (HB1.out.trans (hb2.mono HB1.out.size))
  clear hb2 HV1 HI1 HR1 HB1
  clear i0 i1
  have hz := HR2.out.lt
  have v0 := HV2.out.cell 0
  have v1 := HV2.out.cell 1
  have v2 := HV2.out.cell 2
  have v3 := HV2.out.cell 3
  have v4 := HV2.out.cell 4
  have v5 := HV2.out.cell 5
  have v6 := HV2.out.cell 6
  have v7 := HV2.out.cell 7
  simp at v0 v1 v2 v3 v4 v5 v6 v7
  have i0 := HI2.out.cell 0
  have i1 := HI2.out.cell 1
  simp at i0 i1
  go_wp2_with fail
  refine (F.out _).mono ?_; rintro e w3 ⟨rfl, hb3⟩
  have HV3 := Lib.hid (HV2.out.keep hb3)
  have HI3 := Lib.hid (HI2.out.keep hb3)
  have HR3 := Lib.hid (HR2.out.keep hb3)
  have HB3 := Lib.hid (HB2.out.trans (hb3.mono HB2.out.size))
  clear hb3 HV2 HI2 HR2 HB2
  clear v0 v1 v2 v3 v4 v5 v6 v7
  clear i0 i1
  have hz := HR3.out.lt
  have r0 := HR3.out.cell 0
  have r1 := HR3.out.cell 1
  have r2 := HR3.out.cell 2
  have r3 := HR3.out.cell 3
  have r4 := HR3.out.cell 4
  have r5 := HR3.out.cell 5
  have r6 := HR3.out.cell 6
  have r7 := HR3.out.cell 7
  simp at r0 r1 r2 r3 r4 r5 r6 r7
  have rf0 := HR3.out.frozen 0
  have rf1 := HR3.out.frozen 1
  have rf2 := HR3.out.frozen 2
  have rf3 := HR3.out.frozen 3
  have rf4 := HR3.out.frozen 4
  have rf5 := HR3.out.frozen 5
  have rf6 := HR3.out.frozen 6
  have rf7 := HR3.out.frozen 7
  go_wp2
  exact bodyPost_ret (v := .tuple #[.agg #[.int .u32 0, .int .u32 0, .int .u32 0, .int .u32 0, .int .u32 0, .int .u32 0, .int .u32 0, .int .u32 0], .int .i64 11]) (by simp [results, Try.results11, go_sem, r0, r1, r2, r3, r4, r5, r6, r7]) rfl ⟨rfl, ((((((((HB3.out.setCell (by simp <;> omega) _).setCell (by simp <;> omega) _).setCell (by simp <;> omega) _).setCell (by simp <;> omega) _).setCell (by simp <;> omega) _).setCell (by simp <;> omega) _).setCell (by simp <;> omega) _).setCell (by simp <;> omega) _)⟩
set_option maxRecDepth 100000 in
set_option maxHeartbeats 1600000 in
theorem vtake_gap (x0 x1 x2 x3 x4 x5 x6 x7 : Int) (w : World) (k : Nat) (s P : Int) (hs : 0 ≤ s) (hk : k < 8) (hv : vchk x0 x1 x2 x3 x4 x5 x6 x7 = 0) (hi : idV (k : Int) s = 0) (hP : pk x0 x1 x2 x3 x4 x5 x6 x7 (k : Int) = P) (hP0 : 0 ≤ P) (hP1 : P ≤ 1048576) (ht : ¬ s ≤ P) (hg : P + 1 < s) :
    Calls Try.prog 11 #[.agg #[.int .u32 x0, .int .u32 x1, .int .u32 x2, .int .u32 x3, .int .u32 x4, .int .u32 x5, .int .u32 x6, .int .u32 x7], .agg #[.int .i64 (k : Int), .int .u32 s]] w fun e w' => e = .returned (.tuple #[.agg #[.int .u32 0, .int .u32 0, .int .u32 0, .int .u32 0, .int .u32 0, .int .u32 0, .int .u32 0, .int .u32 0], .int .i64 17]) ∧ Below w.heap.size w w' := by
  have C1 : ∀ W : World, Calls Try.prog 5 #[.agg #[.int .u32 x0, .int .u32 x1, .int .u32 x2, .int .u32 x3, .int .u32 x4, .int .u32 x5, .int .u32 x6, .int .u32 x7]] W fun e w' => e = .returned (.int .i64 0) ∧ Below W.heap.size W w' := fun W => (vcheck x0 x1 x2 x3 x4 x5 x6 x7 W).mono (by rintro e w' ⟨rfl, h⟩; exact ⟨retI hv, h⟩)
  have D := Lib.hid C1
  clear C1
  have C2 : ∀ W : World, Calls Try.prog 19 #[.agg #[.int .i64 (k : Int), .int .u32 s]] W fun e w' => e = .returned (.int .i64 0) ∧ Below W.heap.size W w' := fun W => (idcheck (k : Int) s W hs).mono (by rintro e w' ⟨rfl, h⟩; exact ⟨retI hi, h⟩)
  have E := Lib.hid C2
  clear C2
  have C3 : ∀ W : World, Calls Try.prog 20 #[.agg #[.int .u32 x0, .int .u32 x1, .int .u32 x2, .int .u32 x3, .int .u32 x4, .int .u32 x5, .int .u32 x6, .int .u32 x7], .agg #[.int .i64 (k : Int), .int .u32 s]] W fun e w' => e = .returned (.bool false) ∧ Below W.heap.size W w' := fun W => (vhas x0 x1 x2 x3 x4 x5 x6 x7 (k : Int) s W hs).mono (by rintro e w' ⟨rfl, h⟩; exact ⟨ret_bh (by unfold hasB; rw [hP]; simp [hi]; omega), h⟩)
  have F := Lib.hid C3
  clear C3
  obtain ⟨-, -, hs1, hs2⟩ := idV_inv hi
  have HPK := Lib.hid hP
  have hk0 : (0 : Int) ≤ (k : Int) := by omega
  have hk1 : (k : Int) < 8 := by omega
  clear hv hi hP ht
  go_enter Try.func11, Try.ntmps11
  go_wp2_with fail
  have HV0 := Lib.hid (((Blk.new w 24 #[.int .u32 x0, .int .u32 x1, .int .u32 x2, .int .u32 x3, .int .u32 x4, .int .u32 x5, .int .u32 x6, .int .u32 x7]).alloc (.cells #[.int .i64 (k : Int), .int .u32 s] 40)).alloc (.cells #[.int .u32 0, .int .u32 0, .int .u32 0, .int .u32 0, .int .u32 0, .int .u32 0, .int .u32 0, .int .u32 0] 24))
  have HI0 := Lib.hid ((blk_at2 (w := w.alloc (.cells #[.int .u32 x0, .int .u32 x1, .int .u32 x2, .int .u32 x3, .int .u32 x4, .int .u32 x5, .int .u32 x6, .int .u32 x7] 24)) (by simp) 40 #[.int .i64 (k : Int), .int .u32 s] : Blk _ (w.heap.size + 1) _ _).alloc (.cells #[.int .u32 0, .int .u32 0, .int .u32 0, .int .u32 0, .int .u32 0, .int .u32 0, .int .u32 0, .int .u32 0] 24))
  have HR0 := Lib.hid (blk_at2 (w := (w.alloc (.cells #[.int .u32 x0, .int .u32 x1, .int .u32 x2, .int .u32 x3, .int .u32 x4, .int .u32 x5, .int .u32 x6, .int .u32 x7] 24)).alloc (.cells #[.int .i64 (k : Int), .int .u32 s] 40)) (by simp) 24 #[.int .u32 0, .int .u32 0, .int .u32 0, .int .u32 0, .int .u32 0, .int .u32 0, .int .u32 0, .int .u32 0] : Blk _ (w.heap.size + 1 + 1) _ _)
  have HB0 := Lib.hid (Joins.below_alloc3 w (.cells #[.int .u32 x0, .int .u32 x1, .int .u32 x2, .int .u32 x3, .int .u32 x4, .int .u32 x5, .int .u32 x6, .int .u32 x7] 24) (.cells #[.int .i64 (k : Int), .int .u32 s] 40) (.cells #[.int .u32 0, .int .u32 0, .int .u32 0, .int .u32 0, .int .u32 0, .int .u32 0, .int .u32 0, .int .u32 0] 24))
  refine (D.out _).mono ?_; rintro e w1 ⟨rfl, hb1⟩
  have HV1 := Lib.hid (HV0.out.keep hb1)
  have HI1 := Lib.hid (HI0.out.keep hb1)
  have HR1 := Lib.hid (HR0.out.keep hb1)
  have HB1 := Lib.hid (HB0.out.trans (hb1.mono HB0.out.size))
  clear hb1 HV0 HI0 HR0 HB0
  have hz := HR1.out.lt
  have i0 := HI1.out.cell 0
  have i1 := HI1.out.cell 1
  simp at i0 i1
  go_wp2_with fail
  refine (E.out _).mono ?_; rintro e w2 ⟨rfl, hb2⟩
  have HV2 := Lib.hid (HV1.out.keep hb2)
  have HI2 := Lib.hid (HI1.out.keep hb2)
  have HR2 := Lib.hid (HR1.out.keep hb2)
  have HB2 := Lib.hid (HB1.out.trans (hb2.mono HB1.out.size))
  clear hb2 HV1 HI1 HR1 HB1
  clear i0 i1
  have hz := HR2.out.lt
  have v0 := HV2.out.cell 0
  have v1 := HV2.out.cell 1
  have v2 := HV2.out.cell 2
  have v3 := HV2.out.cell 3
  have v4 := HV2.out.cell 4
  have v5 := HV2.out.cell 5
  have v6 := HV2.out.cell 6
  have v7 := HV2.out.cell 7
  simp at v0 v1 v2 v3 v4 v5 v6 v7
  have i0 := HI2.out.cell 0
  have i1 := HI2.out.cell 1
  simp at i0 i1
  go_wp2_with fail
  refine (F.out _).mono ?_; rintro e w3 ⟨rfl, hb3⟩
  have HV3 := Lib.hid (HV2.out.keep hb3)
  have HI3 := Lib.hid (HI2.out.keep hb3)
  have HR3 := Lib.hid (HR2.out.keep hb3)
  have HB3 := Lib.hid (HB2.out.trans (hb3.mono HB2.out.size))
  clear hb3 HV2 HI2 HR2 HB2
  clear v0 v1 v2 v3 v4 v5 v6 v7
  clear i0 i1
  have hz := HR3.out.lt
  have i0 := HI3.out.cell 0
  have i1 := HI3.out.cell 1
  simp at i0 i1
  have vk := HV3.out.cell k
  have hvk : (#[.int .u32 x0, .int .u32 x1, .int .u32 x2, .int .u32 x3, .int .u32 x4, .int .u32 x5, .int .u32 x6, .int .u32 x7] : Array Value)[k]? = some (.int .u32 P) := by
    rw [← HPK.out]
    obtain rfl | rfl | rfl | rfl | rfl | rfl | rfl | rfl := k_cases hk <;> simp [pk]
  rw [hvk] at vk
  clear hvk
  go_wp2
  go_quiet (fail)
  have HV4 := Lib.hid (HV3.out.drewN nq)
  have HI4 := Lib.hid (HI3.out.drewN nq)
  have HR4 := Lib.hid (HR3.out.drewN nq)
  have HB4 := Lib.hid (show Below w.heap.size w (w3.drewN nq) from ⟨HB3.out.os, HB3.out.tape, HB3.out.output, HB3.out.size, HB3.out.block⟩)
  clear i0 i1 vk HV3 HI3 HR3 HB3
  generalize w3.drewN nq = w4 at *
  have hz4 := HR4.out.lt
  have r0 := HR4.out.cell 0
  have r1 := HR4.out.cell 1
  have r2 := HR4.out.cell 2
  have r3 := HR4.out.cell 3
  have r4 := HR4.out.cell 4
  have r5 := HR4.out.cell 5
  have r6 := HR4.out.cell 6
  have r7 := HR4.out.cell 7
  simp at r0 r1 r2 r3 r4 r5 r6 r7
  have rf0 := HR4.out.frozen 0
  have rf1 := HR4.out.frozen 1
  have rf2 := HR4.out.frozen 2
  have rf3 := HR4.out.frozen 3
  have rf4 := HR4.out.frozen 4
  have rf5 := HR4.out.frozen 5
  have rf6 := HR4.out.frozen 6
  have rf7 := HR4.out.frozen 7
  go_wp2
  exact bodyPost_ret (v := .tuple #[.agg #[.int .u32 0, .int .u32 0, .int .u32 0, .int .u32 0, .int .u32 0, .int .u32 0, .int .u32 0, .int .u32 0], .int .i64 17]) (by simp [results, Try.results11, go_sem, r0, r1, r2, r3, r4, r5, r6, r7]) rfl ⟨rfl, ((((((((HB4.out.setCell (by simp <;> omega) _).setCell (by simp <;> omega) _).setCell (by simp <;> omega) _).setCell (by simp <;> omega) _).setCell (by simp <;> omega) _).setCell (by simp <;> omega) _).setCell (by simp <;> omega) _).setCell (by simp <;> omega) _)⟩
set_option maxRecDepth 100000 in
set_option maxHeartbeats 1600000 in
theorem vtake_ok (x0 x1 x2 x3 x4 x5 x6 x7 : Int) (w : World) (k : Nat) (s P : Int) (hs : 0 ≤ s) (hk : k < 8) (hv : vchk x0 x1 x2 x3 x4 x5 x6 x7 = 0) (hi : idV (k : Int) s = 0) (hP : pk x0 x1 x2 x3 x4 x5 x6 x7 (k : Int) = P) (hP0 : 0 ≤ P) (hP1 : P ≤ 1048576) (ht : ¬ s ≤ P) (hg : ¬ P + 1 < s) :
    Calls Try.prog 11 #[.agg #[.int .u32 x0, .int .u32 x1, .int .u32 x2, .int .u32 x3, .int .u32 x4, .int .u32 x5, .int .u32 x6, .int .u32 x7], .agg #[.int .i64 (k : Int), .int .u32 s]] w fun e w' => e = .returned (.tuple #[.agg #[.int .u32 (if k = 0 then s else x0), .int .u32 (if k = 1 then s else x1), .int .u32 (if k = 2 then s else x2), .int .u32 (if k = 3 then s else x3), .int .u32 (if k = 4 then s else x4), .int .u32 (if k = 5 then s else x5), .int .u32 (if k = 6 then s else x6), .int .u32 (if k = 7 then s else x7)], .int .i64 0]) ∧ Below w.heap.size w w' := by
  have C1 : ∀ W : World, Calls Try.prog 5 #[.agg #[.int .u32 x0, .int .u32 x1, .int .u32 x2, .int .u32 x3, .int .u32 x4, .int .u32 x5, .int .u32 x6, .int .u32 x7]] W fun e w' => e = .returned (.int .i64 0) ∧ Below W.heap.size W w' := fun W => (vcheck x0 x1 x2 x3 x4 x5 x6 x7 W).mono (by rintro e w' ⟨rfl, h⟩; exact ⟨retI hv, h⟩)
  have D := Lib.hid C1
  clear C1
  have C2 : ∀ W : World, Calls Try.prog 19 #[.agg #[.int .i64 (k : Int), .int .u32 s]] W fun e w' => e = .returned (.int .i64 0) ∧ Below W.heap.size W w' := fun W => (idcheck (k : Int) s W hs).mono (by rintro e w' ⟨rfl, h⟩; exact ⟨retI hi, h⟩)
  have E := Lib.hid C2
  clear C2
  have C3 : ∀ W : World, Calls Try.prog 20 #[.agg #[.int .u32 x0, .int .u32 x1, .int .u32 x2, .int .u32 x3, .int .u32 x4, .int .u32 x5, .int .u32 x6, .int .u32 x7], .agg #[.int .i64 (k : Int), .int .u32 s]] W fun e w' => e = .returned (.bool false) ∧ Below W.heap.size W w' := fun W => (vhas x0 x1 x2 x3 x4 x5 x6 x7 (k : Int) s W hs).mono (by rintro e w' ⟨rfl, h⟩; exact ⟨ret_bh (by unfold hasB; rw [hP]; simp [hi]; omega), h⟩)
  have F := Lib.hid C3
  clear C3
  obtain ⟨-, -, hs1, hs2⟩ := idV_inv hi
  have HPK := Lib.hid hP
  have hk0 : (0 : Int) ≤ (k : Int) := by omega
  have hk1 : (k : Int) < 8 := by omega
  clear hv hi hP ht
  go_enter Try.func11, Try.ntmps11
  go_wp2_with fail
  have HV0 := Lib.hid (((Blk.new w 24 #[.int .u32 x0, .int .u32 x1, .int .u32 x2, .int .u32 x3, .int .u32 x4, .int .u32 x5, .int .u32 x6, .int .u32 x7]).alloc (.cells #[.int .i64 (k : Int), .int .u32 s] 40)).alloc (.cells #[.int .u32 0, .int .u32 0, .int .u32 0, .int .u32 0, .int .u32 0, .int .u32 0, .int .u32 0, .int .u32 0] 24))
  have HI0 := Lib.hid ((blk_at2 (w := w.alloc (.cells #[.int .u32 x0, .int .u32 x1, .int .u32 x2, .int .u32 x3, .int .u32 x4, .int .u32 x5, .int .u32 x6, .int .u32 x7] 24)) (by simp) 40 #[.int .i64 (k : Int), .int .u32 s] : Blk _ (w.heap.size + 1) _ _).alloc (.cells #[.int .u32 0, .int .u32 0, .int .u32 0, .int .u32 0, .int .u32 0, .int .u32 0, .int .u32 0, .int .u32 0] 24))
  have HR0 := Lib.hid (blk_at2 (w := (w.alloc (.cells #[.int .u32 x0, .int .u32 x1, .int .u32 x2, .int .u32 x3, .int .u32 x4, .int .u32 x5, .int .u32 x6, .int .u32 x7] 24)).alloc (.cells #[.int .i64 (k : Int), .int .u32 s] 40)) (by simp) 24 #[.int .u32 0, .int .u32 0, .int .u32 0, .int .u32 0, .int .u32 0, .int .u32 0, .int .u32 0, .int .u32 0] : Blk _ (w.heap.size + 1 + 1) _ _)
  have HB0 := Lib.hid (Joins.below_alloc3 w (.cells #[.int .u32 x0, .int .u32 x1, .int .u32 x2, .int .u32 x3, .int .u32 x4, .int .u32 x5, .int .u32 x6, .int .u32 x7] 24) (.cells #[.int .i64 (k : Int), .int .u32 s] 40) (.cells #[.int .u32 0, .int .u32 0, .int .u32 0, .int .u32 0, .int .u32 0, .int .u32 0, .int .u32 0, .int .u32 0] 24))
  refine (D.out _).mono ?_; rintro e w1 ⟨rfl, hb1⟩
  have HV1 := Lib.hid (HV0.out.keep hb1)
  have HI1 := Lib.hid (HI0.out.keep hb1)
  have HR1 := Lib.hid (HR0.out.keep hb1)
  have HB1 := Lib.hid (HB0.out.trans (hb1.mono HB0.out.size))
  clear hb1 HV0 HI0 HR0 HB0
  have hz := HR1.out.lt
  have i0 := HI1.out.cell 0
  have i1 := HI1.out.cell 1
  simp at i0 i1
  go_wp2_with fail
  refine (E.out _).mono ?_; rintro e w2 ⟨rfl, hb2⟩
  have HV2 := Lib.hid (HV1.out.keep hb2)
  have HI2 := Lib.hid (HI1.out.keep hb2)
  have HR2 := Lib.hid (HR1.out.keep hb2)
  have HB2 := Lib.hid (HB1.out.trans (hb2.mono HB1.out.size))
  clear hb2 HV1 HI1 HR1 HB1
  clear i0 i1
  have hz := HR2.out.lt
  have v0 := HV2.out.cell 0
  have v1 := HV2.out.cell 1
  have v2 := HV2.out.cell 2
  have v3 := HV2.out.cell 3
  have v4 := HV2.out.cell 4
  have v5 := HV2.out.cell 5
  have v6 := HV2.out.cell 6
  have v7 := HV2.out.cell 7
  simp at v0 v1 v2 v3 v4 v5 v6 v7
  have i0 := HI2.out.cell 0
  have i1 := HI2.out.cell 1
  simp at i0 i1
  go_wp2_with fail
  refine (F.out _).mono ?_; rintro e w3 ⟨rfl, hb3⟩
  have HV3 := Lib.hid (HV2.out.keep hb3)
  have HI3 := Lib.hid (HI2.out.keep hb3)
  have HR3 := Lib.hid (HR2.out.keep hb3)
  have HB3 := Lib.hid (HB2.out.trans (hb3.mono HB2.out.size))
  clear hb3 HV2 HI2 HR2 HB2
  clear v0 v1 v2 v3 v4 v5 v6 v7
  clear i0 i1
  have hz := HR3.out.lt
  have i0 := HI3.out.cell 0
  have i1 := HI3.out.cell 1
  simp at i0 i1
  have vk := HV3.out.cell k
  have hvk : (#[.int .u32 x0, .int .u32 x1, .int .u32 x2, .int .u32 x3, .int .u32 x4, .int .u32 x5, .int .u32 x6, .int .u32 x7] : Array Value)[k]? = some (.int .u32 P) := by
    rw [← HPK.out]
    obtain rfl | rfl | rfl | rfl | rfl | rfl | rfl | rfl := k_cases hk <;> simp [pk]
  rw [hvk] at vk
  clear hvk
  go_wp2
  go_quiet (fail)
  have HV4 := Lib.hid (HV3.out.drewN nq)
  have HI4 := Lib.hid (HI3.out.drewN nq)
  have HR4 := Lib.hid (HR3.out.drewN nq)
  have HB4 := Lib.hid (show Below w.heap.size w (w3.drewN nq) from ⟨HB3.out.os, HB3.out.tape, HB3.out.output, HB3.out.size, HB3.out.block⟩)
  clear i0 i1 vk HV3 HI3 HR3 HB3
  generalize w3.drewN nq = w4 at *
  have hz4 := HR4.out.lt
  obtain rfl | rfl | rfl | rfl | rfl | rfl | rfl | rfl := k_cases hk
  all_goals
    have i0 := HI4.out.cell 0
    have i1 := HI4.out.cell 1
    simp at i0 i1
    have v0 := HV4.out.cell 0
    have v1 := HV4.out.cell 1
    have v2 := HV4.out.cell 2
    have v3 := HV4.out.cell 3
    have v4 := HV4.out.cell 4
    have v5 := HV4.out.cell 5
    have v6 := HV4.out.cell 6
    have v7 := HV4.out.cell 7
    simp at v0 v1 v2 v3 v4 v5 v6 v7
    have vf0 := HV4.out.frozen 0
    have vf1 := HV4.out.frozen 1
    have vf2 := HV4.out.frozen 2
    have vf3 := HV4.out.frozen 3
    have vf4 := HV4.out.frozen 4
    have vf5 := HV4.out.frozen 5
    have vf6 := HV4.out.frozen 6
    have vf7 := HV4.out.frozen 7
    have r0 := HR4.out.cell 0
    have r1 := HR4.out.cell 1
    have r2 := HR4.out.cell 2
    have r3 := HR4.out.cell 3
    have r4 := HR4.out.cell 4
    have r5 := HR4.out.cell 5
    have r6 := HR4.out.cell 6
    have r7 := HR4.out.cell 7
    simp at r0 r1 r2 r3 r4 r5 r6 r7
    have rf0 := HR4.out.frozen 0
    have rf1 := HR4.out.frozen 1
    have rf2 := HR4.out.frozen 2
    have rf3 := HR4.out.frozen 3
    have rf4 := HR4.out.frozen 4
    have rf5 := HR4.out.frozen 5
    have rf6 := HR4.out.frozen 6
    have rf7 := HR4.out.frozen 7
    go_wp2
  · exact bodyPost_ret (v := .tuple #[.agg #[.int .u32 s, .int .u32 x1, .int .u32 x2, .int .u32 x3, .int .u32 x4, .int .u32 x5, .int .u32 x6, .int .u32 x7], .int .i64 0]) (by simp [results, Try.results11, go_sem, r0, r1, r2, r3, r4, r5, r6, r7]) rfl ⟨rfl, (((((((((HB4.out.setCell (by simp <;> omega) _).setCell (by simp <;> omega) _).setCell (by simp <;> omega) _).setCell (by simp <;> omega) _).setCell (by simp <;> omega) _).setCell (by simp <;> omega) _).setCell (by simp <;> omega) _).setCell (by simp <;> omega) _).setCell (by simp <;> omega) _)⟩
  · exact bodyPost_ret (v := .tuple #[.agg #[.int .u32 x0, .int .u32 s, .int .u32 x2, .int .u32 x3, .int .u32 x4, .int .u32 x5, .int .u32 x6, .int .u32 x7], .int .i64 0]) (by simp [results, Try.results11, go_sem, r0, r1, r2, r3, r4, r5, r6, r7]) rfl ⟨rfl, (((((((((HB4.out.setCell (by simp <;> omega) _).setCell (by simp <;> omega) _).setCell (by simp <;> omega) _).setCell (by simp <;> omega) _).setCell (by simp <;> omega) _).setCell (by simp <;> omega) _).setCell (by simp <;> omega) _).setCell (by simp <;> omega) _).setCell (by simp <;> omega) _)⟩
  · exact bodyPost_ret (v := .tuple #[.agg #[.int .u32 x0, .int .u32 x1, .int .u32 s, .int .u32 x3, .int .u32 x4, .int .u32 x5, .int .u32 x6, .int .u32 x7], .int .i64 0]) (by simp [results, Try.results11, go_sem, r0, r1, r2, r3, r4, r5, r6, r7]) rfl ⟨rfl, (((((((((HB4.out.setCell (by simp <;> omega) _).setCell (by simp <;> omega) _).setCell (by simp <;> omega) _).setCell (by simp <;> omega) _).setCell (by simp <;> omega) _).setCell (by simp <;> omega) _).setCell (by simp <;> omega) _).setCell (by simp <;> omega) _).setCell (by simp <;> omega) _)⟩
  · exact bodyPost_ret (v := .tuple #[.agg #[.int .u32 x0, .int .u32 x1, .int .u32 x2, .int .u32 s, .int .u32 x4, .int .u32 x5, .int .u32 x6, .int .u32 x7], .int .i64 0]) (by simp [results, Try.results11, go_sem, r0, r1, r2, r3, r4, r5, r6, r7]) rfl ⟨rfl, (((((((((HB4.out.setCell (by simp <;> omega) _).setCell (by simp <;> omega) _).setCell (by simp <;> omega) _).setCell (by simp <;> omega) _).setCell (by simp <;> omega) _).setCell (by simp <;> omega) _).setCell (by simp <;> omega) _).setCell (by simp <;> omega) _).setCell (by simp <;> omega) _)⟩
  · exact bodyPost_ret (v := .tuple #[.agg #[.int .u32 x0, .int .u32 x1, .int .u32 x2, .int .u32 x3, .int .u32 s, .int .u32 x5, .int .u32 x6, .int .u32 x7], .int .i64 0]) (by simp [results, Try.results11, go_sem, r0, r1, r2, r3, r4, r5, r6, r7]) rfl ⟨rfl, (((((((((HB4.out.setCell (by simp <;> omega) _).setCell (by simp <;> omega) _).setCell (by simp <;> omega) _).setCell (by simp <;> omega) _).setCell (by simp <;> omega) _).setCell (by simp <;> omega) _).setCell (by simp <;> omega) _).setCell (by simp <;> omega) _).setCell (by simp <;> omega) _)⟩
  · exact bodyPost_ret (v := .tuple #[.agg #[.int .u32 x0, .int .u32 x1, .int .u32 x2, .int .u32 x3, .int .u32 x4, .int .u32 s, .int .u32 x6, .int .u32 x7], .int .i64 0]) (by simp [results, Try.results11, go_sem, r0, r1, r2, r3, r4, r5, r6, r7]) rfl ⟨rfl, (((((((((HB4.out.setCell (by simp <;> omega) _).setCell (by simp <;> omega) _).setCell (by simp <;> omega) _).setCell (by simp <;> omega) _).setCell (by simp <;> omega) _).setCell (by simp <;> omega) _).setCell (by simp <;> omega) _).setCell (by simp <;> omega) _).setCell (by simp <;> omega) _)⟩
  · exact bodyPost_ret (v := .tuple #[.agg #[.int .u32 x0, .int .u32 x1, .int .u32 x2, .int .u32 x3, .int .u32 x4, .int .u32 x5, .int .u32 s, .int .u32 x7], .int .i64 0]) (by simp [results, Try.results11, go_sem, r0, r1, r2, r3, r4, r5, r6, r7]) rfl ⟨rfl, (((((((((HB4.out.setCell (by simp <;> omega) _).setCell (by simp <;> omega) _).setCell (by simp <;> omega) _).setCell (by simp <;> omega) _).setCell (by simp <;> omega) _).setCell (by simp <;> omega) _).setCell (by simp <;> omega) _).setCell (by simp <;> omega) _).setCell (by simp <;> omega) _)⟩
  · exact bodyPost_ret (v := .tuple #[.agg #[.int .u32 x0, .int .u32 x1, .int .u32 x2, .int .u32 x3, .int .u32 x4, .int .u32 x5, .int .u32 x6, .int .u32 s], .int .i64 0]) (by simp [results, Try.results11, go_sem, r0, r1, r2, r3, r4, r5, r6, r7]) rfl ⟨rfl, (((((((((HB4.out.setCell (by simp <;> omega) _).setCell (by simp <;> omega) _).setCell (by simp <;> omega) _).setCell (by simp <;> omega) _).setCell (by simp <;> omega) _).setCell (by simp <;> omega) _).setCell (by simp <;> omega) _).setCell (by simp <;> omega) _).setCell (by simp <;> omega) _)⟩
theorem vtake (x0 x1 x2 x3 x4 x5 x6 x7 o s : Int) (w : World) (p0 : 0 ≤ x0) (p1 : 0 ≤ x1) (p2 : 0 ≤ x2) (p3 : 0 ≤ x3) (p4 : 0 ≤ x4) (p5 : 0 ≤ x5) (p6 : 0 ≤ x6) (p7 : 0 ≤ x7) (hs : 0 ≤ s) :
    Calls Try.prog 11 #[.agg #[.int .u32 x0, .int .u32 x1, .int .u32 x2, .int .u32 x3, .int .u32 x4, .int .u32 x5, .int .u32 x6, .int .u32 x7], .agg #[.int .i64 o, .int .u32 s]] w fun e w' => e = .returned (.tuple #[tkV x0 x1 x2 x3 x4 x5 x6 x7 o s, .int .i64 (tkE x0 x1 x2 x3 x4 x5 x6 x7 o s)]) ∧ Below w.heap.size w w' := by
  rcases vchk_01 x0 x1 x2 x3 x4 x5 x6 x7 with hv | hv
  · rcases idV_01 o s with hi | hi
    · obtain ⟨h0, h7, -, -⟩ := idV_inv hi
      obtain ⟨k, rfl⟩ : ∃ k : Nat, o = k := ⟨o.toNat, by omega⟩
      have hk : k < 8 := by omega
      have hb := vchk_inv hv
      obtain ⟨P, hP⟩ : ∃ P, pk x0 x1 x2 x3 x4 x5 x6 x7 (k : Int) = P := ⟨_, rfl⟩
      have hP0 : 0 ≤ P ∧ P ≤ 1048576 := by
        rw [← hP]
        obtain rfl | rfl | rfl | rfl | rfl | rfl | rfl | rfl := k_cases hk <;> simp [pk] <;> omega
      by_cases ht : s ≤ P
      · exact (vtake_twice x0 x1 x2 x3 x4 x5 x6 x7 w k s P hs hk hv hi hP hP0.1 hP0.2 ht).mono (by rintro e w' ⟨rfl, h⟩; exact ⟨ret_tk (tk_twice ⟨hv, hi⟩ (by rw [hP]; exact ht)), h⟩)
      by_cases hg : P + 1 < s
      · exact (vtake_gap x0 x1 x2 x3 x4 x5 x6 x7 w k s P hs hk hv hi hP hP0.1 hP0.2 ht hg).mono (by rintro e w' ⟨rfl, h⟩; exact ⟨ret_tk (tk_gap ⟨hv, hi⟩ (by rw [hP]; exact ht) (by rw [hP]; omega)), h⟩)
      · refine (vtake_ok x0 x1 x2 x3 x4 x5 x6 x7 w k s P hs hk hv hi hP hP0.1 hP0.2 ht hg).mono ?_
        rintro e w' ⟨rfl, h⟩
        refine ⟨ret_tk ?_, h⟩
        obtain ⟨e1, e2⟩ := tk_ok (x0 := x0) (x1 := x1) (x2 := x2) (x3 := x3) (x4 := x4) (x5 := x5) (x6 := x6) (x7 := x7) (o := (k : Int)) (s := s) ⟨hv, hi⟩ (by rw [hP]; omega)
        refine ⟨e1, e2.trans ?_⟩
        obtain rfl | rfl | rfl | rfl | rfl | rfl | rfl | rfl := k_cases hk <;> simp
    · exact (vtake_badid x0 x1 x2 x3 x4 x5 x6 x7 w o s hs hv hi).mono (by rintro e w' ⟨rfl, h⟩; exact ⟨ret_tk (tk_bad (by omega)), h⟩)
  · exact (vtake_bad x0 x1 x2 x3 x4 x5 x6 x7 w o s hs hv).mono (by rintro e w' ⟨rfl, h⟩; exact ⟨ret_tk (tk_bad (by omega)), h⟩)
end Go.Proofs.Ytofpefbnkmeokaa

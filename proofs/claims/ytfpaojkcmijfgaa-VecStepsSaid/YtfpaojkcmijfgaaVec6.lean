/- Contracts of vec.Next and of the reference's. -/
import Derived.Test.YtfpaojkcmijfgaaVec5
import Derived.Test.YtfpaojkcmijfgaaTally
import Derived.ChangeKeysEq
import Derived.Deep.QuietTactic
import Derived.BigQuiet
import Derived.Lib.QuietBelow
import Derived.WalkSpells
namespace Go.Proofs.Ytfpaojkcmijfgaa
open Go.RowKit
attribute [local go_sem ↓] Go.wp_at_zero Go.wp_at_succ
theorem vchk_01 (x0 x1 x2 x3 x4 x5 x6 x7 : Int) : vchk x0 x1 x2 x3 x4 x5 x6 x7 = 0 ∨ vchk x0 x1 x2 x3 x4 x5 x6 x7 = 2 := by unfold vchk; split <;> simp
theorem vchk_inv {x0 x1 x2 x3 x4 x5 x6 x7 : Int} (h : vchk x0 x1 x2 x3 x4 x5 x6 x7 = 0) : x0 ≤ 1048576 ∧ x1 ≤ 1048576 ∧ x2 ≤ 1048576 ∧ x3 ≤ 1048576 ∧ x4 ≤ 1048576 ∧ x5 ≤ 1048576 ∧ x6 ≤ 1048576 ∧ x7 ≤ 1048576 := by
  unfold vchk at h; split at h
  · assumption
  · omega
def nxE (x0 x1 x2 x3 x4 x5 x6 x7 o : Int) : Int := if vchk x0 x1 x2 x3 x4 x5 x6 x7 = 0 ∧ 0 ≤ o ∧ o ≤ 7 then (if pk x0 x1 x2 x3 x4 x5 x6 x7 o = 1048576 then 12 else 0) else 2
def nxO (x0 x1 x2 x3 x4 x5 x6 x7 o : Int) : Int := if nxE x0 x1 x2 x3 x4 x5 x6 x7 o = 0 then o else 0
def nxS (x0 x1 x2 x3 x4 x5 x6 x7 o : Int) : Int := if nxE x0 x1 x2 x3 x4 x5 x6 x7 o = 0 then pk x0 x1 x2 x3 x4 x5 x6 x7 o + 1 else 0
theorem nx_bad {x0 x1 x2 x3 x4 x5 x6 x7 o : Int} (h : ¬ (vchk x0 x1 x2 x3 x4 x5 x6 x7 = 0 ∧ 0 ≤ o ∧ o ≤ 7)) : nxE x0 x1 x2 x3 x4 x5 x6 x7 o = 2 ∧ nxO x0 x1 x2 x3 x4 x5 x6 x7 o = 0 ∧ nxS x0 x1 x2 x3 x4 x5 x6 x7 o = 0 := by
  have e : nxE x0 x1 x2 x3 x4 x5 x6 x7 o = 2 := if_neg h
  refine ⟨e, ?_, ?_⟩ <;> simp [nxO, nxS, e]
theorem nx_over {x0 x1 x2 x3 x4 x5 x6 x7 o : Int} (h : vchk x0 x1 x2 x3 x4 x5 x6 x7 = 0 ∧ 0 ≤ o ∧ o ≤ 7) (hp : pk x0 x1 x2 x3 x4 x5 x6 x7 o = 1048576) : nxE x0 x1 x2 x3 x4 x5 x6 x7 o = 12 ∧ nxO x0 x1 x2 x3 x4 x5 x6 x7 o = 0 ∧ nxS x0 x1 x2 x3 x4 x5 x6 x7 o = 0 := by
  have e : nxE x0 x1 x2 x3 x4 x5 x6 x7 o = 12 := by unfold nxE; rw [if_pos h, if_pos hp]
  refine ⟨e, ?_, ?_⟩ <;> simp [nxO, nxS, e]
theorem nx_ok {x0 x1 x2 x3 x4 x5 x6 x7 o : Int} (h : vchk x0 x1 x2 x3 x4 x5 x6 x7 = 0 ∧ 0 ≤ o ∧ o ≤ 7) (hp : ¬ pk x0 x1 x2 x3 x4 x5 x6 x7 o = 1048576) : nxE x0 x1 x2 x3 x4 x5 x6 x7 o = 0 ∧ nxO x0 x1 x2 x3 x4 x5 x6 x7 o = o ∧ nxS x0 x1 x2 x3 x4 x5 x6 x7 o = pk x0 x1 x2 x3 x4 x5 x6 x7 o + 1 := by
  have e : nxE x0 x1 x2 x3 x4 x5 x6 x7 o = 0 := by unfold nxE; rw [if_pos h, if_neg hp]
  refine ⟨e, ?_, ?_⟩ <;> simp [nxO, nxS, e]
theorem ret_nx {a b c a' b' c' : Int} (h : c = c' ∧ a = a' ∧ b = b') : Ending.returned (.tuple #[.agg #[.int .i64 a', .int .u32 b'], .int .i64 c']) = .returned (.tuple #[.agg #[.int .i64 a, .int .u32 b], .int .i64 c]) := by
  obtain ⟨rfl, rfl, rfl⟩ := h; rfl
set_option maxHeartbeats 1600000 in
theorem vnext_n_bad (x0 x1 x2 x3 x4 x5 x6 x7 o : Int) (w : World) (hv : vchk x0 x1 x2 x3 x4 x5 x6 x7 = 2) :
    Calls Try.prog 29 #[.agg #[.int .u32 x0, .int .u32 x1, .int .u32 x2, .int .u32 x3, .int .u32 x4, .int .u32 x5, .int .u32 x6, .int .u32 x7], .int .i64 o] w fun e w' => e = .returned (.tuple #[.agg #[.int .i64 0, .int .u32 0], .int .i64 2]) ∧ Below w.heap.size w w' := by
  have C : ∀ W : World, Calls Try.prog 57 #[.agg #[.int .u32 x0, .int .u32 x1, .int .u32 x2, .int .u32 x3, .int .u32 x4, .int .u32 x5, .int .u32 x6, .int .u32 x7]] W fun e w' => e = .returned (.int .i64 2) ∧ Below W.heap.size W w' := fun W => (vcheck x0 x1 x2 x3 x4 x5 x6 x7 W).mono (by rintro e w' ⟨rfl, h⟩; exact ⟨retI hv, h⟩)
  have D := Lib.hid C
  clear C
  clear hv
  go_enter Try.func29, Try.ntmps29
  go_wp2_with fail
  refine (D.out _).mono ?_; rintro e w1 ⟨rfl, hb⟩
  obtain ⟨hc, hf⟩ := bcell hb
  have hz : w.heap.size + 1 < w1.heap.size := by have := hb.size; simp at this; omega
  go_wp2
  exact bodyPost_ret (v := .tuple #[.agg #[.int .i64 0, .int .u32 0], .int .i64 2]) (by simp [results, Try.results29, go_sem, hc]) rfl ⟨rfl, ((Joins.below_alloc2 w _ _).trans (hb.mono (by simp; omega))).setCell (by simp) _ |>.setCell (by simp) _⟩
set_option maxHeartbeats 1600000 in
theorem vnext_n_low (x0 x1 x2 x3 x4 x5 x6 x7 o : Int) (w : World) (hv : vchk x0 x1 x2 x3 x4 x5 x6 x7 = 0) (ho : o < 0) :
    Calls Try.prog 29 #[.agg #[.int .u32 x0, .int .u32 x1, .int .u32 x2, .int .u32 x3, .int .u32 x4, .int .u32 x5, .int .u32 x6, .int .u32 x7], .int .i64 o] w fun e w' => e = .returned (.tuple #[.agg #[.int .i64 0, .int .u32 0], .int .i64 2]) ∧ Below w.heap.size w w' := by
  have C : ∀ W : World, Calls Try.prog 57 #[.agg #[.int .u32 x0, .int .u32 x1, .int .u32 x2, .int .u32 x3, .int .u32 x4, .int .u32 x5, .int .u32 x6, .int .u32 x7]] W fun e w' => e = .returned (.int .i64 0) ∧ Below W.heap.size W w' := fun W => (vcheck x0 x1 x2 x3 x4 x5 x6 x7 W).mono (by rintro e w' ⟨rfl, h⟩; exact ⟨retI hv, h⟩)
  have D := Lib.hid C
  clear C
  clear hv
  go_enter Try.func29, Try.ntmps29
  go_wp2_with fail
  refine (D.out _).mono ?_; rintro e w1 ⟨rfl, hb⟩
  obtain ⟨hc, hf⟩ := bcell hb
  have hz : w.heap.size + 1 < w1.heap.size := by have := hb.size; simp at this; omega
  go_wp2
  exact bodyPost_ret (v := .tuple #[.agg #[.int .i64 0, .int .u32 0], .int .i64 2]) (by simp [results, Try.results29, go_sem, hc]) rfl ⟨rfl, ((Joins.below_alloc2 w _ _).trans (hb.mono (by simp; omega))).setCell (by simp) _ |>.setCell (by simp) _⟩
set_option maxHeartbeats 1600000 in
theorem vnext_n_high (x0 x1 x2 x3 x4 x5 x6 x7 o : Int) (w : World) (hv : vchk x0 x1 x2 x3 x4 x5 x6 x7 = 0) (ho : ¬ o < 0) (hg : 8 ≤ o) :
    Calls Try.prog 29 #[.agg #[.int .u32 x0, .int .u32 x1, .int .u32 x2, .int .u32 x3, .int .u32 x4, .int .u32 x5, .int .u32 x6, .int .u32 x7], .int .i64 o] w fun e w' => e = .returned (.tuple #[.agg #[.int .i64 0, .int .u32 0], .int .i64 2]) ∧ Below w.heap.size w w' := by
  have C : ∀ W : World, Calls Try.prog 57 #[.agg #[.int .u32 x0, .int .u32 x1, .int .u32 x2, .int .u32 x3, .int .u32 x4, .int .u32 x5, .int .u32 x6, .int .u32 x7]] W fun e w' => e = .returned (.int .i64 0) ∧ Below W.heap.size W w' := fun W => (vcheck x0 x1 x2 x3 x4 x5 x6 x7 W).mono (by rintro e w' ⟨rfl, h⟩; exact ⟨retI hv, h⟩)
  have D := Lib.hid C
  clear C
  clear hv
  go_enter Try.func29, Try.ntmps29
  go_wp2_with fail
  refine (D.out _).mono ?_; rintro e w1 ⟨rfl, hb⟩
  obtain ⟨hc, hf⟩ := bcell hb
  have hz : w.heap.size + 1 < w1.heap.size := by have := hb.size; simp at this; omega
  go_wp2
  exact bodyPost_ret (v := .tuple #[.agg #[.int .i64 0, .int .u32 0], .int .i64 2]) (by simp [results, Try.results29, go_sem, hc]) rfl ⟨rfl, ((Joins.below_alloc2 w _ _).trans (hb.mono (by simp; omega))).setCell (by simp) _ |>.setCell (by simp) _⟩
set_option maxHeartbeats 1600000 in
theorem vnext_0_over (x0 x1 x2 x3 x4 x5 x6 x7 : Int) (w : World) (hv : vchk x0 x1 x2 x3 x4 x5 x6 x7 = 0) (hk : x0 = 1048576) :
    Calls Try.prog 29 #[.agg #[.int .u32 x0, .int .u32 x1, .int .u32 x2, .int .u32 x3, .int .u32 x4, .int .u32 x5, .int .u32 x6, .int .u32 x7], .int .i64 0] w fun e w' => e = .returned (.tuple #[.agg #[.int .i64 0, .int .u32 0], .int .i64 12]) ∧ Below w.heap.size w w' := by
  have C : ∀ W : World, Calls Try.prog 57 #[.agg #[.int .u32 x0, .int .u32 x1, .int .u32 x2, .int .u32 x3, .int .u32 x4, .int .u32 x5, .int .u32 x6, .int .u32 x7]] W fun e w' => e = .returned (.int .i64 0) ∧ Below W.heap.size W w' := fun W => (vcheck x0 x1 x2 x3 x4 x5 x6 x7 W).mono (by rintro e w' ⟨rfl, h⟩; exact ⟨retI hv, h⟩)
  have D := Lib.hid C
  clear C
  have hx := (vchk_inv hv)
  have hx : x0 ≤ 1048576 := by omega
  have C : ∀ W : World, Calls Try.prog 52 #[.int .u32 x0] W fun e w' => e = .returned (.tuple #[.int .u32 0, .int .i64 12]) ∧ Below W.heap.size W w' := fun W => (next_any x0 W (by omega) (by omega)).mono (by rintro e w' ⟨rfl, h⟩; exact ⟨ret_two (add_over x0 1 (by omega) (by omega) (by omega)).1 (add_over x0 1 (by omega) (by omega) (by omega)).2, h⟩)
  have E := Lib.hid C
  clear C hk
  clear hv
  go_enter Try.func29, Try.ntmps29
  go_wp2_with fail
  refine (D.out _).mono ?_; rintro e w1 ⟨rfl, hb⟩
  obtain ⟨hc, hf⟩ := bcell hb
  have hz : w.heap.size + 1 < w1.heap.size := by have := hb.size; simp at this; omega
  go_wp2_with fail
  refine (E.out _).mono ?_; rintro e w2 ⟨rfl, hb2⟩
  obtain ⟨hc2, hf2⟩ := bcell hb2
  have hz2 : w.heap.size + 1 < w2.heap.size := by have := hb2.size; omega
  have hc3 : ∀ b o, b < w.heap.size + 2 → w2.cell? ⟨b, o, none⟩ = ((w.alloc (.cells #[.int .u32 x0, .int .u32 x1, .int .u32 x2, .int .u32 x3, .int .u32 x4, .int .u32 x5, .int .u32 x6, .int .u32 x7] 64)).alloc (.cells #[.int .i64 0, .int .u32 0] 66)).cell? ⟨b, o, none⟩ := fun b o h => (hc2 b o (by omega)).trans (hc b o (by simp; omega))
  have hf3 : ∀ b o, b < w.heap.size + 2 → w2.frozen? ⟨b, o, none⟩ = ((w.alloc (.cells #[.int .u32 x0, .int .u32 x1, .int .u32 x2, .int .u32 x3, .int .u32 x4, .int .u32 x5, .int .u32 x6, .int .u32 x7] 64)).alloc (.cells #[.int .i64 0, .int .u32 0] 66)).frozen? ⟨b, o, none⟩ := fun b o h => (hf2 b o (by omega)).trans (hf b o (by simp; omega))
  clear hc2 hf2
  go_wp2
  exact bodyPost_ret (v := .tuple #[.agg #[.int .i64 0, .int .u32 0], .int .i64 12]) (by simp [results, Try.results29, go_sem, hc3]) rfl ⟨rfl, (((Joins.below_alloc2 w _ _).trans (hb.mono (by simp; omega))).trans (hb2.mono (by omega))).setCell (by simp) _ |>.setCell (by simp) _⟩
set_option maxHeartbeats 1600000 in
theorem vnext_0_ok (x0 x1 x2 x3 x4 x5 x6 x7 : Int) (w : World) (hv : vchk x0 x1 x2 x3 x4 x5 x6 x7 = 0) (pk : 0 ≤ x0) (hk : ¬ x0 = 1048576) :
    Calls Try.prog 29 #[.agg #[.int .u32 x0, .int .u32 x1, .int .u32 x2, .int .u32 x3, .int .u32 x4, .int .u32 x5, .int .u32 x6, .int .u32 x7], .int .i64 0] w fun e w' => e = .returned (.tuple #[.agg #[.int .i64 0, .int .u32 (x0 + 1)], .int .i64 0]) ∧ Below w.heap.size w w' := by
  have C : ∀ W : World, Calls Try.prog 57 #[.agg #[.int .u32 x0, .int .u32 x1, .int .u32 x2, .int .u32 x3, .int .u32 x4, .int .u32 x5, .int .u32 x6, .int .u32 x7]] W fun e w' => e = .returned (.int .i64 0) ∧ Below W.heap.size W w' := fun W => (vcheck x0 x1 x2 x3 x4 x5 x6 x7 W).mono (by rintro e w' ⟨rfl, h⟩; exact ⟨retI hv, h⟩)
  have D := Lib.hid C
  clear C
  have hx := (vchk_inv hv)
  have hx : x0 ≤ 1048576 := by omega
  have C : ∀ W : World, Calls Try.prog 52 #[.int .u32 x0] W fun e w' => e = .returned (.tuple #[.int .u32 (x0 + 1), .int .i64 0]) ∧ Below W.heap.size W w' := fun W => (next_any x0 W (by omega) (by omega)).mono (by rintro e w' ⟨rfl, h⟩; exact ⟨ret_two (add_ok x0 1 (by omega) (by omega) (by omega)).1 (add_ok x0 1 (by omega) (by omega) (by omega)).2, h⟩)
  have E := Lib.hid C
  clear C hk
  clear hv
  go_enter Try.func29, Try.ntmps29
  go_wp2_with fail
  refine (D.out _).mono ?_; rintro e w1 ⟨rfl, hb⟩
  obtain ⟨hc, hf⟩ := bcell hb
  have hz : w.heap.size + 1 < w1.heap.size := by have := hb.size; simp at this; omega
  go_wp2_with fail
  refine (E.out _).mono ?_; rintro e w2 ⟨rfl, hb2⟩
  obtain ⟨hc2, hf2⟩ := bcell hb2
  have hz2 : w.heap.size + 1 < w2.heap.size := by have := hb2.size; omega
  have hc3 : ∀ b o, b < w.heap.size + 2 → w2.cell? ⟨b, o, none⟩ = ((w.alloc (.cells #[.int .u32 x0, .int .u32 x1, .int .u32 x2, .int .u32 x3, .int .u32 x4, .int .u32 x5, .int .u32 x6, .int .u32 x7] 64)).alloc (.cells #[.int .i64 0, .int .u32 0] 66)).cell? ⟨b, o, none⟩ := fun b o h => (hc2 b o (by omega)).trans (hc b o (by simp; omega))
  have hf3 : ∀ b o, b < w.heap.size + 2 → w2.frozen? ⟨b, o, none⟩ = ((w.alloc (.cells #[.int .u32 x0, .int .u32 x1, .int .u32 x2, .int .u32 x3, .int .u32 x4, .int .u32 x5, .int .u32 x6, .int .u32 x7] 64)).alloc (.cells #[.int .i64 0, .int .u32 0] 66)).frozen? ⟨b, o, none⟩ := fun b o h => (hf2 b o (by omega)).trans (hf b o (by simp; omega))
  clear hc2 hf2
  go_wp2
  exact bodyPost_ret (v := .tuple #[.agg #[.int .i64 0, .int .u32 (x0 + 1)], .int .i64 0]) (by simp [results, Try.results29, go_sem, hc3]) rfl ⟨rfl, (((Joins.below_alloc2 w _ _).trans (hb.mono (by simp; omega))).trans (hb2.mono (by omega))).setCell (by simp) _ |>.setCell (by simp) _⟩
set_option maxHeartbeats 1600000 in
theorem vnext_1_over (x0 x1 x2 x3 x4 x5 x6 x7 : Int) (w : World) (hv : vchk x0 x1 x2 x3 x4 x5 x6 x7 = 0) (hk : x1 = 1048576) :
    Calls Try.prog 29 #[.agg #[.int .u32 x0, .int .u32 x1, .int .u32 x2, .int .u32 x3, .int .u32 x4, .int .u32 x5, .int .u32 x6, .int .u32 x7], .int .i64 1] w fun e w' => e = .returned (.tuple #[.agg #[.int .i64 0, .int .u32 0], .int .i64 12]) ∧ Below w.heap.size w w' := by
  have C : ∀ W : World, Calls Try.prog 57 #[.agg #[.int .u32 x0, .int .u32 x1, .int .u32 x2, .int .u32 x3, .int .u32 x4, .int .u32 x5, .int .u32 x6, .int .u32 x7]] W fun e w' => e = .returned (.int .i64 0) ∧ Below W.heap.size W w' := fun W => (vcheck x0 x1 x2 x3 x4 x5 x6 x7 W).mono (by rintro e w' ⟨rfl, h⟩; exact ⟨retI hv, h⟩)
  have D := Lib.hid C
  clear C
  have hx := (vchk_inv hv)
  have hx : x1 ≤ 1048576 := by omega
  have C : ∀ W : World, Calls Try.prog 52 #[.int .u32 x1] W fun e w' => e = .returned (.tuple #[.int .u32 0, .int .i64 12]) ∧ Below W.heap.size W w' := fun W => (next_any x1 W (by omega) (by omega)).mono (by rintro e w' ⟨rfl, h⟩; exact ⟨ret_two (add_over x1 1 (by omega) (by omega) (by omega)).1 (add_over x1 1 (by omega) (by omega) (by omega)).2, h⟩)
  have E := Lib.hid C
  clear C hk
  clear hv
  go_enter Try.func29, Try.ntmps29
  go_wp2_with fail
  refine (D.out _).mono ?_; rintro e w1 ⟨rfl, hb⟩
  obtain ⟨hc, hf⟩ := bcell hb
  have hz : w.heap.size + 1 < w1.heap.size := by have := hb.size; simp at this; omega
  go_wp2_with fail
  refine (E.out _).mono ?_; rintro e w2 ⟨rfl, hb2⟩
  obtain ⟨hc2, hf2⟩ := bcell hb2
  have hz2 : w.heap.size + 1 < w2.heap.size := by have := hb2.size; omega
  have hc3 : ∀ b o, b < w.heap.size + 2 → w2.cell? ⟨b, o, none⟩ = ((w.alloc (.cells #[.int .u32 x0, .int .u32 x1, .int .u32 x2, .int .u32 x3, .int .u32 x4, .int .u32 x5, .int .u32 x6, .int .u32 x7] 64)).alloc (.cells #[.int .i64 0, .int .u32 0] 66)).cell? ⟨b, o, none⟩ := fun b o h => (hc2 b o (by omega)).trans (hc b o (by simp; omega))
  have hf3 : ∀ b o, b < w.heap.size + 2 → w2.frozen? ⟨b, o, none⟩ = ((w.alloc (.cells #[.int .u32 x0, .int .u32 x1, .int .u32 x2, .int .u32 x3, .int .u32 x4, .int .u32 x5, .int .u32 x6, .int .u32 x7] 64)).alloc (.cells #[.int .i64 0, .int .u32 0] 66)).frozen? ⟨b, o, none⟩ := fun b o h => (hf2 b o (by omega)).trans (hf b o (by simp; omega))
  clear hc2 hf2
  go_wp2
  exact bodyPost_ret (v := .tuple #[.agg #[.int .i64 0, .int .u32 0], .int .i64 12]) (by simp [results, Try.results29, go_sem, hc3]) rfl ⟨rfl, (((Joins.below_alloc2 w _ _).trans (hb.mono (by simp; omega))).trans (hb2.mono (by omega))).setCell (by simp) _ |>.setCell (by simp) _⟩
set_option maxHeartbeats 1600000 in
theorem vnext_1_ok (x0 x1 x2 x3 x4 x5 x6 x7 : Int) (w : World) (hv : vchk x0 x1 x2 x3 x4 x5 x6 x7 = 0) (pk : 0 ≤ x1) (hk : ¬ x1 = 1048576) :
    Calls Try.prog 29 #[.agg #[.int .u32 x0, .int .u32 x1, .int .u32 x2, .int .u32 x3, .int .u32 x4, .int .u32 x5, .int .u32 x6, .int .u32 x7], .int .i64 1] w fun e w' => e = .returned (.tuple #[.agg #[.int .i64 1, .int .u32 (x1 + 1)], .int .i64 0]) ∧ Below w.heap.size w w' := by
  have C : ∀ W : World, Calls Try.prog 57 #[.agg #[.int .u32 x0, .int .u32 x1, .int .u32 x2, .int .u32 x3, .int .u32 x4, .int .u32 x5, .int .u32 x6, .int .u32 x7]] W fun e w' => e = .returned (.int .i64 0) ∧ Below W.heap.size W w' := fun W => (vcheck x0 x1 x2 x3 x4 x5 x6 x7 W).mono (by rintro e w' ⟨rfl, h⟩; exact ⟨retI hv, h⟩)
  have D := Lib.hid C
  clear C
  have hx := (vchk_inv hv)
  have hx : x1 ≤ 1048576 := by omega
  have C : ∀ W : World, Calls Try.prog 52 #[.int .u32 x1] W fun e w' => e = .returned (.tuple #[.int .u32 (x1 + 1), .int .i64 0]) ∧ Below W.heap.size W w' := fun W => (next_any x1 W (by omega) (by omega)).mono (by rintro e w' ⟨rfl, h⟩; exact ⟨ret_two (add_ok x1 1 (by omega) (by omega) (by omega)).1 (add_ok x1 1 (by omega) (by omega) (by omega)).2, h⟩)
  have E := Lib.hid C
  clear C hk
  clear hv
  go_enter Try.func29, Try.ntmps29
  go_wp2_with fail
  refine (D.out _).mono ?_; rintro e w1 ⟨rfl, hb⟩
  obtain ⟨hc, hf⟩ := bcell hb
  have hz : w.heap.size + 1 < w1.heap.size := by have := hb.size; simp at this; omega
  go_wp2_with fail
  refine (E.out _).mono ?_; rintro e w2 ⟨rfl, hb2⟩
  obtain ⟨hc2, hf2⟩ := bcell hb2
  have hz2 : w.heap.size + 1 < w2.heap.size := by have := hb2.size; omega
  have hc3 : ∀ b o, b < w.heap.size + 2 → w2.cell? ⟨b, o, none⟩ = ((w.alloc (.cells #[.int .u32 x0, .int .u32 x1, .int .u32 x2, .int .u32 x3, .int .u32 x4, .int .u32 x5, .int .u32 x6, .int .u32 x7] 64)).alloc (.cells #[.int .i64 0, .int .u32 0] 66)).cell? ⟨b, o, none⟩ := fun b o h => (hc2 b o (by omega)).trans (hc b o (by simp; omega))
  have hf3 : ∀ b o, b < w.heap.size + 2 → w2.frozen? ⟨b, o, none⟩ = ((w.alloc (.cells #[.int .u32 x0, .int .u32 x1, .int .u32 x2, .int .u32 x3, .int .u32 x4, .int .u32 x5, .int .u32 x6, .int .u32 x7] 64)).alloc (.cells #[.int .i64 0, .int .u32 0] 66)).frozen? ⟨b, o, none⟩ := fun b o h => (hf2 b o (by omega)).trans (hf b o (by simp; omega))
  clear hc2 hf2
  go_wp2
  exact bodyPost_ret (v := .tuple #[.agg #[.int .i64 1, .int .u32 (x1 + 1)], .int .i64 0]) (by simp [results, Try.results29, go_sem, hc3]) rfl ⟨rfl, (((Joins.below_alloc2 w _ _).trans (hb.mono (by simp; omega))).trans (hb2.mono (by omega))).setCell (by simp) _ |>.setCell (by simp) _⟩
set_option maxHeartbeats 1600000 in
theorem vnext_2_over (x0 x1 x2 x3 x4 x5 x6 x7 : Int) (w : World) (hv : vchk x0 x1 x2 x3 x4 x5 x6 x7 = 0) (hk : x2 = 1048576) :
    Calls Try.prog 29 #[.agg #[.int .u32 x0, .int .u32 x1, .int .u32 x2, .int .u32 x3, .int .u32 x4, .int .u32 x5, .int .u32 x6, .int .u32 x7], .int .i64 2] w fun e w' => e = .returned (.tuple #[.agg #[.int .i64 0, .int .u32 0], .int .i64 12]) ∧ Below w.heap.size w w' := by
  have C : ∀ W : World, Calls Try.prog 57 #[.agg #[.int .u32 x0, .int .u32 x1, .int .u32 x2, .int .u32 x3, .int .u32 x4, .int .u32 x5, .int .u32 x6, .int .u32 x7]] W fun e w' => e = .returned (.int .i64 0) ∧ Below W.heap.size W w' := fun W => (vcheck x0 x1 x2 x3 x4 x5 x6 x7 W).mono (by rintro e w' ⟨rfl, h⟩; exact ⟨retI hv, h⟩)
  have D := Lib.hid C
  clear C
  have hx := (vchk_inv hv)
  have hx : x2 ≤ 1048576 := by omega
  have C : ∀ W : World, Calls Try.prog 52 #[.int .u32 x2] W fun e w' => e = .returned (.tuple #[.int .u32 0, .int .i64 12]) ∧ Below W.heap.size W w' := fun W => (next_any x2 W (by omega) (by omega)).mono (by rintro e w' ⟨rfl, h⟩; exact ⟨ret_two (add_over x2 1 (by omega) (by omega) (by omega)).1 (add_over x2 1 (by omega) (by omega) (by omega)).2, h⟩)
  have E := Lib.hid C
  clear C hk
  clear hv
  go_enter Try.func29, Try.ntmps29
  go_wp2_with fail
  refine (D.out _).mono ?_; rintro e w1 ⟨rfl, hb⟩
  obtain ⟨hc, hf⟩ := bcell hb
  have hz : w.heap.size + 1 < w1.heap.size := by have := hb.size; simp at this; omega
  go_wp2_with fail
  refine (E.out _).mono ?_; rintro e w2 ⟨rfl, hb2⟩
  obtain ⟨hc2, hf2⟩ := bcell hb2
  have hz2 : w.heap.size + 1 < w2.heap.size := by have := hb2.size; omega
  have hc3 : ∀ b o, b < w.heap.size + 2 → w2.cell? ⟨b, o, none⟩ = ((w.alloc (.cells #[.int .u32 x0, .int .u32 x1, .int .u32 x2, .int .u32 x3, .int .u32 x4, .int .u32 x5, .int .u32 x6, .int .u32 x7] 64)).alloc (.cells #[.int .i64 0, .int .u32 0] 66)).cell? ⟨b, o, none⟩ := fun b o h => (hc2 b o (by omega)).trans (hc b o (by simp; omega))
  have hf3 : ∀ b o, b < w.heap.size + 2 → w2.frozen? ⟨b, o, none⟩ = ((w.alloc (.cells #[.int .u32 x0, .int .u32 x1, .int .u32 x2, .int .u32 x3, .int .u32 x4, .int .u32 x5, .int .u32 x6, .int .u32 x7] 64)).alloc (.cells #[.int .i64 0, .int .u32 0] 66)).frozen? ⟨b, o, none⟩ := fun b o h => (hf2 b o (by omega)).trans (hf b o (by simp; omega))
  clear hc2 hf2
  go_wp2
  exact bodyPost_ret (v := .tuple #[.agg #[.int .i64 0, .int .u32 0], .int .i64 12]) (by simp [results, Try.results29, go_sem, hc3]) rfl ⟨rfl, (((Joins.below_alloc2 w _ _).trans (hb.mono (by simp; omega))).trans (hb2.mono (by omega))).setCell (by simp) _ |>.setCell (by simp) _⟩
set_option maxHeartbeats 1600000 in
theorem vnext_2_ok (x0 x1 x2 x3 x4 x5 x6 x7 : Int) (w : World) (hv : vchk x0 x1 x2 x3 x4 x5 x6 x7 = 0) (pk : 0 ≤ x2) (hk : ¬ x2 = 1048576) :
    Calls Try.prog 29 #[.agg #[.int .u32 x0, .int .u32 x1, .int .u32 x2, .int .u32 x3, .int .u32 x4, .int .u32 x5, .int .u32 x6, .int .u32 x7], .int .i64 2] w fun e w' => e = .returned (.tuple #[.agg #[.int .i64 2, .int .u32 (x2 + 1)], .int .i64 0]) ∧ Below w.heap.size w w' := by
  have C : ∀ W : World, Calls Try.prog 57 #[.agg #[.int .u32 x0, .int .u32 x1, .int .u32 x2, .int .u32 x3, .int .u32 x4, .int .u32 x5, .int .u32 x6, .int .u32 x7]] W fun e w' => e = .returned (.int .i64 0) ∧ Below W.heap.size W w' := fun W => (vcheck x0 x1 x2 x3 x4 x5 x6 x7 W).mono (by rintro e w' ⟨rfl, h⟩; exact ⟨retI hv, h⟩)
  have D := Lib.hid C
  clear C
  have hx := (vchk_inv hv)
  have hx : x2 ≤ 1048576 := by omega
  have C : ∀ W : World, Calls Try.prog 52 #[.int .u32 x2] W fun e w' => e = .returned (.tuple #[.int .u32 (x2 + 1), .int .i64 0]) ∧ Below W.heap.size W w' := fun W => (next_any x2 W (by omega) (by omega)).mono (by rintro e w' ⟨rfl, h⟩; exact ⟨ret_two (add_ok x2 1 (by omega) (by omega) (by omega)).1 (add_ok x2 1 (by omega) (by omega) (by omega)).2, h⟩)
  have E := Lib.hid C
  clear C hk
  clear hv
  go_enter Try.func29, Try.ntmps29
  go_wp2_with fail
  refine (D.out _).mono ?_; rintro e w1 ⟨rfl, hb⟩
  obtain ⟨hc, hf⟩ := bcell hb
  have hz : w.heap.size + 1 < w1.heap.size := by have := hb.size; simp at this; omega
  go_wp2_with fail
  refine (E.out _).mono ?_; rintro e w2 ⟨rfl, hb2⟩
  obtain ⟨hc2, hf2⟩ := bcell hb2
  have hz2 : w.heap.size + 1 < w2.heap.size := by have := hb2.size; omega
  have hc3 : ∀ b o, b < w.heap.size + 2 → w2.cell? ⟨b, o, none⟩ = ((w.alloc (.cells #[.int .u32 x0, .int .u32 x1, .int .u32 x2, .int .u32 x3, .int .u32 x4, .int .u32 x5, .int .u32 x6, .int .u32 x7] 64)).alloc (.cells #[.int .i64 0, .int .u32 0] 66)).cell? ⟨b, o, none⟩ := fun b o h => (hc2 b o (by omega)).trans (hc b o (by simp; omega))
  have hf3 : ∀ b o, b < w.heap.size + 2 → w2.frozen? ⟨b, o, none⟩ = ((w.alloc (.cells #[.int .u32 x0, .int .u32 x1, .int .u32 x2, .int .u32 x3, .int .u32 x4, .int .u32 x5, .int .u32 x6, .int .u32 x7] 64)).alloc (.cells #[.int .i64 0, .int .u32 0] 66)).frozen? ⟨b, o, none⟩ := fun b o h => (hf2 b o (by omega)).trans (hf b o (by simp; omega))
  clear hc2 hf2
  go_wp2
  exact bodyPost_ret (v := .tuple #[.agg #[.int .i64 2, .int .u32 (x2 + 1)], .int .i64 0]) (by simp [results, Try.results29, go_sem, hc3]) rfl ⟨rfl, (((Joins.below_alloc2 w _ _).trans (hb.mono (by simp; omega))).trans (hb2.mono (by omega))).setCell (by simp) _ |>.setCell (by simp) _⟩
set_option maxHeartbeats 1600000 in
theorem vnext_3_over (x0 x1 x2 x3 x4 x5 x6 x7 : Int) (w : World) (hv : vchk x0 x1 x2 x3 x4 x5 x6 x7 = 0) (hk : x3 = 1048576) :
    Calls Try.prog 29 #[.agg #[.int .u32 x0, .int .u32 x1, .int .u32 x2, .int .u32 x3, .int .u32 x4, .int .u32 x5, .int .u32 x6, .int .u32 x7], .int .i64 3] w fun e w' => e = .returned (.tuple #[.agg #[.int .i64 0, .int .u32 0], .int .i64 12]) ∧ Below w.heap.size w w' := by
  have C : ∀ W : World, Calls Try.prog 57 #[.agg #[.int .u32 x0, .int .u32 x1, .int .u32 x2, .int .u32 x3, .int .u32 x4, .int .u32 x5, .int .u32 x6, .int .u32 x7]] W fun e w' => e = .returned (.int .i64 0) ∧ Below W.heap.size W w' := fun W => (vcheck x0 x1 x2 x3 x4 x5 x6 x7 W).mono (by rintro e w' ⟨rfl, h⟩; exact ⟨retI hv, h⟩)
  have D := Lib.hid C
  clear C
  have hx := (vchk_inv hv)
  have hx : x3 ≤ 1048576 := by omega
  have C : ∀ W : World, Calls Try.prog 52 #[.int .u32 x3] W fun e w' => e = .returned (.tuple #[.int .u32 0, .int .i64 12]) ∧ Below W.heap.size W w' := fun W => (next_any x3 W (by omega) (by omega)).mono (by rintro e w' ⟨rfl, h⟩; exact ⟨ret_two (add_over x3 1 (by omega) (by omega) (by omega)).1 (add_over x3 1 (by omega) (by omega) (by omega)).2, h⟩)
  have E := Lib.hid C
  clear C hk
  clear hv
  go_enter Try.func29, Try.ntmps29
  go_wp2_with fail
  refine (D.out _).mono ?_; rintro e w1 ⟨rfl, hb⟩
  obtain ⟨hc, hf⟩ := bcell hb
  have hz : w.heap.size + 1 < w1.heap.size := by have := hb.size; simp at this; omega
  go_wp2_with fail
  refine (E.out _).mono ?_; rintro e w2 ⟨rfl, hb2⟩
  obtain ⟨hc2, hf2⟩ := bcell hb2
  have hz2 : w.heap.size + 1 < w2.heap.size := by have := hb2.size; omega
  have hc3 : ∀ b o, b < w.heap.size + 2 → w2.cell? ⟨b, o, none⟩ = ((w.alloc (.cells #[.int .u32 x0, .int .u32 x1, .int .u32 x2, .int .u32 x3, .int .u32 x4, .int .u32 x5, .int .u32 x6, .int .u32 x7] 64)).alloc (.cells #[.int .i64 0, .int .u32 0] 66)).cell? ⟨b, o, none⟩ := fun b o h => (hc2 b o (by omega)).trans (hc b o (by simp; omega))
  have hf3 : ∀ b o, b < w.heap.size + 2 → w2.frozen? ⟨b, o, none⟩ = ((w.alloc (.cells #[.int .u32 x0, .int .u32 x1, .int .u32 x2, .int .u32 x3, .int .u32 x4, .int .u32 x5, .int .u32 x6, .int .u32 x7] 64)).alloc (.cells #[.int .i64 0, .int .u32 0] 66)).frozen? ⟨b, o, none⟩ := fun b o h => (hf2 b o (by omega)).trans (hf b o (by simp; omega))
  clear hc2 hf2
  go_wp2
  exact bodyPost_ret (v := .tuple #[.agg #[.int .i64 0, .int .u32 0], .int .i64 12]) (by simp [results, Try.results29, go_sem, hc3]) rfl ⟨rfl, (((Joins.below_alloc2 w _ _).trans (hb.mono (by simp; omega))).trans (hb2.mono (by omega))).setCell (by simp) _ |>.setCell (by simp) _⟩
set_option maxHeartbeats 1600000 in
theorem vnext_3_ok (x0 x1 x2 x3 x4 x5 x6 x7 : Int) (w : World) (hv : vchk x0 x1 x2 x3 x4 x5 x6 x7 = 0) (pk : 0 ≤ x3) (hk : ¬ x3 = 1048576) :
    Calls Try.prog 29 #[.agg #[.int .u32 x0, .int .u32 x1, .int .u32 x2, .int .u32 x3, .int .u32 x4, .int .u32 x5, .int .u32 x6, .int .u32 x7], .int .i64 3] w fun e w' => e = .returned (.tuple #[.agg #[.int .i64 3, .int .u32 (x3 + 1)], .int .i64 0]) ∧ Below w.heap.size w w' := by
  have C : ∀ W : World, Calls Try.prog 57 #[.agg #[.int .u32 x0, .int .u32 x1, .int .u32 x2, .int .u32 x3, .int .u32 x4, .int .u32 x5, .int .u32 x6, .int .u32 x7]] W fun e w' => e = .returned (.int .i64 0) ∧ Below W.heap.size W w' := fun W => (vcheck x0 x1 x2 x3 x4 x5 x6 x7 W).mono (by rintro e w' ⟨rfl, h⟩; exact ⟨retI hv, h⟩)
  have D := Lib.hid C
  clear C
  have hx := (vchk_inv hv)
  have hx : x3 ≤ 1048576 := by omega
  have C : ∀ W : World, Calls Try.prog 52 #[.int .u32 x3] W fun e w' => e = .returned (.tuple #[.int .u32 (x3 + 1), .int .i64 0]) ∧ Below W.heap.size W w' := fun W => (next_any x3 W (by omega) (by omega)).mono (by rintro e w' ⟨rfl, h⟩; exact ⟨ret_two (add_ok x3 1 (by omega) (by omega) (by omega)).1 (add_ok x3 1 (by omega) (by omega) (by omega)).2, h⟩)
  have E := Lib.hid C
  clear C hk
  clear hv
  go_enter Try.func29, Try.ntmps29
  go_wp2_with fail
  refine (D.out _).mono ?_; rintro e w1 ⟨rfl, hb⟩
  obtain ⟨hc, hf⟩ := bcell hb
  have hz : w.heap.size + 1 < w1.heap.size := by have := hb.size; simp at this; omega
  go_wp2_with fail
  refine (E.out _).mono ?_; rintro e w2 ⟨rfl, hb2⟩
  obtain ⟨hc2, hf2⟩ := bcell hb2
  have hz2 : w.heap.size + 1 < w2.heap.size := by have := hb2.size; omega
  have hc3 : ∀ b o, b < w.heap.size + 2 → w2.cell? ⟨b, o, none⟩ = ((w.alloc (.cells #[.int .u32 x0, .int .u32 x1, .int .u32 x2, .int .u32 x3, .int .u32 x4, .int .u32 x5, .int .u32 x6, .int .u32 x7] 64)).alloc (.cells #[.int .i64 0, .int .u32 0] 66)).cell? ⟨b, o, none⟩ := fun b o h => (hc2 b o (by omega)).trans (hc b o (by simp; omega))
  have hf3 : ∀ b o, b < w.heap.size + 2 → w2.frozen? ⟨b, o, none⟩ = ((w.alloc (.cells #[.int .u32 x0, .int .u32 x1, .int .u32 x2, .int .u32 x3, .int .u32 x4, .int .u32 x5, .int .u32 x6, .int .u32 x7] 64)).alloc (.cells #[.int .i64 0, .int .u32 0] 66)).frozen? ⟨b, o, none⟩ := fun b o h => (hf2 b o (by omega)).trans (hf b o (by simp; omega))
  clear hc2 hf2
  go_wp2
  exact bodyPost_ret (v := .tuple #[.agg #[.int .i64 3, .int .u32 (x3 + 1)], .int .i64 0]) (by simp [results, Try.results29, go_sem, hc3]) rfl ⟨rfl, (((Joins.below_alloc2 w _ _).trans (hb.mono (by simp; omega))).trans (hb2.mono (by omega))).setCell (by simp) _ |>.setCell (by simp) _⟩
set_option maxHeartbeats 1600000 in
theorem vnext_4_over (x0 x1 x2 x3 x4 x5 x6 x7 : Int) (w : World) (hv : vchk x0 x1 x2 x3 x4 x5 x6 x7 = 0) (hk : x4 = 1048576) :
    Calls Try.prog 29 #[.agg #[.int .u32 x0, .int .u32 x1, .int .u32 x2, .int .u32 x3, .int .u32 x4, .int .u32 x5, .int .u32 x6, .int .u32 x7], .int .i64 4] w fun e w' => e = .returned (.tuple #[.agg #[.int .i64 0, .int .u32 0], .int .i64 12]) ∧ Below w.heap.size w w' := by
  have C : ∀ W : World, Calls Try.prog 57 #[.agg #[.int .u32 x0, .int .u32 x1, .int .u32 x2, .int .u32 x3, .int .u32 x4, .int .u32 x5, .int .u32 x6, .int .u32 x7]] W fun e w' => e = .returned (.int .i64 0) ∧ Below W.heap.size W w' := fun W => (vcheck x0 x1 x2 x3 x4 x5 x6 x7 W).mono (by rintro e w' ⟨rfl, h⟩; exact ⟨retI hv, h⟩)
  have D := Lib.hid C
  clear C
  have hx := (vchk_inv hv)
  have hx : x4 ≤ 1048576 := by omega
  have C : ∀ W : World, Calls Try.prog 52 #[.int .u32 x4] W fun e w' => e = .returned (.tuple #[.int .u32 0, .int .i64 12]) ∧ Below W.heap.size W w' := fun W => (next_any x4 W (by omega) (by omega)).mono (by rintro e w' ⟨rfl, h⟩; exact ⟨ret_two (add_over x4 1 (by omega) (by omega) (by omega)).1 (add_over x4 1 (by omega) (by omega) (by omega)).2, h⟩)
  have E := Lib.hid C
  clear C hk
  clear hv
  go_enter Try.func29, Try.ntmps29
  go_wp2_with fail
  refine (D.out _).mono ?_; rintro e w1 ⟨rfl, hb⟩
  obtain ⟨hc, hf⟩ := bcell hb
  have hz : w.heap.size + 1 < w1.heap.size := by have := hb.size; simp at this; omega
  go_wp2_with fail
  refine (E.out _).mono ?_; rintro e w2 ⟨rfl, hb2⟩
  obtain ⟨hc2, hf2⟩ := bcell hb2
  have hz2 : w.heap.size + 1 < w2.heap.size := by have := hb2.size; omega
  have hc3 : ∀ b o, b < w.heap.size + 2 → w2.cell? ⟨b, o, none⟩ = ((w.alloc (.cells #[.int .u32 x0, .int .u32 x1, .int .u32 x2, .int .u32 x3, .int .u32 x4, .int .u32 x5, .int .u32 x6, .int .u32 x7] 64)).alloc (.cells #[.int .i64 0, .int .u32 0] 66)).cell? ⟨b, o, none⟩ := fun b o h => (hc2 b o (by omega)).trans (hc b o (by simp; omega))
  have hf3 : ∀ b o, b < w.heap.size + 2 → w2.frozen? ⟨b, o, none⟩ = ((w.alloc (.cells #[.int .u32 x0, .int .u32 x1, .int .u32 x2, .int .u32 x3, .int .u32 x4, .int .u32 x5, .int .u32 x6, .int .u32 x7] 64)).alloc (.cells #[.int .i64 0, .int .u32 0] 66)).frozen? ⟨b, o, none⟩ := fun b o h => (hf2 b o (by omega)).trans (hf b o (by simp; omega))
  clear hc2 hf2
  go_wp2
  exact bodyPost_ret (v := .tuple #[.agg #[.int .i64 0, .int .u32 0], .int .i64 12]) (by simp [results, Try.results29, go_sem, hc3]) rfl ⟨rfl, (((Joins.below_alloc2 w _ _).trans (hb.mono (by simp; omega))).trans (hb2.mono (by omega))).setCell (by simp) _ |>.setCell (by simp) _⟩
set_option maxHeartbeats 1600000 in
theorem vnext_4_ok (x0 x1 x2 x3 x4 x5 x6 x7 : Int) (w : World) (hv : vchk x0 x1 x2 x3 x4 x5 x6 x7 = 0) (pk : 0 ≤ x4) (hk : ¬ x4 = 1048576) :
    Calls Try.prog 29 #[.agg #[.int .u32 x0, .int .u32 x1, .int .u32 x2, .int .u32 x3, .int .u32 x4, .int .u32 x5, .int .u32 x6, .int .u32 x7], .int .i64 4] w fun e w' => e = .returned (.tuple #[.agg #[.int .i64 4, .int .u32 (x4 + 1)], .int .i64 0]) ∧ Below w.heap.size w w' := by
  have C : ∀ W : World, Calls Try.prog 57 #[.agg #[.int .u32 x0, .int .u32 x1, .int .u32 x2, .int .u32 x3, .int .u32 x4, .int .u32 x5, .int .u32 x6, .int .u32 x7]] W fun e w' => e = .returned (.int .i64 0) ∧ Below W.heap.size W w' := fun W => (vcheck x0 x1 x2 x3 x4 x5 x6 x7 W).mono (by rintro e w' ⟨rfl, h⟩; exact ⟨retI hv, h⟩)
  have D := Lib.hid C
  clear C
  have hx := (vchk_inv hv)
  have hx : x4 ≤ 1048576 := by omega
  have C : ∀ W : World, Calls Try.prog 52 #[.int .u32 x4] W fun e w' => e = .returned (.tuple #[.int .u32 (x4 + 1), .int .i64 0]) ∧ Below W.heap.size W w' := fun W => (next_any x4 W (by omega) (by omega)).mono (by rintro e w' ⟨rfl, h⟩; exact ⟨ret_two (add_ok x4 1 (by omega) (by omega) (by omega)).1 (add_ok x4 1 (by omega) (by omega) (by omega)).2, h⟩)
  have E := Lib.hid C
  clear C hk
  clear hv
  go_enter Try.func29, Try.ntmps29
  go_wp2_with fail
  refine (D.out _).mono ?_; rintro e w1 ⟨rfl, hb⟩
  obtain ⟨hc, hf⟩ := bcell hb
  have hz : w.heap.size + 1 < w1.heap.size := by have := hb.size; simp at this; omega
  go_wp2_with fail
  refine (E.out _).mono ?_; rintro e w2 ⟨rfl, hb2⟩
  obtain ⟨hc2, hf2⟩ := bcell hb2
  have hz2 : w.heap.size + 1 < w2.heap.size := by have := hb2.size; omega
  have hc3 : ∀ b o, b < w.heap.size + 2 → w2.cell? ⟨b, o, none⟩ = ((w.alloc (.cells #[.int .u32 x0, .int .u32 x1, .int .u32 x2, .int .u32 x3, .int .u32 x4, .int .u32 x5, .int .u32 x6, .int .u32 x7] 64)).alloc (.cells #[.int .i64 0, .int .u32 0] 66)).cell? ⟨b, o, none⟩ := fun b o h => (hc2 b o (by omega)).trans (hc b o (by simp; omega))
  have hf3 : ∀ b o, b < w.heap.size + 2 → w2.frozen? ⟨b, o, none⟩ = ((w.alloc (.cells #[.int .u32 x0, .int .u32 x1, .int .u32 x2, .int .u32 x3, .int .u32 x4, .int .u32 x5, .int .u32 x6, .int .u32 x7] 64)).alloc (.cells #[.int .i64 0, .int .u32 0] 66)).frozen? ⟨b, o, none⟩ := fun b o h => (hf2 b o (by omega)).trans (hf b o (by simp; omega))
  clear hc2 hf2
  go_wp2
  exact bodyPost_ret (v := .tuple #[.agg #[.int .i64 4, .int .u32 (x4 + 1)], .int .i64 0]) (by simp [results, Try.results29, go_sem, hc3]) rfl ⟨rfl, (((Joins.below_alloc2 w _ _).trans (hb.mono (by simp; omega))).trans (hb2.mono (by omega))).setCell (by simp) _ |>.setCell (by simp) _⟩
set_option maxHeartbeats 1600000 in
theorem vnext_5_over (x0 x1 x2 x3 x4 x5 x6 x7 : Int) (w : World) (hv : vchk x0 x1 x2 x3 x4 x5 x6 x7 = 0) (hk : x5 = 1048576) :
    Calls Try.prog 29 #[.agg #[.int .u32 x0, .int .u32 x1, .int .u32 x2, .int .u32 x3, .int .u32 x4, .int .u32 x5, .int .u32 x6, .int .u32 x7], .int .i64 5] w fun e w' => e = .returned (.tuple #[.agg #[.int .i64 0, .int .u32 0], .int .i64 12]) ∧ Below w.heap.size w w' := by
  have C : ∀ W : World, Calls Try.prog 57 #[.agg #[.int .u32 x0, .int .u32 x1, .int .u32 x2, .int .u32 x3, .int .u32 x4, .int .u32 x5, .int .u32 x6, .int .u32 x7]] W fun e w' => e = .returned (.int .i64 0) ∧ Below W.heap.size W w' := fun W => (vcheck x0 x1 x2 x3 x4 x5 x6 x7 W).mono (by rintro e w' ⟨rfl, h⟩; exact ⟨retI hv, h⟩)
  have D := Lib.hid C
  clear C
  have hx := (vchk_inv hv)
  have hx : x5 ≤ 1048576 := by omega
  have C : ∀ W : World, Calls Try.prog 52 #[.int .u32 x5] W fun e w' => e = .returned (.tuple #[.int .u32 0, .int .i64 12]) ∧ Below W.heap.size W w' := fun W => (next_any x5 W (by omega) (by omega)).mono (by rintro e w' ⟨rfl, h⟩; exact ⟨ret_two (add_over x5 1 (by omega) (by omega) (by omega)).1 (add_over x5 1 (by omega) (by omega) (by omega)).2, h⟩)
  have E := Lib.hid C
  clear C hk
  clear hv
  go_enter Try.func29, Try.ntmps29
  go_wp2_with fail
  refine (D.out _).mono ?_; rintro e w1 ⟨rfl, hb⟩
  obtain ⟨hc, hf⟩ := bcell hb
  have hz : w.heap.size + 1 < w1.heap.size := by have := hb.size; simp at this; omega
  go_wp2_with fail
  refine (E.out _).mono ?_; rintro e w2 ⟨rfl, hb2⟩
  obtain ⟨hc2, hf2⟩ := bcell hb2
  have hz2 : w.heap.size + 1 < w2.heap.size := by have := hb2.size; omega
  have hc3 : ∀ b o, b < w.heap.size + 2 → w2.cell? ⟨b, o, none⟩ = ((w.alloc (.cells #[.int .u32 x0, .int .u32 x1, .int .u32 x2, .int .u32 x3, .int .u32 x4, .int .u32 x5, .int .u32 x6, .int .u32 x7] 64)).alloc (.cells #[.int .i64 0, .int .u32 0] 66)).cell? ⟨b, o, none⟩ := fun b o h => (hc2 b o (by omega)).trans (hc b o (by simp; omega))
  have hf3 : ∀ b o, b < w.heap.size + 2 → w2.frozen? ⟨b, o, none⟩ = ((w.alloc (.cells #[.int .u32 x0, .int .u32 x1, .int .u32 x2, .int .u32 x3, .int .u32 x4, .int .u32 x5, .int .u32 x6, .int .u32 x7] 64)).alloc (.cells #[.int .i64 0, .int .u32 0] 66)).frozen? ⟨b, o, none⟩ := fun b o h => (hf2 b o (by omega)).trans (hf b o (by simp; omega))
  clear hc2 hf2
  go_wp2
  exact bodyPost_ret (v := .tuple #[.agg #[.int .i64 0, .int .u32 0], .int .i64 12]) (by simp [results, Try.results29, go_sem, hc3]) rfl ⟨rfl, (((Joins.below_alloc2 w _ _).trans (hb.mono (by simp; omega))).trans (hb2.mono (by omega))).setCell (by simp) _ |>.setCell (by simp) _⟩
set_option maxHeartbeats 1600000 in
theorem vnext_5_ok (x0 x1 x2 x3 x4 x5 x6 x7 : Int) (w : World) (hv : vchk x0 x1 x2 x3 x4 x5 x6 x7 = 0) (pk : 0 ≤ x5) (hk : ¬ x5 = 1048576) :
    Calls Try.prog 29 #[.agg #[.int .u32 x0, .int .u32 x1, .int .u32 x2, .int .u32 x3, .int .u32 x4, .int .u32 x5, .int .u32 x6, .int .u32 x7], .int .i64 5] w fun e w' => e = .returned (.tuple #[.agg #[.int .i64 5, .int .u32 (x5 + 1)], .int .i64 0]) ∧ Below w.heap.size w w' := by
  have C : ∀ W : World, Calls Try.prog 57 #[.agg #[.int .u32 x0, .int .u32 x1, .int .u32 x2, .int .u32 x3, .int .u32 x4, .int .u32 x5, .int .u32 x6, .int .u32 x7]] W fun e w' => e = .returned (.int .i64 0) ∧ Below W.heap.size W w' := fun W => (vcheck x0 x1 x2 x3 x4 x5 x6 x7 W).mono (by rintro e w' ⟨rfl, h⟩; exact ⟨retI hv, h⟩)
  have D := Lib.hid C
  clear C
  have hx := (vchk_inv hv)
  have hx : x5 ≤ 1048576 := by omega
  have C : ∀ W : World, Calls Try.prog 52 #[.int .u32 x5] W fun e w' => e = .returned (.tuple #[.int .u32 (x5 + 1), .int .i64 0]) ∧ Below W.heap.size W w' := fun W => (next_any x5 W (by omega) (by omega)).mono (by rintro e w' ⟨rfl, h⟩; exact ⟨ret_two (add_ok x5 1 (by omega) (by omega) (by omega)).1 (add_ok x5 1 (by omega) (by omega) (by omega)).2, h⟩)
  have E := Lib.hid C
  clear C hk
  clear hv
  go_enter Try.func29, Try.ntmps29
  go_wp2_with fail
  refine (D.out _).mono ?_; rintro e w1 ⟨rfl, hb⟩
  obtain ⟨hc, hf⟩ := bcell hb
  have hz : w.heap.size + 1 < w1.heap.size := by have := hb.size; simp at this; omega
  go_wp2_with fail
  refine (E.out _).mono ?_; rintro e w2 ⟨rfl, hb2⟩
  obtain ⟨hc2, hf2⟩ := bcell hb2
  have hz2 : w.heap.size + 1 < w2.heap.size := by have := hb2.size; omega
  have hc3 : ∀ b o, b < w.heap.size + 2 → w2.cell? ⟨b, o, none⟩ = ((w.alloc (.cells #[.int .u32 x0, .int .u32 x1, .int .u32 x2, .int .u32 x3, .int .u32 x4, .int .u32 x5, .int .u32 x6, .int .u32 x7] 64)).alloc (.cells #[.int .i64 0, .int .u32 0] 66)).cell? ⟨b, o, none⟩ := fun b o h => (hc2 b o (by omega)).trans (hc b o (by simp; omega))
  have hf3 : ∀ b o, b < w.heap.size + 2 → w2.frozen? ⟨b, o, none⟩ = ((w.alloc (.cells #[.int .u32 x0, .int .u32 x1, .int .u32 x2, .int .u32 x3, .int .u32 x4, .int .u32 x5, .int .u32 x6, .int .u32 x7] 64)).alloc (.cells #[.int .i64 0, .int .u32 0] 66)).frozen? ⟨b, o, none⟩ := fun b o h => (hf2 b o (by omega)).trans (hf b o (by simp; omega))
  clear hc2 hf2
  go_wp2
  exact bodyPost_ret (v := .tuple #[.agg #[.int .i64 5, .int .u32 (x5 + 1)], .int .i64 0]) (by simp [results, Try.results29, go_sem, hc3]) rfl ⟨rfl, (((Joins.below_alloc2 w _ _).trans (hb.mono (by simp; omega))).trans (hb2.mono (by omega))).setCell (by simp) _ |>.setCell (by simp) _⟩
set_option maxHeartbeats 1600000 in
theorem vnext_6_over (x0 x1 x2 x3 x4 x5 x6 x7 : Int) (w : World) (hv : vchk x0 x1 x2 x3 x4 x5 x6 x7 = 0) (hk : x6 = 1048576) :
    Calls Try.prog 29 #[.agg #[.int .u32 x0, .int .u32 x1, .int .u32 x2, .int .u32 x3, .int .u32 x4, .int .u32 x5, .int .u32 x6, .int .u32 x7], .int .i64 6] w fun e w' => e = .returned (.tuple #[.agg #[.int .i64 0, .int .u32 0], .int .i64 12]) ∧ Below w.heap.size w w' := by
  have C : ∀ W : World, Calls Try.prog 57 #[.agg #[.int .u32 x0, .int .u32 x1, .int .u32 x2, .int .u32 x3, .int .u32 x4, .int .u32 x5, .int .u32 x6, .int .u32 x7]] W fun e w' => e = .returned (.int .i64 0) ∧ Below W.heap.size W w' := fun W => (vcheck x0 x1 x2 x3 x4 x5 x6 x7 W).mono (by rintro e w' ⟨rfl, h⟩; exact ⟨retI hv, h⟩)
  have D := Lib.hid C
  clear C
  have hx := (vchk_inv hv)
  have hx : x6 ≤ 1048576 := by omega
  have C : ∀ W : World, Calls Try.prog 52 #[.int .u32 x6] W fun e w' => e = .returned (.tuple #[.int .u32 0, .int .i64 12]) ∧ Below W.heap.size W w' := fun W => (next_any x6 W (by omega) (by omega)).mono (by rintro e w' ⟨rfl, h⟩; exact ⟨ret_two (add_over x6 1 (by omega) (by omega) (by omega)).1 (add_over x6 1 (by omega) (by omega) (by omega)).2, h⟩)
  have E := Lib.hid C
  clear C hk
  clear hv
  go_enter Try.func29, Try.ntmps29
  go_wp2_with fail
  refine (D.out _).mono ?_; rintro e w1 ⟨rfl, hb⟩
  obtain ⟨hc, hf⟩ := bcell hb
  have hz : w.heap.size + 1 < w1.heap.size := by have := hb.size; simp at this; omega
  go_wp2_with fail
  refine (E.out _).mono ?_; rintro e w2 ⟨rfl, hb2⟩
  obtain ⟨hc2, hf2⟩ := bcell hb2
  have hz2 : w.heap.size + 1 < w2.heap.size := by have := hb2.size; omega
  have hc3 : ∀ b o, b < w.heap.size + 2 → w2.cell? ⟨b, o, none⟩ = ((w.alloc (.cells #[.int .u32 x0, .int .u32 x1, .int .u32 x2, .int .u32 x3, .int .u32 x4, .int .u32 x5, .int .u32 x6, .int .u32 x7] 64)).alloc (.cells #[.int .i64 0, .int .u32 0] 66)).cell? ⟨b, o, none⟩ := fun b o h => (hc2 b o (by omega)).trans (hc b o (by simp; omega))
  have hf3 : ∀ b o, b < w.heap.size + 2 → w2.frozen? ⟨b, o, none⟩ = ((w.alloc (.cells #[.int .u32 x0, .int .u32 x1, .int .u32 x2, .int .u32 x3, .int .u32 x4, .int .u32 x5, .int .u32 x6, .int .u32 x7] 64)).alloc (.cells #[.int .i64 0, .int .u32 0] 66)).frozen? ⟨b, o, none⟩ := fun b o h => (hf2 b o (by omega)).trans (hf b o (by simp; omega))
  clear hc2 hf2
  go_wp2
  exact bodyPost_ret (v := .tuple #[.agg #[.int .i64 0, .int .u32 0], .int .i64 12]) (by simp [results, Try.results29, go_sem, hc3]) rfl ⟨rfl, (((Joins.below_alloc2 w _ _).trans (hb.mono (by simp; omega))).trans (hb2.mono (by omega))).setCell (by simp) _ |>.setCell (by simp) _⟩
set_option maxHeartbeats 1600000 in
theorem vnext_6_ok (x0 x1 x2 x3 x4 x5 x6 x7 : Int) (w : World) (hv : vchk x0 x1 x2 x3 x4 x5 x6 x7 = 0) (pk : 0 ≤ x6) (hk : ¬ x6 = 1048576) :
    Calls Try.prog 29 #[.agg #[.int .u32 x0, .int .u32 x1, .int .u32 x2, .int .u32 x3, .int .u32 x4, .int .u32 x5, .int .u32 x6, .int .u32 x7], .int .i64 6] w fun e w' => e = .returned (.tuple #[.agg #[.int .i64 6, .int .u32 (x6 + 1)], .int .i64 0]) ∧ Below w.heap.size w w' := by
  have C : ∀ W : World, Calls Try.prog 57 #[.agg #[.int .u32 x0, .int .u32 x1, .int .u32 x2, .int .u32 x3, .int .u32 x4, .int .u32 x5, .int .u32 x6, .int .u32 x7]] W fun e w' => e = .returned (.int .i64 0) ∧ Below W.heap.size W w' := fun W => (vcheck x0 x1 x2 x3 x4 x5 x6 x7 W).mono (by rintro e w' ⟨rfl, h⟩; exact ⟨retI hv, h⟩)
  have D := Lib.hid C
  clear C
  have hx := (vchk_inv hv)
  have hx : x6 ≤ 1048576 := by omega
  have C : ∀ W : World, Calls Try.prog 52 #[.int .u32 x6] W fun e w' => e = .returned (.tuple #[.int .u32 (x6 + 1), .int .i64 0]) ∧ Below W.heap.size W w' := fun W => (next_any x6 W (by omega) (by omega)).mono (by rintro e w' ⟨rfl, h⟩; exact ⟨ret_two (add_ok x6 1 (by omega) (by omega) (by omega)).1 (add_ok x6 1 (by omega) (by omega) (by omega)).2, h⟩)
  have E := Lib.hid C
  clear C hk
  clear hv
  go_enter Try.func29, Try.ntmps29
  go_wp2_with fail
  refine (D.out _).mono ?_; rintro e w1 ⟨rfl, hb⟩
  obtain ⟨hc, hf⟩ := bcell hb
  have hz : w.heap.size + 1 < w1.heap.size := by have := hb.size; simp at this; omega
  go_wp2_with fail
  refine (E.out _).mono ?_; rintro e w2 ⟨rfl, hb2⟩
  obtain ⟨hc2, hf2⟩ := bcell hb2
  have hz2 : w.heap.size + 1 < w2.heap.size := by have := hb2.size; omega
  have hc3 : ∀ b o, b < w.heap.size + 2 → w2.cell? ⟨b, o, none⟩ = ((w.alloc (.cells #[.int .u32 x0, .int .u32 x1, .int .u32 x2, .int .u32 x3, .int .u32 x4, .int .u32 x5, .int .u32 x6, .int .u32 x7] 64)).alloc (.cells #[.int .i64 0, .int .u32 0] 66)).cell? ⟨b, o, none⟩ := fun b o h => (hc2 b o (by omega)).trans (hc b o (by simp; omega))
  have hf3 : ∀ b o, b < w.heap.size + 2 → w2.frozen? ⟨b, o, none⟩ = ((w.alloc (.cells #[.int .u32 x0, .int .u32 x1, .int .u32 x2, .int .u32 x3, .int .u32 x4, .int .u32 x5, .int .u32 x6, .int .u32 x7] 64)).alloc (.cells #[.int .i64 0, .int .u32 0] 66)).frozen? ⟨b, o, none⟩ := fun b o h => (hf2 b o (by omega)).trans (hf b o (by simp; omega))
  clear hc2 hf2
  go_wp2
  exact bodyPost_ret (v := .tuple #[.agg #[.int .i64 6, .int .u32 (x6 + 1)], .int .i64 0]) (by simp [results, Try.results29, go_sem, hc3]) rfl ⟨rfl, (((Joins.below_alloc2 w _ _).trans (hb.mono (by simp; omega))).trans (hb2.mono (by omega))).setCell (by simp) _ |>.setCell (by simp) _⟩
set_option maxHeartbeats 1600000 in
theorem vnext_7_over (x0 x1 x2 x3 x4 x5 x6 x7 : Int) (w : World) (hv : vchk x0 x1 x2 x3 x4 x5 x6 x7 = 0) (hk : x7 = 1048576) :
    Calls Try.prog 29 #[.agg #[.int .u32 x0, .int .u32 x1, .int .u32 x2, .int .u32 x3, .int .u32 x4, .int .u32 x5, .int .u32 x6, .int .u32 x7], .int .i64 7] w fun e w' => e = .returned (.tuple #[.agg #[.int .i64 0, .int .u32 0], .int .i64 12]) ∧ Below w.heap.size w w' := by
  have C : ∀ W : World, Calls Try.prog 57 #[.agg #[.int .u32 x0, .int .u32 x1, .int .u32 x2, .int .u32 x3, .int .u32 x4, .int .u32 x5, .int .u32 x6, .int .u32 x7]] W fun e w' => e = .returned (.int .i64 0) ∧ Below W.heap.size W w' := fun W => (vcheck x0 x1 x2 x3 x4 x5 x6 x7 W).mono (by rintro e w' ⟨rfl, h⟩; exact ⟨retI hv, h⟩)
  have D := Lib.hid C
  clear C
  have hx := (vchk_inv hv)
  have hx : x7 ≤ 1048576 := by omega
  have C : ∀ W : World, Calls Try.prog 52 #[.int .u32 x7] W fun e w' => e = .returned (.tuple #[.int .u32 0, .int .i64 12]) ∧ Below W.heap.size W w' := fun W => (next_any x7 W (by omega) (by omega)).mono (by rintro e w' ⟨rfl, h⟩; exact ⟨ret_two (add_over x7 1 (by omega) (by omega) (by omega)).1 (add_over x7 1 (by omega) (by omega) (by omega)).2, h⟩)
  have E := Lib.hid C
  clear C hk
  clear hv
  go_enter Try.func29, Try.ntmps29
  go_wp2_with fail
  refine (D.out _).mono ?_; rintro e w1 ⟨rfl, hb⟩
  obtain ⟨hc, hf⟩ := bcell hb
  have hz : w.heap.size + 1 < w1.heap.size := by have := hb.size; simp at this; omega
  go_wp2_with fail
  refine (E.out _).mono ?_; rintro e w2 ⟨rfl, hb2⟩
  obtain ⟨hc2, hf2⟩ := bcell hb2
  have hz2 : w.heap.size + 1 < w2.heap.size := by have := hb2.size; omega
  have hc3 : ∀ b o, b < w.heap.size + 2 → w2.cell? ⟨b, o, none⟩ = ((w.alloc (.cells #[.int .u32 x0, .int .u32 x1, .int .u32 x2, .int .u32 x3, .int .u32 x4, .int .u32 x5, .int .u32 x6, .int .u32 x7] 64)).alloc (.cells #[.int .i64 0, .int .u32 0] 66)).cell? ⟨b, o, none⟩ := fun b o h => (hc2 b o (by omega)).trans (hc b o (by simp; omega))
  have hf3 : ∀ b o, b < w.heap.size + 2 → w2.frozen? ⟨b, o, none⟩ = ((w.alloc (.cells #[.int .u32 x0, .int .u32 x1, .int .u32 x2, .int .u32 x3, .int .u32 x4, .int .u32 x5, .int .u32 x6, .int .u32 x7] 64)).alloc (.cells #[.int .i64 0, .int .u32 0] 66)).frozen? ⟨b, o, none⟩ := fun b o h => (hf2 b o (by omega)).trans (hf b o (by simp; omega))
  clear hc2 hf2
  go_wp2
  exact bodyPost_ret (v := .tuple #[.agg #[.int .i64 0, .int .u32 0], .int .i64 12]) (by simp [results, Try.results29, go_sem, hc3]) rfl ⟨rfl, (((Joins.below_alloc2 w _ _).trans (hb.mono (by simp; omega))).trans (hb2.mono (by omega))).setCell (by simp) _ |>.setCell (by simp) _⟩
set_option maxHeartbeats 1600000 in
theorem vnext_7_ok (x0 x1 x2 x3 x4 x5 x6 x7 : Int) (w : World) (hv : vchk x0 x1 x2 x3 x4 x5 x6 x7 = 0) (pk : 0 ≤ x7) (hk : ¬ x7 = 1048576) :
    Calls Try.prog 29 #[.agg #[.int .u32 x0, .int .u32 x1, .int .u32 x2, .int .u32 x3, .int .u32 x4, .int .u32 x5, .int .u32 x6, .int .u32 x7], .int .i64 7] w fun e w' => e = .returned (.tuple #[.agg #[.int .i64 7, .int .u32 (x7 + 1)], .int .i64 0]) ∧ Below w.heap.size w w' := by
  have C : ∀ W : World, Calls Try.prog 57 #[.agg #[.int .u32 x0, .int .u32 x1, .int .u32 x2, .int .u32 x3, .int .u32 x4, .int .u32 x5, .int .u32 x6, .int .u32 x7]] W fun e w' => e = .returned (.int .i64 0) ∧ Below W.heap.size W w' := fun W => (vcheck x0 x1 x2 x3 x4 x5 x6 x7 W).mono (by rintro e w' ⟨rfl, h⟩; exact ⟨retI hv, h⟩)
  have D := Lib.hid C
  clear C
  have hx := (vchk_inv hv)
  have hx : x7 ≤ 1048576 := by omega
  have C : ∀ W : World, Calls Try.prog 52 #[.int .u32 x7] W fun e w' => e = .returned (.tuple #[.int .u32 (x7 + 1), .int .i64 0]) ∧ Below W.heap.size W w' := fun W => (next_any x7 W (by omega) (by omega)).mono (by rintro e w' ⟨rfl, h⟩; exact ⟨ret_two (add_ok x7 1 (by omega) (by omega) (by omega)).1 (add_ok x7 1 (by omega) (by omega) (by omega)).2, h⟩)
  have E := Lib.hid C
  clear C hk
  clear hv
  go_enter Try.func29, Try.ntmps29
  go_wp2_with fail
  refine (D.out _).mono ?_; rintro e w1 ⟨rfl, hb⟩
  obtain ⟨hc, hf⟩ := bcell hb
  have hz : w.heap.size + 1 < w1.heap.size := by have := hb.size; simp at this; omega
  go_wp2_with fail
  refine (E.out _).mono ?_; rintro e w2 ⟨rfl, hb2⟩
  obtain ⟨hc2, hf2⟩ := bcell hb2
  have hz2 : w.heap.size + 1 < w2.heap.size := by have := hb2.size; omega
  have hc3 : ∀ b o, b < w.heap.size + 2 → w2.cell? ⟨b, o, none⟩ = ((w.alloc (.cells #[.int .u32 x0, .int .u32 x1, .int .u32 x2, .int .u32 x3, .int .u32 x4, .int .u32 x5, .int .u32 x6, .int .u32 x7] 64)).alloc (.cells #[.int .i64 0, .int .u32 0] 66)).cell? ⟨b, o, none⟩ := fun b o h => (hc2 b o (by omega)).trans (hc b o (by simp; omega))
  have hf3 : ∀ b o, b < w.heap.size + 2 → w2.frozen? ⟨b, o, none⟩ = ((w.alloc (.cells #[.int .u32 x0, .int .u32 x1, .int .u32 x2, .int .u32 x3, .int .u32 x4, .int .u32 x5, .int .u32 x6, .int .u32 x7] 64)).alloc (.cells #[.int .i64 0, .int .u32 0] 66)).frozen? ⟨b, o, none⟩ := fun b o h => (hf2 b o (by omega)).trans (hf b o (by simp; omega))
  clear hc2 hf2
  go_wp2
  exact bodyPost_ret (v := .tuple #[.agg #[.int .i64 7, .int .u32 (x7 + 1)], .int .i64 0]) (by simp [results, Try.results29, go_sem, hc3]) rfl ⟨rfl, (((Joins.below_alloc2 w _ _).trans (hb.mono (by simp; omega))).trans (hb2.mono (by omega))).setCell (by simp) _ |>.setCell (by simp) _⟩
theorem vnext (x0 x1 x2 x3 x4 x5 x6 x7 o : Int) (w : World) (p0 : 0 ≤ x0) (p1 : 0 ≤ x1) (p2 : 0 ≤ x2) (p3 : 0 ≤ x3) (p4 : 0 ≤ x4) (p5 : 0 ≤ x5) (p6 : 0 ≤ x6) (p7 : 0 ≤ x7) :
    Calls Try.prog 29 #[.agg #[.int .u32 x0, .int .u32 x1, .int .u32 x2, .int .u32 x3, .int .u32 x4, .int .u32 x5, .int .u32 x6, .int .u32 x7], .int .i64 o] w fun e w' => e = .returned (.tuple #[.agg #[.int .i64 (nxO x0 x1 x2 x3 x4 x5 x6 x7 o), .int .u32 (nxS x0 x1 x2 x3 x4 x5 x6 x7 o)], .int .i64 (nxE x0 x1 x2 x3 x4 x5 x6 x7 o)]) ∧ Below w.heap.size w w' := by
  rcases vchk_01 x0 x1 x2 x3 x4 x5 x6 x7 with hv | hv
  · by_cases h0 : o < 0
    · exact (vnext_n_low x0 x1 x2 x3 x4 x5 x6 x7 o w hv h0).mono (by rintro e w' ⟨rfl, h⟩; exact ⟨ret_nx (nx_bad (by omega)), h⟩)
    by_cases h8 : 8 ≤ o
    · exact (vnext_n_high x0 x1 x2 x3 x4 x5 x6 x7 o w hv h0 h8).mono (by rintro e w' ⟨rfl, h⟩; exact ⟨ret_nx (nx_bad (by omega)), h⟩)
    obtain rfl | rfl | rfl | rfl | rfl | rfl | rfl | rfl := o_cases (o := o) (by omega) (by omega)
    · by_cases hk : x0 = 1048576
      · exact (vnext_0_over x0 x1 x2 x3 x4 x5 x6 x7 w hv hk).mono (by rintro e w' ⟨rfl, h⟩; exact ⟨ret_nx (nx_over ⟨hv, by omega, by omega⟩ (by rw [pk_0]; exact hk)), h⟩)
      · exact (vnext_0_ok x0 x1 x2 x3 x4 x5 x6 x7 w hv p0 hk).mono (by rintro e w' ⟨rfl, h⟩; exact ⟨ret_nx (by have := nx_ok (o := 0) ⟨hv, by omega, by omega⟩ (by rw [pk_0]; exact hk); rw [pk_0] at this; exact this), h⟩)
    · by_cases hk : x1 = 1048576
      · exact (vnext_1_over x0 x1 x2 x3 x4 x5 x6 x7 w hv hk).mono (by rintro e w' ⟨rfl, h⟩; exact ⟨ret_nx (nx_over ⟨hv, by omega, by omega⟩ (by rw [pk_1]; exact hk)), h⟩)
      · exact (vnext_1_ok x0 x1 x2 x3 x4 x5 x6 x7 w hv p1 hk).mono (by rintro e w' ⟨rfl, h⟩; exact ⟨ret_nx (by have := nx_ok (o := 1) ⟨hv, by omega, by omega⟩ (by rw [pk_1]; exact hk); rw [pk_1] at this; exact this), h⟩)
    · by_cases hk : x2 = 1048576
      · exact (vnext_2_over x0 x1 x2 x3 x4 x5 x6 x7 w hv hk).mono (by rintro e w' ⟨rfl, h⟩; exact ⟨ret_nx (nx_over ⟨hv, by omega, by omega⟩ (by rw [pk_2]; exact hk)), h⟩)
      · exact (vnext_2_ok x0 x1 x2 x3 x4 x5 x6 x7 w hv p2 hk).mono (by rintro e w' ⟨rfl, h⟩; exact ⟨ret_nx (by have := nx_ok (o := 2) ⟨hv, by omega, by omega⟩ (by rw [pk_2]; exact hk); rw [pk_2] at this; exact this), h⟩)
    · by_cases hk : x3 = 1048576
      · exact (vnext_3_over x0 x1 x2 x3 x4 x5 x6 x7 w hv hk).mono (by rintro e w' ⟨rfl, h⟩; exact ⟨ret_nx (nx_over ⟨hv, by omega, by omega⟩ (by rw [pk_3]; exact hk)), h⟩)
      · exact (vnext_3_ok x0 x1 x2 x3 x4 x5 x6 x7 w hv p3 hk).mono (by rintro e w' ⟨rfl, h⟩; exact ⟨ret_nx (by have := nx_ok (o := 3) ⟨hv, by omega, by omega⟩ (by rw [pk_3]; exact hk); rw [pk_3] at this; exact this), h⟩)
    · by_cases hk : x4 = 1048576
      · exact (vnext_4_over x0 x1 x2 x3 x4 x5 x6 x7 w hv hk).mono (by rintro e w' ⟨rfl, h⟩; exact ⟨ret_nx (nx_over ⟨hv, by omega, by omega⟩ (by rw [pk_4]; exact hk)), h⟩)
      · exact (vnext_4_ok x0 x1 x2 x3 x4 x5 x6 x7 w hv p4 hk).mono (by rintro e w' ⟨rfl, h⟩; exact ⟨ret_nx (by have := nx_ok (o := 4) ⟨hv, by omega, by omega⟩ (by rw [pk_4]; exact hk); rw [pk_4] at this; exact this), h⟩)
    · by_cases hk : x5 = 1048576
      · exact (vnext_5_over x0 x1 x2 x3 x4 x5 x6 x7 w hv hk).mono (by rintro e w' ⟨rfl, h⟩; exact ⟨ret_nx (nx_over ⟨hv, by omega, by omega⟩ (by rw [pk_5]; exact hk)), h⟩)
      · exact (vnext_5_ok x0 x1 x2 x3 x4 x5 x6 x7 w hv p5 hk).mono (by rintro e w' ⟨rfl, h⟩; exact ⟨ret_nx (by have := nx_ok (o := 5) ⟨hv, by omega, by omega⟩ (by rw [pk_5]; exact hk); rw [pk_5] at this; exact this), h⟩)
    · by_cases hk : x6 = 1048576
      · exact (vnext_6_over x0 x1 x2 x3 x4 x5 x6 x7 w hv hk).mono (by rintro e w' ⟨rfl, h⟩; exact ⟨ret_nx (nx_over ⟨hv, by omega, by omega⟩ (by rw [pk_6]; exact hk)), h⟩)
      · exact (vnext_6_ok x0 x1 x2 x3 x4 x5 x6 x7 w hv p6 hk).mono (by rintro e w' ⟨rfl, h⟩; exact ⟨ret_nx (by have := nx_ok (o := 6) ⟨hv, by omega, by omega⟩ (by rw [pk_6]; exact hk); rw [pk_6] at this; exact this), h⟩)
    · by_cases hk : x7 = 1048576
      · exact (vnext_7_over x0 x1 x2 x3 x4 x5 x6 x7 w hv hk).mono (by rintro e w' ⟨rfl, h⟩; exact ⟨ret_nx (nx_over ⟨hv, by omega, by omega⟩ (by rw [pk_7]; exact hk)), h⟩)
      · exact (vnext_7_ok x0 x1 x2 x3 x4 x5 x6 x7 w hv p7 hk).mono (by rintro e w' ⟨rfl, h⟩; exact ⟨ret_nx (by have := nx_ok (o := 7) ⟨hv, by omega, by omega⟩ (by rw [pk_7]; exact hk); rw [pk_7] at this; exact this), h⟩)
  · exact (vnext_n_bad x0 x1 x2 x3 x4 x5 x6 x7 o w hv).mono (by rintro e w' ⟨rfl, h⟩; exact ⟨ret_nx (nx_bad (by omega)), h⟩)
end Go.Proofs.Ytfpaojkcmijfgaa

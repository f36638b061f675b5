/- Contracts of vec.Next and of the reference's. -/
import Derived.Test.YtfpaojkcmijfgaaVec6
import Derived.Test.YtfpaojkcmijfgaaTally
import Derived.ChangeKeysEq
import Derived.Deep.QuietTactic
import Derived.BigQuiet
import Derived.Lib.QuietBelow
import Derived.WalkSpells
namespace Go.Proofs.Ytfpaojkcmijfgaa
open Go.RowKit
attribute [local go_sem ↓] Go.wp_at_zero Go.wp_at_succ
set_option maxHeartbeats 1600000 in
theorem rvnext_n_bad (x0 x1 x2 x3 x4 x5 x6 x7 o : Int) (w : World) (hv : vchk x0 x1 x2 x3 x4 x5 x6 x7 = 2) :
    Calls Try.prog 30 #[.agg #[.int .u32 x0, .int .u32 x1, .int .u32 x2, .int .u32 x3, .int .u32 x4, .int .u32 x5, .int .u32 x6, .int .u32 x7], .int .i64 o] w fun e w' => e = .returned (.tuple #[.agg #[.int .i64 0, .int .u32 0], .int .i64 2]) ∧ Below w.heap.size w w' := by
  have C : ∀ W : World, Calls Try.prog 58 #[.agg #[.int .u32 x0, .int .u32 x1, .int .u32 x2, .int .u32 x3, .int .u32 x4, .int .u32 x5, .int .u32 x6, .int .u32 x7]] W fun e w' => e = .returned (.int .i64 2) ∧ Below W.heap.size W w' := fun W => (rvcheck x0 x1 x2 x3 x4 x5 x6 x7 W).mono (by rintro e w' ⟨rfl, h⟩; exact ⟨retI hv, h⟩)
  have D := Lib.hid C
  clear C
  clear hv
  go_enter Try.func30, Try.ntmps30
  go_wp2_with fail
  refine (D.out _).mono ?_; rintro e w1 ⟨rfl, hb⟩
  obtain ⟨hc, hf⟩ := bcell hb
  have hz : w.heap.size + 1 < w1.heap.size := by have := hb.size; simp at this; omega
  go_wp2
  exact bodyPost_ret (v := .tuple #[.agg #[.int .i64 0, .int .u32 0], .int .i64 2]) (by simp [results, Try.results30, go_sem, hc]) rfl ⟨rfl, ((Joins.below_alloc2 w _ _).trans (hb.mono (by simp; omega))).setCell (by simp) _ |>.setCell (by simp) _⟩
set_option maxHeartbeats 1600000 in
theorem rvnext_n_low (x0 x1 x2 x3 x4 x5 x6 x7 o : Int) (w : World) (hv : vchk x0 x1 x2 x3 x4 x5 x6 x7 = 0) (ho : o < 0) :
    Calls Try.prog 30 #[.agg #[.int .u32 x0, .int .u32 x1, .int .u32 x2, .int .u32 x3, .int .u32 x4, .int .u32 x5, .int .u32 x6, .int .u32 x7], .int .i64 o] w fun e w' => e = .returned (.tuple #[.agg #[.int .i64 0, .int .u32 0], .int .i64 2]) ∧ Below w.heap.size w w' := by
  have C : ∀ W : World, Calls Try.prog 58 #[.agg #[.int .u32 x0, .int .u32 x1, .int .u32 x2, .int .u32 x3, .int .u32 x4, .int .u32 x5, .int .u32 x6, .int .u32 x7]] W fun e w' => e = .returned (.int .i64 0) ∧ Below W.heap.size W w' := fun W => (rvcheck x0 x1 x2 x3 x4 x5 x6 x7 W).mono (by rintro e w' ⟨rfl, h⟩; exact ⟨retI hv, h⟩)
  have D := Lib.hid C
  clear C
  clear hv
  go_enter Try.func30, Try.ntmps30
  go_wp2_with fail
  refine (D.out _).mono ?_; rintro e w1 ⟨rfl, hb⟩
  obtain ⟨hc, hf⟩ := bcell hb
  have hz : w.heap.size + 1 < w1.heap.size := by have := hb.size; simp at this; omega
  go_wp2
  exact bodyPost_ret (v := .tuple #[.agg #[.int .i64 0, .int .u32 0], .int .i64 2]) (by simp [results, Try.results30, go_sem, hc]) rfl ⟨rfl, ((Joins.below_alloc2 w _ _).trans (hb.mono (by simp; omega))).setCell (by simp) _ |>.setCell (by simp) _⟩
set_option maxHeartbeats 1600000 in
theorem rvnext_n_high (x0 x1 x2 x3 x4 x5 x6 x7 o : Int) (w : World) (hv : vchk x0 x1 x2 x3 x4 x5 x6 x7 = 0) (ho : ¬ o < 0) (hg : 8 ≤ o) :
    Calls Try.prog 30 #[.agg #[.int .u32 x0, .int .u32 x1, .int .u32 x2, .int .u32 x3, .int .u32 x4, .int .u32 x5, .int .u32 x6, .int .u32 x7], .int .i64 o] w fun e w' => e = .returned (.tuple #[.agg #[.int .i64 0, .int .u32 0], .int .i64 2]) ∧ Below w.heap.size w w' := by
  have C : ∀ W : World, Calls Try.prog 58 #[.agg #[.int .u32 x0, .int .u32 x1, .int .u32 x2, .int .u32 x3, .int .u32 x4, .int .u32 x5, .int .u32 x6, .int .u32 x7]] W fun e w' => e = .returned (.int .i64 0) ∧ Below W.heap.size W w' := fun W => (rvcheck x0 x1 x2 x3 x4 x5 x6 x7 W).mono (by rintro e w' ⟨rfl, h⟩; exact ⟨retI hv, h⟩)
  have D := Lib.hid C
  clear C
  have hg' : 7 < o := by omega
  clear hv
  go_enter Try.func30, Try.ntmps30
  go_wp2_with fail
  refine (D.out _).mono ?_; rintro e w1 ⟨rfl, hb⟩
  obtain ⟨hc, hf⟩ := bcell hb
  have hz : w.heap.size + 1 < w1.heap.size := by have := hb.size; simp at this; omega
  go_wp2
  exact bodyPost_ret (v := .tuple #[.agg #[.int .i64 0, .int .u32 0], .int .i64 2]) (by simp [results, Try.results30, go_sem, hc]) rfl ⟨rfl, ((Joins.below_alloc2 w _ _).trans (hb.mono (by simp; omega))).setCell (by simp) _ |>.setCell (by simp) _⟩
set_option maxHeartbeats 1600000 in
theorem rvnext_0_over (x0 x1 x2 x3 x4 x5 x6 x7 : Int) (w : World) (hv : vchk x0 x1 x2 x3 x4 x5 x6 x7 = 0) (hk : x0 = 1048576) :
    Calls Try.prog 30 #[.agg #[.int .u32 x0, .int .u32 x1, .int .u32 x2, .int .u32 x3, .int .u32 x4, .int .u32 x5, .int .u32 x6, .int .u32 x7], .int .i64 0] w fun e w' => e = .returned (.tuple #[.agg #[.int .i64 0, .int .u32 0], .int .i64 12]) ∧ Below w.heap.size w w' := by
  have C : ∀ W : World, Calls Try.prog 58 #[.agg #[.int .u32 x0, .int .u32 x1, .int .u32 x2, .int .u32 x3, .int .u32 x4, .int .u32 x5, .int .u32 x6, .int .u32 x7]] W fun e w' => e = .returned (.int .i64 0) ∧ Below W.heap.size W w' := fun W => (rvcheck x0 x1 x2 x3 x4 x5 x6 x7 W).mono (by rintro e w' ⟨rfl, h⟩; exact ⟨retI hv, h⟩)
  have D := Lib.hid C
  clear C
  have hx := (vchk_inv hv)
  have hx : x0 ≤ 1048576 := by omega
  have hk1 : (x0 == 1048576) = true := by simpa using hk
  clear hk hx
  clear hv
  go_enter Try.func30, Try.ntmps30
  go_wp2_with fail
  refine (D.out _).mono ?_; rintro e w1 ⟨rfl, hb⟩
  obtain ⟨hc, hf⟩ := bcell hb
  have hz : w.heap.size + 1 < w1.heap.size := by have := hb.size; simp at this; omega
  go_wp2
  exact bodyPost_ret (v := .tuple #[.agg #[.int .i64 0, .int .u32 0], .int .i64 12]) (by simp [results, Try.results30, go_sem, hc]) rfl ⟨rfl, ((Joins.below_alloc2 w _ _).trans (hb.mono (by simp; omega))).setCell (by simp) _ |>.setCell (by simp) _⟩
set_option maxHeartbeats 1600000 in
theorem rvnext_0_ok (x0 x1 x2 x3 x4 x5 x6 x7 : Int) (w : World) (hv : vchk x0 x1 x2 x3 x4 x5 x6 x7 = 0) (pk : 0 ≤ x0) (hk : ¬ x0 = 1048576) :
    Calls Try.prog 30 #[.agg #[.int .u32 x0, .int .u32 x1, .int .u32 x2, .int .u32 x3, .int .u32 x4, .int .u32 x5, .int .u32 x6, .int .u32 x7], .int .i64 0] w fun e w' => e = .returned (.tuple #[.agg #[.int .i64 0, .int .u32 (x0 + 1)], .int .i64 0]) ∧ Below w.heap.size w w' := by
  have C : ∀ W : World, Calls Try.prog 58 #[.agg #[.int .u32 x0, .int .u32 x1, .int .u32 x2, .int .u32 x3, .int .u32 x4, .int .u32 x5, .int .u32 x6, .int .u32 x7]] W fun e w' => e = .returned (.int .i64 0) ∧ Below W.heap.size W w' := fun W => (rvcheck x0 x1 x2 x3 x4 x5 x6 x7 W).mono (by rintro e w' ⟨rfl, h⟩; exact ⟨retI hv, h⟩)
  have D := Lib.hid C
  clear C
  have hx := (vchk_inv hv)
  have hx : x0 ≤ 1048576 := by omega
  have hk1 : (x0 == 1048576) = false := by simpa using hk
  clear hk
  clear hv
  go_enter Try.func30, Try.ntmps30
  go_wp2_with fail
  refine (D.out _).mono ?_; rintro e w1 ⟨rfl, hb⟩
  obtain ⟨hc, hf⟩ := bcell hb
  have hz : w.heap.size + 1 < w1.heap.size := by have := hb.size; simp at this; omega
  go_wp2
  exact bodyPost_ret (v := .tuple #[.agg #[.int .i64 0, .int .u32 (x0 + 1)], .int .i64 0]) (by simp [results, Try.results30, go_sem, hc]) rfl ⟨rfl, ((Joins.below_alloc2 w _ _).trans (hb.mono (by simp; omega))).setCell (by simp) _ |>.setCell (by simp) _⟩
set_option maxHeartbeats 1600000 in
theorem rvnext_1_over (x0 x1 x2 x3 x4 x5 x6 x7 : Int) (w : World) (hv : vchk x0 x1 x2 x3 x4 x5 x6 x7 = 0) (hk : x1 = 1048576) :
    Calls Try.prog 30 #[.agg #[.int .u32 x0, .int .u32 x1, .int .u32 x2, .int .u32 x3, .int .u32 x4, .int .u32 x5, .int .u32 x6, .int .u32 x7], .int .i64 1] w fun e w' => e = .returned (.tuple #[.agg #[.int .i64 0, .int .u32 0], .int .i64 12]) ∧ Below w.heap.size w w' := by
  have C : ∀ W : World, Calls Try.prog 58 #[.agg #[.int .u32 x0, .int .u32 x1, .int .u32 x2, .int .u32 x3, .int .u32 x4, .int .u32 x5, .int .u32 x6, .int .u32 x7]] W fun e w' => e = .returned (.int .i64 0) ∧ Below W.heap.size W w' := fun W => (rvcheck x0 x1 x2 x3 x4 x5 x6 x7 W).mono (by rintro e w' ⟨rfl, h⟩; exact ⟨retI hv, h⟩)
  have D := Lib.hid C
  clear C
  have hx := (vchk_inv hv)
  have hx : x1 ≤ 1048576 := by omega
  have hk1 : (x1 == 1048576) = true := by simpa using hk
  clear hk hx
  clear hv
  go_enter Try.func30, Try.ntmps30
  go_wp2_with fail
  refine (D.out _).mono ?_; rintro e w1 ⟨rfl, hb⟩
  obtain ⟨hc, hf⟩ := bcell hb
  have hz : w.heap.size + 1 < w1.heap.size := by have := hb.size; simp at this; omega
  go_wp2
  exact bodyPost_ret (v := .tuple #[.agg #[.int .i64 0, .int .u32 0], .int .i64 12]) (by simp [results, Try.results30, go_sem, hc]) rfl ⟨rfl, ((Joins.below_alloc2 w _ _).trans (hb.mono (by simp; omega))).setCell (by simp) _ |>.setCell (by simp) _⟩
set_option maxHeartbeats 1600000 in
theorem rvnext_1_ok (x0 x1 x2 x3 x4 x5 x6 x7 : Int) (w : World) (hv : vchk x0 x1 x2 x3 x4 x5 x6 x7 = 0) (pk : 0 ≤ x1) (hk : ¬ x1 = 1048576) :
    Calls Try.prog 30 #[.agg #[.int .u32 x0, .int .u32 x1, .int .u32 x2, .int .u32 x3, .int .u32 x4, .int .u32 x5, .int .u32 x6, .int .u32 x7], .int .i64 1] w fun e w' => e = .returned (.tuple #[.agg #[.int .i64 1, .int .u32 (x1 + 1)], .int .i64 0]) ∧ Below w.heap.size w w' := by
  have C : ∀ W : World, Calls Try.prog 58 #[.agg #[.int .u32 x0, .int .u32 x1, .int .u32 x2, .int .u32 x3, .int .u32 x4, .int .u32 x5, .int .u32 x6, .int .u32 x7]] W fun e w' => e = .returned (.int .i64 0) ∧ Below W.heap.size W w' := fun W => (rvcheck x0 x1 x2 x3 x4 x5 x6 x7 W).mono (by rintro e w' ⟨rfl, h⟩; exact ⟨retI hv, h⟩)
  have D := Lib.hid C
  clear C
  have hx := (vchk_inv hv)
  have hx : x1 ≤ 1048576 := by omega
  have hk1 : (x1 == 1048576) = false := by simpa using hk
  clear hk
  clear hv
  go_enter Try.func30, Try.ntmps30
  go_wp2_with fail
  refine (D.out _).mono ?_; rintro e w1 ⟨rfl, hb⟩
  obtain ⟨hc, hf⟩ := bcell hb
  have hz : w.heap.size + 1 < w1.heap.size := by have := hb.size; simp at this; omega
  go_wp2
  exact bodyPost_ret (v := .tuple #[.agg #[.int .i64 1, .int .u32 (x1 + 1)], .int .i64 0]) (by simp [results, Try.results30, go_sem, hc]) rfl ⟨rfl, ((Joins.below_alloc2 w _ _).trans (hb.mono (by simp; omega))).setCell (by simp) _ |>.setCell (by simp) _⟩
set_option maxHeartbeats 1600000 in
theorem rvnext_2_over (x0 x1 x2 x3 x4 x5 x6 x7 : Int) (w : World) (hv : vchk x0 x1 x2 x3 x4 x5 x6 x7 = 0) (hk : x2 = 1048576) :
    Calls Try.prog 30 #[.agg #[.int .u32 x0, .int .u32 x1, .int .u32 x2, .int .u32 x3, .int .u32 x4, .int .u32 x5, .int .u32 x6, .int .u32 x7], .int .i64 2] w fun e w' => e = .returned (.tuple #[.agg #[.int .i64 0, .int .u32 0], .int .i64 12]) ∧ Below w.heap.size w w' := by
  have C : ∀ W : World, Calls Try.prog 58 #[.agg #[.int .u32 x0, .int .u32 x1, .int .u32 x2, .int .u32 x3, .int .u32 x4, .int .u32 x5, .int .u32 x6, .int .u32 x7]] W fun e w' => e = .returned (.int .i64 0) ∧ Below W.heap.size W w' := fun W => (rvcheck x0 x1 x2 x3 x4 x5 x6 x7 W).mono (by rintro e w' ⟨rfl, h⟩; exact ⟨retI hv, h⟩)
  have D := Lib.hid C
  clear C
  have hx := (vchk_inv hv)
  have hx : x2 ≤ 1048576 := by omega
  have hk1 : (x2 == 1048576) = true := by simpa using hk
  clear hk hx
  clear hv
  go_enter Try.func30, Try.ntmps30
  go_wp2_with fail
  refine (D.out _).mono ?_; rintro e w1 ⟨rfl, hb⟩
  obtain ⟨hc, hf⟩ := bcell hb
  have hz : w.heap.size + 1 < w1.heap.size := by have := hb.size; simp at this; omega
  go_wp2
  exact bodyPost_ret (v := .tuple #[.agg #[.int .i64 0, .int .u32 0], .int .i64 12]) (by simp [results, Try.results30, go_sem, hc]) rfl ⟨rfl, ((Joins.below_alloc2 w _ _).trans (hb.mono (by simp; omega))).setCell (by simp) _ |>.setCell (by simp) _⟩
set_option maxHeartbeats 1600000 in
theorem rvnext_2_ok (x0 x1 x2 x3 x4 x5 x6 x7 : Int) (w : World) (hv : vchk x0 x1 x2 x3 x4 x5 x6 x7 = 0) (pk : 0 ≤ x2) (hk : ¬ x2 = 1048576) :
    Calls Try.prog 30 #[.agg #[.int .u32 x0, .int .u32 x1, .int .u32 x2, .int .u32 x3, .int .u32 x4, .int .u32 x5, .int .u32 x6, .int .u32 x7], .int .i64 2] w fun e w' => e = .returned (.tuple #[.agg #[.int .i64 2, .int .u32 (x2 + 1)], .int .i64 0]) ∧ Below w.heap.size w w' := by
  have C : ∀ W : World, Calls Try.prog 58 #[.agg #[.int .u32 x0, .int .u32 x1, .int .u32 x2, .int .u32 x3, .int .u32 x4, .int .u32 x5, .int .u32 x6, .int .u32 x7]] W fun e w' => e = .returned (.int .i64 0) ∧ Below W.heap.size W w' := fun W => (rvcheck x0 x1 x2 x3 x4 x5 x6 x7 W).mono (by rintro e w' ⟨rfl, h⟩; exact ⟨retI hv, h⟩)
  have D := Lib.hid C
  clear C
  have hx := (vchk_inv hv)
  have hx : x2 ≤ 1048576 := by omega
  have hk1 : (x2 == 1048576) = false := by simpa using hk
  clear hk
  clear hv
  go_enter Try.func30, Try.ntmps30
  go_wp2_with fail
  refine (D.out _).mono ?_; rintro e w1 ⟨rfl, hb⟩
  obtain ⟨hc, hf⟩ := bcell hb
  have hz : w.heap.size + 1 < w1.heap.size := by have := hb.size; simp at this; omega
  go_wp2
  exact bodyPost_ret (v := .tuple #[.agg #[.int .i64 2, .int .u32 (x2 + 1)], .int .i64 0]) (by simp [results, Try.results30, go_sem, hc]) rfl ⟨rfl, ((Joins.below_alloc2 w _ _).trans (hb.mono (by simp; omega))).setCell (by simp) _ |>.setCell (by simp) _⟩
set_option maxHeartbeats 1600000 in
theorem rvnext_3_over (x0 x1 x2 x3 x4 x5 x6 x7 : Int) (w : World) (hv : vchk x0 x1 x2 x3 x4 x5 x6 x7 = 0) (hk : x3 = 1048576) :
    Calls Try.prog 30 #[.agg #[.int .u32 x0, .int .u32 x1, .int .u32 x2, .int .u32 x3, .int .u32 x4, .int .u32 x5, .int .u32 x6, .int .u32 x7], .int .i64 3] w fun e w' => e = .returned (.tuple #[.agg #[.int .i64 0, .int .u32 0], .int .i64 12]) ∧ Below w.heap.size w w' := by
  have C : ∀ W : World, Calls Try.prog 58 #[.agg #[.int .u32 x0, .int .u32 x1, .int .u32 x2, .int .u32 x3, .int .u32 x4, .int .u32 x5, .int .u32 x6, .int .u32 x7]] W fun e w' => e = .returned (.int .i64 0) ∧ Below W.heap.size W w' := fun W => (rvcheck x0 x1 x2 x3 x4 x5 x6 x7 W).mono (by rintro e w' ⟨rfl, h⟩; exact ⟨retI hv, h⟩)
  have D := Lib.hid C
  clear C
  have hx := (vchk_inv hv)
  have hx : x3 ≤ 1048576 := by omega
  have hk1 : (x3 == 1048576) = true := by simpa using hk
  clear hk hx
  clear hv
  go_enter Try.func30, Try.ntmps30
  go_wp2_with fail
  refine (D.out _).mono ?_; rintro e w1 ⟨rfl, hb⟩
  obtain ⟨hc, hf⟩ := bcell hb
  have hz : w.heap.size + 1 < w1.heap.size := by have := hb.size; simp at this; omega
  go_wp2
  exact bodyPost_ret (v := .tuple #[.agg #[.int .i64 0, .int .u32 0], .int .i64 12]) (by simp [results, Try.results30, go_sem, hc]) rfl ⟨rfl, ((Joins.below_alloc2 w _ _).trans (hb.mono (by simp; omega))).setCell (by simp) _ |>.setCell (by simp) _⟩
set_option maxHeartbeats 1600000 in
theorem rvnext_3_ok (x0 x1 x2 x3 x4 x5 x6 x7 : Int) (w : World) (hv : vchk x0 x1 x2 x3 x4 x5 x6 x7 = 0) (pk : 0 ≤ x3) (hk : ¬ x3 = 1048576) :
    Calls Try.prog 30 #[.agg #[.int .u32 x0, .int .u32 x1, .int .u32 x2, .int .u32 x3, .int .u32 x4, .int .u32 x5, .int .u32 x6, .int .u32 x7], .int .i64 3] w fun e w' => e = .returned (.tuple #[.agg #[.int .i64 3, .int .u32 (x3 + 1)], .int .i64 0]) ∧ Below w.heap.size w w' := by
  have C : ∀ W : World, Calls Try.prog 58 #[.agg #[.int .u32 x0, .int .u32 x1, .int .u32 x2, .int .u32 x3, .int .u32 x4, .int .u32 x5, .int .u32 x6, .int .u32 x7]] W fun e w' => e = .returned (.int .i64 0) ∧ Below W.heap.size W w' := fun W => (rvcheck x0 x1 x2 x3 x4 x5 x6 x7 W).mono (by rintro e w' ⟨rfl, h⟩; exact ⟨retI hv, h⟩)
  have D := Lib.hid C
  clear C
  have hx := (vchk_inv hv)
  have hx : x3 ≤ 1048576 := by omega
  have hk1 : (x3 == 1048576) = false := by simpa using hk
  clear hk
  clear hv
  go_enter Try.func30, Try.ntmps30
  go_wp2_with fail
  refine (D.out _).mono ?_; rintro e w1 ⟨rfl, hb⟩
  obtain ⟨hc, hf⟩ := bcell hb
  have hz : w.heap.size + 1 < w1.heap.size := by have := hb.size; simp at this; omega
  go_wp2
  exact bodyPost_ret (v := .tuple #[.agg #[.int .i64 3, .int .u32 (x3 + 1)], .int .i64 0]) (by simp [results, Try.results30, go_sem, hc]) rfl ⟨rfl, ((Joins.below_alloc2 w _ _).trans (hb.mono (by simp; omega))).setCell (by simp) _ |>.setCell (by simp) _⟩
set_option maxHeartbeats 1600000 in
theorem rvnext_4_over (x0 x1 x2 x3 x4 x5 x6 x7 : Int) (w : World) (hv : vchk x0 x1 x2 x3 x4 x5 x6 x7 = 0) (hk : x4 = 1048576) :
    Calls Try.prog 30 #[.agg #[.int .u32 x0, .int .u32 x1, .int .u32 x2, .int .u32 x3, .int .u32 x4, .int .u32 x5, .int .u32 x6, .int .u32 x7], .int .i64 4] w fun e w' => e = .returned (.tuple #[.agg #[.int .i64 0, .int .u32 0], .int .i64 12]) ∧ Below w.heap.size w w' := by
  have C : ∀ W : World, Calls Try.prog 58 #[.agg #[.int .u32 x0, .int .u32 x1, .int .u32 x2, .int .u32 x3, .int .u32 x4, .int .u32 x5, .int .u32 x6, .int .u32 x7]] W fun e w' => e = .returned (.int .i64 0) ∧ Below W.heap.size W w' := fun W => (rvcheck x0 x1 x2 x3 x4 x5 x6 x7 W).mono (by rintro e w' ⟨rfl, h⟩; exact ⟨retI hv, h⟩)
  have D := Lib.hid C
  clear C
  have hx := (vchk_inv hv)
  have hx : x4 ≤ 1048576 := by omega
  have hk1 : (x4 == 1048576) = true := by simpa using hk
  clear hk hx
  clear hv
  go_enter Try.func30, Try.ntmps30
  go_wp2_with fail
  refine (D.out _).mono ?_; rintro e w1 ⟨rfl, hb⟩
  obtain ⟨hc, hf⟩ := bcell hb
  have hz : w.heap.size + 1 < w1.heap.size := by have := hb.size; simp at this; omega
  go_wp2
  exact bodyPost_ret (v := .tuple #[.agg #[.int .i64 0, .int .u32 0], .int .i64 12]) (by simp [results, Try.results30, go_sem, hc]) rfl ⟨rfl, ((Joins.below_alloc2 w _ _).trans (hb.mono (by simp; omega))).setCell (by simp) _ |>.setCell (by simp) _⟩
set_option maxHeartbeats 1600000 in
theorem rvnext_4_ok (x0 x1 x2 x3 x4 x5 x6 x7 : Int) (w : World) (hv : vchk x0 x1 x2 x3 x4 x5 x6 x7 = 0) (pk : 0 ≤ x4) (hk : ¬ x4 = 1048576) :
    Calls Try.prog 30 #[.agg #[.int .u32 x0, .int .u32 x1, .int .u32 x2, .int .u32 x3, .int .u32 x4, .int .u32 x5, .int .u32 x6, .int .u32 x7], .int .i64 4] w fun e w' => e = .returned (.tuple #[.agg #[.int .i64 4, .int .u32 (x4 + 1)], .int .i64 0]) ∧ Below w.heap.size w w' := by
  have C : ∀ W : World, Calls Try.prog 58 #[.agg #[.int .u32 x0, .int .u32 x1, .int .u32 x2, .int .u32 x3, .int .u32 x4, .int .u32 x5, .int .u32 x6, .int .u32 x7]] W fun e w' => e = .returned (.int .i64 0) ∧ Below W.heap.size W w' := fun W => (rvcheck x0 x1 x2 x3 x4 x5 x6 x7 W).mono (by rintro e w' ⟨rfl, h⟩; exact ⟨retI hv, h⟩)
  have D := Lib.hid C
  clear C
  have hx := (vchk_inv hv)
  have hx : x4 ≤ 1048576 := by omega
  have hk1 : (x4 == 1048576) = false := by simpa using hk
  clear hk
  clear hv
  go_enter Try.func30, Try.ntmps30
  go_wp2_with fail
  refine (D.out _).mono ?_; rintro e w1 ⟨rfl, hb⟩
  obtain ⟨hc, hf⟩ := bcell hb
  have hz : w.heap.size + 1 < w1.heap.size := by have := hb.size; simp at this; omega
  go_wp2
  exact bodyPost_ret (v := .tuple #[.agg #[.int .i64 4, .int .u32 (x4 + 1)], .int .i64 0]) (by simp [results, Try.results30, go_sem, hc]) rfl ⟨rfl, ((Joins.below_alloc2 w _ _).trans (hb.mono (by simp; omega))).setCell (by simp) _ |>.setCell (by simp) _⟩
set_option maxHeartbeats 1600000 in
theorem rvnext_5_over (x0 x1 x2 x3 x4 x5 x6 x7 : Int) (w : World) (hv : vchk x0 x1 x2 x3 x4 x5 x6 x7 = 0) (hk : x5 = 1048576) :
    Calls Try.prog 30 #[.agg #[.int .u32 x0, .int .u32 x1, .int .u32 x2, .int .u32 x3, .int .u32 x4, .int .u32 x5, .int .u32 x6, .int .u32 x7], .int .i64 5] w fun e w' => e = .returned (.tuple #[.agg #[.int .i64 0, .int .u32 0], .int .i64 12]) ∧ Below w.heap.size w w' := by
  have C : ∀ W : World, Calls Try.prog 58 #[.agg #[.int .u32 x0, .int .u32 x1, .int .u32 x2, .int .u32 x3, .int .u32 x4, .int .u32 x5, .int .u32 x6, .int .u32 x7]] W fun e w' => e = .returned (.int .i64 0) ∧ Below W.heap.size W w' := fun W => (rvcheck x0 x1 x2 x3 x4 x5 x6 x7 W).mono (by rintro e w' ⟨rfl, h⟩; exact ⟨retI hv, h⟩)
  have D := Lib.hid C
  clear C
  have hx := (vchk_inv hv)
  have hx : x5 ≤ 1048576 := by omega
  have hk1 : (x5 == 1048576) = true := by simpa using hk
  clear hk hx
  clear hv
  go_enter Try.func30, Try.ntmps30
  go_wp2_with fail
  refine (D.out _).mono ?_; rintro e w1 ⟨rfl, hb⟩
  obtain ⟨hc, hf⟩ := bcell hb
  have hz : w.heap.size + 1 < w1.heap.size := by have := hb.size; simp at this; omega
  go_wp2
  exact bodyPost_ret (v := .tuple #[.agg #[.int .i64 0, .int .u32 0], .int .i64 12]) (by simp [results, Try.results30, go_sem, hc]) rfl ⟨rfl, ((Joins.below_alloc2 w _ _).trans (hb.mono (by simp; omega))).setCell (by simp) _ |>.setCell (by simp) _⟩
set_option maxHeartbeats 1600000 in
theorem rvnext_5_ok (x0 x1 x2 x3 x4 x5 x6 x7 : Int) (w : World) (hv : vchk x0 x1 x2 x3 x4 x5 x6 x7 = 0) (pk : 0 ≤ x5) (hk : ¬ x5 = 1048576) :
    Calls Try.prog 30 #[.agg #[.int .u32 x0, .int .u32 x1, .int .u32 x2, .int .u32 x3, .int .u32 x4, .int .u32 x5, .int .u32 x6, .int .u32 x7], .int .i64 5] w fun e w' => e = .returned (.tuple #[.agg #[.int .i64 5, .int .u32 (x5 + 1)], .int .i64 0]) ∧ Below w.heap.size w w' := by
  have C : ∀ W : World, Calls Try.prog 58 #[.agg #[.int .u32 x0, .int .u32 x1, .int .u32 x2, .int .u32 x3, .int .u32 x4, .int .u32 x5, .int .u32 x6, .int .u32 x7]] W fun e w' => e = .returned (.int .i64 0) ∧ Below W.heap.size W w' := fun W => (rvcheck x0 x1 x2 x3 x4 x5 x6 x7 W).mono (by rintro e w' ⟨rfl, h⟩; exact ⟨retI hv, h⟩)
  have D := Lib.hid C
  clear C
  have hx := (vchk_inv hv)
  have hx : x5 ≤ 1048576 := by omega
  have hk1 : (x5 == 1048576) = false := by simpa using hk
  clear hk
  clear hv
  go_enter Try.func30, Try.ntmps30
  go_wp2_with fail
  refine (D.out _).mono ?_; rintro e w1 ⟨rfl, hb⟩
  obtain ⟨hc, hf⟩ := bcell hb
  have hz : w.heap.size + 1 < w1.heap.size := by have := hb.size; simp at this; omega
  go_wp2
  exact bodyPost_ret (v := .tuple #[.agg #[.int .i64 5, .int .u32 (x5 + 1)], .int .i64 0]) (by simp [results, Try.results30, go_sem, hc]) rfl ⟨rfl, ((Joins.below_alloc2 w _ _).trans (hb.mono (by simp; omega))).setCell (by simp) _ |>.setCell (by simp) _⟩
set_option maxHeartbeats 1600000 in
theorem rvnext_6_over (x0 x1 x2 x3 x4 x5 x6 x7 : Int) (w : World) (hv : vchk x0 x1 x2 x3 x4 x5 x6 x7 = 0) (hk : x6 = 1048576) :
    Calls Try.prog 30 #[.agg #[.int .u32 x0, .int .u32 x1, .int .u32 x2, .int .u32 x3, .int .u32 x4, .int .u32 x5, .int .u32 x6, .int .u32 x7], .int .i64 6] w fun e w' => e = .returned (.tuple #[.agg #[.int .i64 0, .int .u32 0], .int .i64 12]) ∧ Below w.heap.size w w' := by
  have C : ∀ W : World, Calls Try.prog 58 #[.agg #[.int .u32 x0, .int .u32 x1, .int .u32 x2, .int .u32 x3, .int .u32 x4, .int .u32 x5, .int .u32 x6, .int .u32 x7]] W fun e w' => e = .returned (.int .i64 0) ∧ Below W.heap.size W w' := fun W => (rvcheck x0 x1 x2 x3 x4 x5 x6 x7 W).mono (by rintro e w' ⟨rfl, h⟩; exact ⟨retI hv, h⟩)
  have D := Lib.hid C
  clear C
  have hx := (vchk_inv hv)
  have hx : x6 ≤ 1048576 := by omega
  have hk1 : (x6 == 1048576) = true := by simpa using hk
  clear hk hx
  clear hv
  go_enter Try.func30, Try.ntmps30
  go_wp2_with fail
  refine (D.out _).mono ?_; rintro e w1 ⟨rfl, hb⟩
  obtain ⟨hc, hf⟩ := bcell hb
  have hz : w.heap.size + 1 < w1.heap.size := by have := hb.size; simp at this; omega
  go_wp2
  exact bodyPost_ret (v := .tuple #[.agg #[.int .i64 0, .int .u32 0], .int .i64 12]) (by simp [results, Try.results30, go_sem, hc]) rfl ⟨rfl, ((Joins.below_alloc2 w _ _).trans (hb.mono (by simp; omega))).setCell (by simp) _ |>.setCell (by simp) _⟩
set_option maxHeartbeats 1600000 in
theorem rvnext_6_ok (x0 x1 x2 x3 x4 x5 x6 x7 : Int) (w : World) (hv : vchk x0 x1 x2 x3 x4 x5 x6 x7 = 0) (pk : 0 ≤ x6) (hk : ¬ x6 = 1048576) :
    Calls Try.prog 30 #[.agg #[.int .u32 x0, .int .u32 x1, .int .u32 x2, .int .u32 x3, .int .u32 x4, .int .u32 x5, .int .u32 x6, .int .u32 x7], .int .i64 6] w fun e w' => e = .returned (.tuple #[.agg #[.int .i64 6, .int .u32 (x6 + 1)], .int .i64 0]) ∧ Below w.heap.size w w' := by
  have C : ∀ W : World, Calls Try.prog 58 #[.agg #[.int .u32 x0, .int .u32 x1, .int .u32 x2, .int .u32 x3, .int .u32 x4, .int .u32 x5, .int .u32 x6, .int .u32 x7]] W fun e w' => e = .returned (.int .i64 0) ∧ Below W.heap.size W w' := fun W => (rvcheck x0 x1 x2 x3 x4 x5 x6 x7 W).mono (by rintro e w' ⟨rfl, h⟩; exact ⟨retI hv, h⟩)
  have D := Lib.hid C
  clear C
  have hx := (vchk_inv hv)
  have hx : x6 ≤ 1048576 := by omega
  have hk1 : (x6 == 1048576) = false := by simpa using hk
  clear hk
  clear hv
  go_enter Try.func30, Try.ntmps30
  go_wp2_with fail
  refine (D.out _).mono ?_; rintro e w1 ⟨rfl, hb⟩
  obtain ⟨hc, hf⟩ := bcell hb
  have hz : w.heap.size + 1 < w1.heap.size := by have := hb.size; simp at this; omega
  go_wp2
  exact bodyPost_ret (v := .tuple #[.agg #[.int .i64 6, .int .u32 (x6 + 1)], .int .i64 0]) (by simp [results, Try.results30, go_sem, hc]) rfl ⟨rfl, ((Joins.below_alloc2 w _ _).trans (hb.mono (by simp; omega))).setCell (by simp) _ |>.setCell (by simp) _⟩
set_option maxHeartbeats 1600000 in
theorem rvnext_7_over (x0 x1 x2 x3 x4 x5 x6 x7 : Int) (w : World) (hv : vchk x0 x1 x2 x3 x4 x5 x6 x7 = 0) (hk : x7 = 1048576) :
    Calls Try.prog 30 #[.agg #[.int .u32 x0, .int .u32 x1, .int .u32 x2, .int .u32 x3, .int .u32 x4, .int .u32 x5, .int .u32 x6, .int .u32 x7], .int .i64 7] w fun e w' => e = .returned (.tuple #[.agg #[.int .i64 0, .int .u32 0], .int .i64 12]) ∧ Below w.heap.size w w' := by
  have C : ∀ W : World, Calls Try.prog 58 #[.agg #[.int .u32 x0, .int .u32 x1, .int .u32 x2, .int .u32 x3, .int .u32 x4, .int .u32 x5, .int .u32 x6, .int .u32 x7]] W fun e w' => e = .returned (.int .i64 0) ∧ Below W.heap.size W w' := fun W => (rvcheck x0 x1 x2 x3 x4 x5 x6 x7 W).mono (by rintro e w' ⟨rfl, h⟩; exact ⟨retI hv, h⟩)
  have D := Lib.hid C
  clear C
  have hx := (vchk_inv hv)
  have hx : x7 ≤ 1048576 := by omega
  have hk1 : (x7 == 1048576) = true := by simpa using hk
  clear hk hx
  clear hv
  go_enter Try.func30, Try.ntmps30
  go_wp2_with fail
  refine (D.out _).mono ?_; rintro e w1 ⟨rfl, hb⟩
  obtain ⟨hc, hf⟩ := bcell hb
  have hz : w.heap.size + 1 < w1.heap.size := by have := hb.size; simp at this; omega
  go_wp2
  exact bodyPost_ret (v := .tuple #[.agg #[.int .i64 0, .int .u32 0], .int .i64 12]) (by simp [results, Try.results30, go_sem, hc]) rfl ⟨rfl, ((Joins.below_alloc2 w _ _).trans (hb.mono (by simp; omega))).setCell (by simp) _ |>.setCell (by simp) _⟩
set_option maxHeartbeats 1600000 in
theorem rvnext_7_ok (x0 x1 x2 x3 x4 x5 x6 x7 : Int) (w : World) (hv : vchk x0 x1 x2 x3 x4 x5 x6 x7 = 0) (pk : 0 ≤ x7) (hk : ¬ x7 = 1048576) :
    Calls Try.prog 30 #[.agg #[.int .u32 x0, .int .u32 x1, .int .u32 x2, .int .u32 x3, .int .u32 x4, .int .u32 x5, .int .u32 x6, .int .u32 x7], .int .i64 7] w fun e w' => e = .returned (.tuple #[.agg #[.int .i64 7, .int .u32 (x7 + 1)], .int .i64 0]) ∧ Below w.heap.size w w' := by
  have C : ∀ W : World, Calls Try.prog 58 #[.agg #[.int .u32 x0, .int .u32 x1, .int .u32 x2, .int .u32 x3, .int .u32 x4, .int .u32 x5, .int .u32 x6, .int .u32 x7]] W fun e w' => e = .returned (.int .i64 0) ∧ Below W.heap.size W w' := fun W => (rvcheck x0 x1 x2 x3 x4 x5 x6 x7 W).mono (by rintro e w' ⟨rfl, h⟩; exact ⟨retI hv, h⟩)
  have D := Lib.hid C
  clear C
  have hx := (vchk_inv hv)
  have hx : x7 ≤ 1048576 := by omega
  have hk1 : (x7 == 1048576) = false := by simpa using hk
  clear hk
  clear hv
  go_enter Try.func30, Try.ntmps30
  go_wp2_with fail
  refine (D.out _).mono ?_; rintro e w1 ⟨rfl, hb⟩
  obtain ⟨hc, hf⟩ := bcell hb
  have hz : w.heap.size + 1 < w1.heap.size := by have := hb.size; simp at this; omega
  go_wp2
  exact bodyPost_ret (v := .tuple #[.agg #[.int .i64 7, .int .u32 (x7 + 1)], .int .i64 0]) (by simp [results, Try.results30, go_sem, hc]) rfl ⟨rfl, ((Joins.below_alloc2 w _ _).trans (hb.mono (by simp; omega))).setCell (by simp) _ |>.setCell (by simp) _⟩
theorem rvnext (x0 x1 x2 x3 x4 x5 x6 x7 o : Int) (w : World) (p0 : 0 ≤ x0) (p1 : 0 ≤ x1) (p2 : 0 ≤ x2) (p3 : 0 ≤ x3) (p4 : 0 ≤ x4) (p5 : 0 ≤ x5) (p6 : 0 ≤ x6) (p7 : 0 ≤ x7) :
    Calls Try.prog 30 #[.agg #[.int .u32 x0, .int .u32 x1, .int .u32 x2, .int .u32 x3, .int .u32 x4, .int .u32 x5, .int .u32 x6, .int .u32 x7], .int .i64 o] w fun e w' => e = .returned (.tuple #[.agg #[.int .i64 (nxO x0 x1 x2 x3 x4 x5 x6 x7 o), .int .u32 (nxS x0 x1 x2 x3 x4 x5 x6 x7 o)], .int .i64 (nxE x0 x1 x2 x3 x4 x5 x6 x7 o)]) ∧ Below w.heap.size w w' := by
  rcases vchk_01 x0 x1 x2 x3 x4 x5 x6 x7 with hv | hv
  · by_cases h0 : o < 0
    · exact (rvnext_n_low x0 x1 x2 x3 x4 x5 x6 x7 o w hv h0).mono (by rintro e w' ⟨rfl, h⟩; exact ⟨ret_nx (nx_bad (by omega)), h⟩)
    by_cases h8 : 8 ≤ o
    · exact (rvnext_n_high x0 x1 x2 x3 x4 x5 x6 x7 o w hv h0 h8).mono (by rintro e w' ⟨rfl, h⟩; exact ⟨ret_nx (nx_bad (by omega)), h⟩)
    obtain rfl | rfl | rfl | rfl | rfl | rfl | rfl | rfl := o_cases (o := o) (by omega) (by omega)
    · by_cases hk : x0 = 1048576
      · exact (rvnext_0_over x0 x1 x2 x3 x4 x5 x6 x7 w hv hk).mono (by rintro e w' ⟨rfl, h⟩; exact ⟨ret_nx (nx_over ⟨hv, by omega, by omega⟩ (by rw [pk_0]; exact hk)), h⟩)
      · exact (rvnext_0_ok x0 x1 x2 x3 x4 x5 x6 x7 w hv p0 hk).mono (by rintro e w' ⟨rfl, h⟩; exact ⟨ret_nx (by have := nx_ok (o := 0) ⟨hv, by omega, by omega⟩ (by rw [pk_0]; exact hk); rw [pk_0] at this; exact this), h⟩)
    · by_cases hk : x1 = 1048576
      · exact (rvnext_1_over x0 x1 x2 x3 x4 x5 x6 x7 w hv hk).mono (by rintro e w' ⟨rfl, h⟩; exact ⟨ret_nx (nx_over ⟨hv, by omega, by omega⟩ (by rw [pk_1]; exact hk)), h⟩)
      · exact (rvnext_1_ok x0 x1 x2 x3 x4 x5 x6 x7 w hv p1 hk).mono (by rintro e w' ⟨rfl, h⟩; exact ⟨ret_nx (by have := nx_ok (o := 1) ⟨hv, by omega, by omega⟩ (by rw [pk_1]; exact hk); rw [pk_1] at this; exact this), h⟩)
    · by_cases hk : x2 = 1048576
      · exact (rvnext_2_over x0 x1 x2 x3 x4 x5 x6 x7 w hv hk).mono (by rintro e w' ⟨rfl, h⟩; exact ⟨ret_nx (nx_over ⟨hv, by omega, by omega⟩ (by rw [pk_2]; exact hk)), h⟩)
      · exact (rvnext_2_ok x0 x1 x2 x3 x4 x5 x6 x7 w hv p2 hk).mono (by rintro e w' ⟨rfl, h⟩; exact ⟨ret_nx (by have := nx_ok (o := 2) ⟨hv, by omega, by omega⟩ (by rw [pk_2]; exact hk); rw [pk_2] at this; exact this), h⟩)
    · by_cases hk : x3 = 1048576
      · exact (rvnext_3_over x0 x1 x2 x3 x4 x5 x6 x7 w hv hk).mono (by rintro e w' ⟨rfl, h⟩; exact ⟨ret_nx (nx_over ⟨hv, by omega, by omega⟩ (by rw [pk_3]; exact hk)), h⟩)
      · exact (rvnext_3_ok x0 x1 x2 x3 x4 x5 x6 x7 w hv p3 hk).mono (by rintro e w' ⟨rfl, h⟩; exact ⟨ret_nx (by have := nx_ok (o := 3) ⟨hv, by omega, by omega⟩ (by rw [pk_3]; exact hk); rw [pk_3] at this; exact this), h⟩)
    · by_cases hk : x4 = 1048576
      · exact (rvnext_4_over x0 x1 x2 x3 x4 x5 x6 x7 w hv hk).mono (by rintro e w' ⟨rfl, h⟩; exact ⟨ret_nx (nx_over ⟨hv, by omega, by omega⟩ (by rw [pk_4]; exact hk)), h⟩)
      · exact (rvnext_4_ok x0 x1 x2 x3 x4 x5 x6 x7 w hv p4 hk).mono (by rintro e w' ⟨rfl, h⟩; exact ⟨ret_nx (by have := nx_ok (o := 4) ⟨hv, by omega, by omega⟩ (by rw [pk_4]; exact hk); rw [pk_4] at this; exact this), h⟩)
    · by_cases hk : x5 = 1048576
      · exact (rvnext_5_over x0 x1 x2 x3 x4 x5 x6 x7 w hv hk).mono (by rintro e w' ⟨rfl, h⟩; exact ⟨ret_nx (nx_over ⟨hv, by omega, by omega⟩ (by rw [pk_5]; exact hk)), h⟩)
      · exact (rvnext_5_ok x0 x1 x2 x3 x4 x5 x6 x7 w hv p5 hk).mono (by rintro e w' ⟨rfl, h⟩; exact ⟨ret_nx (by have := nx_ok (o := 5) ⟨hv, by omega, by omega⟩ (by rw [pk_5]; exact hk); rw [pk_5] at this; exact this), h⟩)
    · by_cases hk : x6 = 1048576
      · exact (rvnext_6_over x0 x1 x2 x3 x4 x5 x6 x7 w hv hk).mono (by rintro e w' ⟨rfl, h⟩; exact ⟨ret_nx (nx_over ⟨hv, by omega, by omega⟩ (by rw [pk_6]; exact hk)), h⟩)
      · exact (rvnext_6_ok x0 x1 x2 x3 x4 x5 x6 x7 w hv p6 hk).mono (by rintro e w' ⟨rfl, h⟩; exact ⟨ret_nx (by have := nx_ok (o := 6) ⟨hv, by omega, by omega⟩ (by rw [pk_6]; exact hk); rw [pk_6] at this; exact this), h⟩)
    · by_cases hk : x7 = 1048576
      · exact (rvnext_7_over x0 x1 x2 x3 x4 x5 x6 x7 w hv hk).mono (by rintro e w' ⟨rfl, h⟩; exact ⟨ret_nx (nx_over ⟨hv, by omega, by omega⟩ (by rw [pk_7]; exact hk)), h⟩)
      · exact (rvnext_7_ok x0 x1 x2 x3 x4 x5 x6 x7 w hv p7 hk).mono (by rintro e w' ⟨rfl, h⟩; exact ⟨ret_nx (by have := nx_ok (o := 7) ⟨hv, by omega, by omega⟩ (by rw [pk_7]; exact hk); rw [pk_7] at this; exact this), h⟩)
  · exact (rvnext_n_bad x0 x1 x2 x3 x4 x5 x6 x7 o w hv).mono (by rintro e w' ⟨rfl, h⟩; exact ⟨ret_nx (nx_bad (by omega)), h⟩)
end Go.Proofs.Ytfpaojkcmijfgaa

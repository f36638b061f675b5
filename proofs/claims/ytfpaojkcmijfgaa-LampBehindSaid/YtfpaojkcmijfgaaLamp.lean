/- Contracts of package lamp's Check, Compare and of its clock. -/
import Derived.Test.YtfpaojkcmijfgaaCmp
import Derived.Deep.RegionHeld3
import Derived.Deep.DrawnRows
import Derived.WalkSpells
import Derived.Lib.SmallJoins
import Derived.Laws.Cover1
namespace Go.Proofs.Ytfpaojkcmijfgaa
open Go.RowKit
attribute [local go_sem ↓] Go.wp_at_zero Go.wp_at_succ
def stV (t o : Int) : Int := if t ≤ 1048576 ∧ 0 ≤ o ∧ o ≤ 7 then 0 else 2
theorem stV_yes (t o : Int) (h : t ≤ 1048576 ∧ 0 ≤ o ∧ o ≤ 7) : stV t o = 0 := if_pos h
theorem stV_no (t o : Int) (h : ¬ (t ≤ 1048576 ∧ 0 ≤ o ∧ o ≤ 7)) : stV t o = 2 := if_neg h
theorem stV_01 (t o : Int) : stV t o = 0 ∨ stV t o = 2 := by unfold stV; split <;> simp
set_option maxHeartbeats 400000 in
theorem stcheck (t o : Int) (w : World) :
    Calls Try.prog 50 #[.agg #[.int .u32 t, .int .i64 o]] w fun e w' => e = .returned (.int .i64 (stV t o)) ∧ Below w.heap.size w w' := by
  by_cases h1 : t ≤ 1048576
  · by_cases h2 : 0 ≤ o
    · by_cases h3 : o ≤ 7
      · have HS := Lib.hid (stV_yes t o ⟨h1, h2, h3⟩)
        have hd : decide (o < 8) = true := decide_eq_true (by omega)
        go_enter Try.func50, Try.ntmps50
        go_wp2
        go_ret
        exact ⟨retI HS.out.symm, Joins.below_alloc1 w _⟩
      · have HS := Lib.hid (stV_no t o (by omega))
        have hd : decide (o < 8) = false := decide_eq_false (by omega)
        go_enter Try.func50, Try.ntmps50
        go_wp2
        go_ret
        exact ⟨retI HS.out.symm, Joins.below_alloc1 w _⟩
    · have HS := Lib.hid (stV_no t o (by omega))
      go_enter Try.func50, Try.ntmps50
      go_wp2
      go_ret
      exact ⟨retI HS.out.symm, Joins.below_alloc1 w _⟩
  · have HS := Lib.hid (stV_no t o (by omega))
    go_enter Try.func50, Try.ntmps50
    go_wp2
    go_ret
    exact ⟨retI HS.out.symm, Joins.below_alloc1 w _⟩
set_option maxHeartbeats 400000 in
theorem rstcheck (t o : Int) (w : World) :
    Calls Try.prog 51 #[.agg #[.int .u32 t, .int .i64 o]] w fun e w' => e = .returned (.int .i64 (stV t o)) ∧ Below w.heap.size w w' := by
  by_cases h1 : t ≤ 1048576
  · by_cases h2 : 0 ≤ o
    · by_cases h3 : o ≤ 7
      · have HS := Lib.hid (stV_yes t o ⟨h1, h2, h3⟩)
        have hd : decide (o < 8) = true := decide_eq_true (by omega)
        go_enter Try.func51, Try.ntmps51
        go_wp2
        go_ret
        exact ⟨retI HS.out.symm, Joins.below_alloc1 w _⟩
      · have HS := Lib.hid (stV_no t o (by omega))
        have hd : decide (o < 8) = false := decide_eq_false (by omega)
        go_enter Try.func51, Try.ntmps51
        go_wp2
        go_ret
        exact ⟨retI HS.out.symm, Joins.below_alloc1 w _⟩
    · have HS := Lib.hid (stV_no t o (by omega))
      go_enter Try.func51, Try.ntmps51
      go_wp2
      go_ret
      exact ⟨retI HS.out.symm, Joins.below_alloc1 w _⟩
  · have HS := Lib.hid (stV_no t o (by omega))
    go_enter Try.func51, Try.ntmps51
    go_wp2
    go_ret
    exact ⟨retI HS.out.symm, Joins.below_alloc1 w _⟩
set_option maxHeartbeats 400000 in
theorem stcompare_x (a1 b1 a2 b2 : Int) (w : World) :
    Calls Try.prog 36 #[.agg #[.int .u32 a1, .int .i64 b1], .agg #[.int .u32 a2, .int .i64 b2]] w fun e w' => e = .returned (.int .i64 (or2 (ordI a1 a2) (ordI b1 b2))) ∧ (((w.alloc (.cells #[.int .u32 a1, .int .i64 b1] 40)).alloc (.cells #[.int .u32 a2, .int .i64 b2] 40)).alloc (.cells #[.int .i64 (ordI a1 a2), .int .i64 (ordI b1 b2)] 3)).drew = w' := by
  go_enter Try.func36, Try.ntmps36
  go_wp2
  go_region_held3 (fun w' => w'.cell? ⟨w.heap.size, 0, none⟩ = some (.int .u32 a1) ∧ w'.cell? ⟨w.heap.size, 1, none⟩ = some (.int .i64 b1) ∧ w'.cell? ⟨w.heap.size + 1, 0, none⟩ = some (.int .u32 a2) ∧ w'.cell? ⟨w.heap.size + 1, 1, none⟩ = some (.int .i64 b2)) (go_keep)
    (first
      | (go_at_call 61; refine (cmp_u32 _ _ _).mono ?_; rintro e w' ⟨rfl, rfl⟩)
      | (go_at_call 62; refine (cmp_int _ _ _).mono ?_; rintro e w' ⟨rfl, rfl⟩)
      | (go_at_call 55; refine (or_int (ordI a1 a2) (ordI b1 b2) _ _ ?_ ?_).mono ?_; (simp [go_sem]); (simp [go_sem]); rintro e w' ⟨rfl, rfl⟩))
  all_goals
    go_wp2
    go_ret
    exact ⟨rfl, rfl⟩
theorem stcompare (a1 b1 a2 b2 : Int) (w : World) :
    Calls Try.prog 36 #[.agg #[.int .u32 a1, .int .i64 b1], .agg #[.int .u32 a2, .int .i64 b2]] w fun e w' => e = .returned (.int .i64 (or2 (ordI a1 a2) (ordI b1 b2))) ∧ Below w.heap.size w w' :=
  (stcompare_x a1 b1 a2 b2 w).mono (by rintro e w' ⟨rfl, rfl⟩; exact ⟨rfl, (Joins.below_alloc3 w _ _ _).drew⟩)

/-! ### the clock -/
/-- Block b is a clock: whose, and its time. -/
def Clk (w : World) (b : Nat) (o t : Int) : Prop := w.cell? ⟨b, 0, none⟩ = some (.int .i64 o) ∧ w.cell? ⟨b, 1, none⟩ = some (.int .u32 t) ∧ w.frozen? ⟨b, 0, none⟩ = false ∧ w.frozen? ⟨b, 1, none⟩ = false
theorem Clk.lt {w : World} {b : Nat} {o t : Int} (h : Clk w b o t) : b < w.heap.size := World.block_lt_of_cell? w ⟨b, 0, none⟩ h.1
theorem Clk.below {w w' : World} {b : Nat} {o t : Int} (h : Clk w b o t) (hb : Below w.heap.size w w') : Clk w' b o t := by
  have hl := h.lt
  refine ⟨?_, ?_, ?_, ?_⟩
  · rw [hb.cell (p := ⟨b, 0, none⟩) hl]; exact h.1
  · rw [hb.cell (p := ⟨b, 1, none⟩) hl]; exact h.2.1
  · rw [hb.frozen (p := ⟨b, 0, none⟩) hl]; exact h.2.2.1
  · rw [hb.frozen (p := ⟨b, 1, none⟩) hl]; exact h.2.2.2
theorem Clk.grown {w w' : World} {b : Nat} {o t : Int} {row : Option Nat} (h : Clk w b o t) (hg : w.grownBy w' row) (hr : some b ≠ row) : Clk w' b o t := by
  have e := hg.block b h.lt hr
  refine ⟨?_, ?_, ?_, ?_⟩
  · rw [World.cell?_of_block (w := w) (a := ⟨b, 0, none⟩) e]; exact h.1
  · rw [World.cell?_of_block (w := w) (a := ⟨b, 1, none⟩) e]; exact h.2.1
  · rw [World.frozen?_of_block (w := w) (a := ⟨b, 0, none⟩) e]; exact h.2.2.1
  · rw [World.frozen?_of_block (w := w) (a := ⟨b, 1, none⟩) e]; exact h.2.2.2
theorem now_any (b : Nat) (o t : Int) (w : World) (h : Clk w b o t) : Calls Try.prog 22 #[.pointer (some ⟨b, 0, none⟩)] w fun e w' => e = .returned (.int .u32 t) ∧ w = w' := by
  obtain ⟨h0, h1, h2, h3⟩ := h
  go_enter Try.func22, Try.ntmps22
  go_wp2
  go_ret
  exact ⟨rfl, rfl⟩
theorem new_yes (o : Int) (w : World) (h1 : 0 ≤ o) (h2 : o ≤ 7) : Calls Try.prog 15 #[.int .i64 o] w fun e w' => e = .returned (.tuple #[.pointer (some ⟨w.heap.size, 0, none⟩), .int .i64 0]) ∧ w.alloc (.cells #[.int .i64 o, .int .u32 0] 97) = w' := by
  have hd : decide (o < 8) = true := decide_eq_true (by omega)
  go_enter Try.func15, Try.ntmps15
  go_wp2
  go_ret2
  exact ⟨rfl, rfl⟩
theorem new_no (o : Int) (w : World) (h : ¬ (0 ≤ o ∧ o ≤ 7)) : Calls Try.prog 15 #[.int .i64 o] w fun e w' => e = .returned (.tuple #[.pointer none, .int .i64 2]) ∧ w = w' := by
  by_cases h1 : 0 ≤ o
  · have hd : decide (o < 8) = false := decide_eq_false (by omega)
    clear h
    go_enter Try.func15, Try.ntmps15
    go_wp2
    go_ret2
    exact ⟨rfl, rfl⟩
  · clear h
    go_enter Try.func15, Try.ntmps15
    go_wp2
    go_ret2
    exact ⟨rfl, rfl⟩
theorem st_eql (a b c d : Int) (W : World) : (binOp .eql 40 (.agg #[.int .u32 a, .int .i64 b]) (.agg #[.int .u32 c, .int .i64 d])).run Try.prog W = Result.ok (.bool (a == c && b == d)) W := by
  by_cases h1 : a = c
  · subst h1
    by_cases h2 : b = d
    · subst h2
      simp [go_sem]
    · have h3 : (b == d) = false := by simpa using h2
      simp [go_sem, h3]
  · have h3 : (a == c) = false := by simpa using h1
    simp [go_sem, h3]
set_option maxHeartbeats 1600000 in
theorem rstcompare (a1 b1 a2 b2 : Int) (w : World) :
    Calls Try.prog 54 #[.agg #[.int .u32 a1, .int .i64 b1], .agg #[.int .u32 a2, .int .i64 b2]] w fun e w' => e = .returned (.int .i64 (or2 (ordI a1 a2) (ordI b1 b2))) ∧ Below w.heap.size w w' := by
  have q := st_eql
  by_cases h1 : a1 < a2
  · have HS := Lib.hid (show or2 (ordI a1 a2) (ordI b1 b2) = -1 by rw [ordI_lt h1]; rfl)
    go_enter Try.func54, Try.ntmps54
    go_wp2
    go_ret
    exact ⟨retI HS.out.symm, Joins.below_alloc2 w _ _⟩
  · by_cases h2 : a1 = a2
    · subst h2
      by_cases h3 : b1 < b2
      · have HS := Lib.hid (show or2 (ordI a1 a1) (ordI b1 b2) = -1 by rw [ordI_eq rfl, ordI_lt h3]; rfl)
        go_enter Try.func54, Try.ntmps54
        go_wp2
        go_ret
        exact ⟨retI HS.out.symm, Joins.below_alloc2 w _ _⟩
      · by_cases h4 : b1 = b2
        · subst h4
          have HS := Lib.hid (show or2 (ordI a1 a1) (ordI b1 b1) = 0 by rw [ordI_eq rfl, ordI_eq rfl]; rfl)
          go_enter Try.func54, Try.ntmps54
          go_wp2
          go_ret
          exact ⟨retI HS.out.symm, Joins.below_alloc2 w _ _⟩
        · have HS := Lib.hid (show or2 (ordI a1 a1) (ordI b1 b2) = 1 by rw [ordI_eq rfl, ordI_gt (by omega)]; rfl)
          have h5 : (b1 == b2) = false := by simpa using h4
          go_enter Try.func54, Try.ntmps54
          go_wp2
          go_ret
          exact ⟨retI HS.out.symm, Joins.below_alloc2 w _ _⟩
    · have HS := Lib.hid (show or2 (ordI a1 a2) (ordI b1 b2) = 1 by rw [ordI_gt (by omega)]; rfl)
      have h5 : (a1 == a2) = false := by simpa using h2
      go_enter Try.func54, Try.ntmps54
      go_wp2
      go_ret
      exact ⟨retI HS.out.symm, Joins.below_alloc2 w _ _⟩
end Go.Proofs.Ytfpaojkcmijfgaa

/- Contracts of package lamp's Check, Compare and of its clock. -/
import Derived.Test.YtjckganigfblnaaDoorCmp
import Derived.Deep.RegionHeld3
import Derived.Deep.DrawnRows
import Derived.WalkSpells
import Derived.Lib.SmallJoins
import Derived.Laws.Cover1
namespace Go.Proofs.YtjckganigfblnaaDoor
open Go.RowKit
attribute [local go_sem ↓] Go.wp_at_zero Go.wp_at_succ
def stV (t o : Int) : Int := if t ≤ 1048576 ∧ 0 ≤ o ∧ o ≤ 7 then 0 else 2
theorem stV_yes (t o : Int) (h : t ≤ 1048576 ∧ 0 ≤ o ∧ o ≤ 7) : stV t o = 0 := if_pos h
theorem stV_no (t o : Int) (h : ¬ (t ≤ 1048576 ∧ 0 ≤ o ∧ o ≤ 7)) : stV t o = 2 := if_neg h
theorem stV_01 (t o : Int) : stV t o = 0 ∨ stV t o = 2 := by unfold stV; split <;> simp
set_option maxHeartbeats 400000 in
theorem stcheck (t o : Int) (w : World) :
    Calls Tryd.prog 21 #[.agg #[.int .u32 t, .int .i64 o]] w fun e w' => e = .returned (.int .i64 (stV t o)) ∧ Below w.heap.size w w' := by
  by_cases h1 : t ≤ 1048576
  · by_cases h2 : 0 ≤ o
    · by_cases h3 : o ≤ 7
      · have HS := Lib.hid (stV_yes t o ⟨h1, h2, h3⟩)
        have hd : decide (o < 8) = true := decide_eq_true (by omega)
        go_enter Tryd.func21, Tryd.ntmps21
        go_wp2
        go_ret
        exact ⟨retI HS.out.symm, Joins.below_alloc1 w _⟩
      · have HS := Lib.hid (stV_no t o (by omega))
        have hd : decide (o < 8) = false := decide_eq_false (by omega)
        go_enter Tryd.func21, Tryd.ntmps21
        go_wp2
        go_ret
        exact ⟨retI HS.out.symm, Joins.below_alloc1 w _⟩
    · have HS := Lib.hid (stV_no t o (by omega))
      go_enter Tryd.func21, Tryd.ntmps21
      go_wp2
      go_ret
      exact ⟨retI HS.out.symm, Joins.below_alloc1 w _⟩
  · have HS := Lib.hid (stV_no t o (by omega))
    go_enter Tryd.func21, Tryd.ntmps21
    go_wp2
    go_ret
    exact ⟨retI HS.out.symm, Joins.below_alloc1 w _⟩
set_option maxHeartbeats 400000 in
theorem rstcheck (t o : Int) (w : World) :
    Calls Tryd.prog 22 #[.agg #[.int .u32 t, .int .i64 o]] w fun e w' => e = .returned (.int .i64 (stV t o)) ∧ Below w.heap.size w w' := by
  by_cases h1 : t ≤ 1048576
  · by_cases h2 : 0 ≤ o
    · by_cases h3 : o ≤ 7
      · have HS := Lib.hid (stV_yes t o ⟨h1, h2, h3⟩)
        have hd : decide (o < 8) = true := decide_eq_true (by omega)
        go_enter Tryd.func22, Tryd.ntmps22
        go_wp2
        go_ret
        exact ⟨retI HS.out.symm, Joins.below_alloc1 w _⟩
      · have HS := Lib.hid (stV_no t o (by omega))
        have hd : decide (o < 8) = false := decide_eq_false (by omega)
        go_enter Tryd.func22, Tryd.ntmps22
        go_wp2
        go_ret
        exact ⟨retI HS.out.symm, Joins.below_alloc1 w _⟩
    · have HS := Lib.hid (stV_no t o (by omega))
      go_enter Tryd.func22, Tryd.ntmps22
      go_wp2
      go_ret
      exact ⟨retI HS.out.symm, Joins.below_alloc1 w _⟩
  · have HS := Lib.hid (stV_no t o (by omega))
    go_enter Tryd.func22, Tryd.ntmps22
    go_wp2
    go_ret
    exact ⟨retI HS.out.symm, Joins.below_alloc1 w _⟩
set_option maxHeartbeats 400000 in
theorem stcompare_x (a1 b1 a2 b2 : Int) (w : World) :
    Calls Tryd.prog 23 #[.agg #[.int .u32 a1, .int .i64 b1], .agg #[.int .u32 a2, .int .i64 b2]] w fun e w' => e = .returned (.int .i64 (or2 (ordI a1 a2) (ordI b1 b2))) ∧ (((w.alloc (.cells #[.int .u32 a1, .int .i64 b1] 48)).alloc (.cells #[.int .u32 a2, .int .i64 b2] 48)).alloc (.cells #[.int .i64 (ordI a1 a2), .int .i64 (ordI b1 b2)] 3)).drew = w' := by
  go_enter Tryd.func23, Tryd.ntmps23
  go_wp2
  go_region_held3 (fun w' => w'.cell? ⟨w.heap.size, 0, none⟩ = some (.int .u32 a1) ∧ w'.cell? ⟨w.heap.size, 1, none⟩ = some (.int .i64 b1) ∧ w'.cell? ⟨w.heap.size + 1, 0, none⟩ = some (.int .u32 a2) ∧ w'.cell? ⟨w.heap.size + 1, 1, none⟩ = some (.int .i64 b2)) (go_keep)
    (first
      | (go_at_call 83; refine (cmp_u32 _ _ _).mono ?_; rintro e w' ⟨rfl, rfl⟩)
      | (go_at_call 84; refine (cmp_int _ _ _).mono ?_; rintro e w' ⟨rfl, rfl⟩)
      | (go_at_call 82; refine (or_int (ordI a1 a2) (ordI b1 b2) _ _ ?_ ?_).mono ?_; (simp [go_sem]); (simp [go_sem]); rintro e w' ⟨rfl, rfl⟩))
  all_goals
    go_wp2
    go_ret
    exact ⟨rfl, rfl⟩
theorem stcompare (a1 b1 a2 b2 : Int) (w : World) :
    Calls Tryd.prog 23 #[.agg #[.int .u32 a1, .int .i64 b1], .agg #[.int .u32 a2, .int .i64 b2]] w fun e w' => e = .returned (.int .i64 (or2 (ordI a1 a2) (ordI b1 b2))) ∧ Below w.heap.size w w' :=
  (stcompare_x a1 b1 a2 b2 w).mono (by rintro e w' ⟨rfl, rfl⟩; exact ⟨rfl, (Joins.below_alloc3 w _ _ _).drew⟩)

end Go.Proofs.YtjckganigfblnaaDoor

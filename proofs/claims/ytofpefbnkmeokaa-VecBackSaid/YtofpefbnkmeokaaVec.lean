/- Contracts of package vec's and of the reference's Check, Join, Meet, LE and Total. -/
import Derived.Test.YtofpefbnkmeokaaProg
import Derived.WalkKit
import Derived.Lib.Hide
import Derived.WalkSpells
import Derived.WalkLawsBesides
import Derived.Lib.SmallJoins
import Derived.Lib.MinMax
import Derived.RegionTactic
import Derived.ChangeAlike
namespace Go.Proofs.Ytofpefbnkmeokaa
open Go.RowKit
theorem retJ {k : IntKind} {a b : Int} (h : a = b) : Ending.returned (.int k a) = .returned (.int k b) := by rw [h]
def vchk (x0 x1 x2 x3 x4 x5 x6 x7 : Int) : Int := if x0 ≤ 1048576 ∧ x1 ≤ 1048576 ∧ x2 ≤ 1048576 ∧ x3 ≤ 1048576 ∧ x4 ≤ 1048576 ∧ x5 ≤ 1048576 ∧ x6 ≤ 1048576 ∧ x7 ≤ 1048576 then 0 else 2
theorem vchk_yes (x0 x1 x2 x3 x4 x5 x6 x7 : Int) (h : x0 ≤ 1048576 ∧ x1 ≤ 1048576 ∧ x2 ≤ 1048576 ∧ x3 ≤ 1048576 ∧ x4 ≤ 1048576 ∧ x5 ≤ 1048576 ∧ x6 ≤ 1048576 ∧ x7 ≤ 1048576) : vchk x0 x1 x2 x3 x4 x5 x6 x7 = 0 := if_pos h
theorem vchk_no (x0 x1 x2 x3 x4 x5 x6 x7 : Int) (h : ¬ (x0 ≤ 1048576 ∧ x1 ≤ 1048576 ∧ x2 ≤ 1048576 ∧ x3 ≤ 1048576 ∧ x4 ≤ 1048576 ∧ x5 ≤ 1048576 ∧ x6 ≤ 1048576 ∧ x7 ≤ 1048576)) : vchk x0 x1 x2 x3 x4 x5 x6 x7 = 2 := if_neg h
set_option maxHeartbeats 1600000 in
theorem vcheck (x0 x1 x2 x3 x4 x5 x6 x7 : Int) (w : World) :
    Calls Try.prog 5 #[.agg #[.int .u32 x0, .int .u32 x1, .int .u32 x2, .int .u32 x3, .int .u32 x4, .int .u32 x5, .int .u32 x6, .int .u32 x7]] w fun e w' => e = .returned (.int .i64 (vchk x0 x1 x2 x3 x4 x5 x6 x7)) ∧ Below w.heap.size w w' := by
  have i0 : ∀ W : World, (Instr.index 24 (.agg #[.int .u32 x0, .int .u32 x1, .int .u32 x2, .int .u32 x3, .int .u32 x4, .int .u32 x5, .int .u32 x6, .int .u32 x7]) (.int .i64 0)).run Try.prog W = Result.ok (.int .u32 x0) W := fun _ => by kernel_rfl
  have i1 : ∀ W : World, (Instr.index 24 (.agg #[.int .u32 x0, .int .u32 x1, .int .u32 x2, .int .u32 x3, .int .u32 x4, .int .u32 x5, .int .u32 x6, .int .u32 x7]) (.int .i64 1)).run Try.prog W = Result.ok (.int .u32 x1) W := fun _ => by kernel_rfl
  have i2 : ∀ W : World, (Instr.index 24 (.agg #[.int .u32 x0, .int .u32 x1, .int .u32 x2, .int .u32 x3, .int .u32 x4, .int .u32 x5, .int .u32 x6, .int .u32 x7]) (.int .i64 2)).run Try.prog W = Result.ok (.int .u32 x2) W := fun _ => by kernel_rfl
  have i3 : ∀ W : World, (Instr.index 24 (.agg #[.int .u32 x0, .int .u32 x1, .int .u32 x2, .int .u32 x3, .int .u32 x4, .int .u32 x5, .int .u32 x6, .int .u32 x7]) (.int .i64 3)).run Try.prog W = Result.ok (.int .u32 x3) W := fun _ => by kernel_rfl
  have i4 : ∀ W : World, (Instr.index 24 (.agg #[.int .u32 x0, .int .u32 x1, .int .u32 x2, .int .u32 x3, .int .u32 x4, .int .u32 x5, .int .u32 x6, .int .u32 x7]) (.int .i64 4)).run Try.prog W = Result.ok (.int .u32 x4) W := fun _ => by kernel_rfl
  have i5 : ∀ W : World, (Instr.index 24 (.agg #[.int .u32 x0, .int .u32 x1, .int .u32 x2, .int .u32 x3, .int .u32 x4, .int .u32 x5, .int .u32 x6, .int .u32 x7]) (.int .i64 5)).run Try.prog W = Result.ok (.int .u32 x5) W := fun _ => by kernel_rfl
  have i6 : ∀ W : World, (Instr.index 24 (.agg #[.int .u32 x0, .int .u32 x1, .int .u32 x2, .int .u32 x3, .int .u32 x4, .int .u32 x5, .int .u32 x6, .int .u32 x7]) (.int .i64 6)).run Try.prog W = Result.ok (.int .u32 x6) W := fun _ => by kernel_rfl
  have i7 : ∀ W : World, (Instr.index 24 (.agg #[.int .u32 x0, .int .u32 x1, .int .u32 x2, .int .u32 x3, .int .u32 x4, .int .u32 x5, .int .u32 x6, .int .u32 x7]) (.int .i64 7)).run Try.prog W = Result.ok (.int .u32 x7) W := fun _ => by kernel_rfl
  by_cases h0 : x0 ≤ 1048576
  rotate_left
  · have HS := Lib.hid (vchk_no x0 x1 x2 x3 x4 x5 x6 x7 (by omega))
    go_enter Try.func5, Try.ntmps5
    go_wp2
    refine wp_loop_rounds 9 ?_
    rw [rounds_succ]
    go_wp2
    go_ret
    exact ⟨retJ HS.out.symm, Joins.below_alloc1 w _⟩
  by_cases h1 : x1 ≤ 1048576
  rotate_left
  · have HS := Lib.hid (vchk_no x0 x1 x2 x3 x4 x5 x6 x7 (by omega))
    go_enter Try.func5, Try.ntmps5
    go_wp2
    refine wp_loop_rounds 9 ?_
    rw [rounds_succ]
    go_wp2
    rw [rounds_succ]
    go_wp2
    go_ret
    exact ⟨retJ HS.out.symm, Joins.below_alloc1 w _⟩
  by_cases h2 : x2 ≤ 1048576
  rotate_left
  · have HS := Lib.hid (vchk_no x0 x1 x2 x3 x4 x5 x6 x7 (by omega))
    go_enter Try.func5, Try.ntmps5
    go_wp2
    refine wp_loop_rounds 9 ?_
    rw [rounds_succ]
    go_wp2
    rw [rounds_succ]
    go_wp2
    rw [rounds_succ]
    go_wp2
    go_ret
    exact ⟨retJ HS.out.symm, Joins.below_alloc1 w _⟩
  by_cases h3 : x3 ≤ 1048576
  rotate_left
  · have HS := Lib.hid (vchk_no x0 x1 x2 x3 x4 x5 x6 x7 (by omega))
    go_enter Try.func5, Try.ntmps5
    go_wp2
    refine wp_loop_rounds 9 ?_
    rw [rounds_succ]
    go_wp2
    rw [rounds_succ]
    go_wp2
    rw [rounds_succ]
    go_wp2
    rw [rounds_succ]
    go_wp2
    go_ret
    exact ⟨retJ HS.out.symm, Joins.below_alloc1 w _⟩
  by_cases h4 : x4 ≤ 1048576
  rotate_left
  · have HS := Lib.hid (vchk_no x0 x1 x2 x3 x4 x5 x6 x7 (by omega))
    go_enter Try.func5, Try.ntmps5
    go_wp2
    refine wp_loop_rounds 9 ?_
    rw [rounds_succ]
    go_wp2
    rw [rounds_succ]
    go_wp2
    rw [rounds_succ]
    go_wp2
    rw [rounds_succ]
    go_wp2
    rw [rounds_succ]
    go_wp2
    go_ret
    exact ⟨retJ HS.out.symm, Joins.below_alloc1 w _⟩
  by_cases h5 : x5 ≤ 1048576
  rotate_left
  · have HS := Lib.hid (vchk_no x0 x1 x2 x3 x4 x5 x6 x7 (by omega))
    go_enter Try.func5, Try.ntmps5
    go_wp2
    refine wp_loop_rounds 9 ?_
    rw [rounds_succ]
    go_wp2
    rw [rounds_succ]
    go_wp2
    rw [rounds_succ]
    go_wp2
    rw [rounds_succ]
    go_wp2
    rw [rounds_succ]
    go_wp2
    rw [rounds_succ]
    go_wp2
    go_ret
    exact ⟨retJ HS.out.symm, Joins.below_alloc1 w _⟩
  by_cases h6 : x6 ≤ 1048576
  rotate_left
  · have HS := Lib.hid (vchk_no x0 x1 x2 x3 x4 x5 x6 x7 (by omega))
    go_enter Try.func5, Try.ntmps5
    go_wp2
    refine wp_loop_rounds 9 ?_
    rw [rounds_succ]
    go_wp2
    rw [rounds_succ]
    go_wp2
    rw [rounds_succ]
    go_wp2
    rw [rounds_succ]
    go_wp2
    rw [rounds_succ]
    go_wp2
    rw [rounds_succ]
    go_wp2
    rw [rounds_succ]
    go_wp2
    go_ret
    exact ⟨retJ HS.out.symm, Joins.below_alloc1 w _⟩
  by_cases h7 : x7 ≤ 1048576
  rotate_left
  · have HS := Lib.hid (vchk_no x0 x1 x2 x3 x4 x5 x6 x7 (by omega))
    go_enter Try.func5, Try.ntmps5
    go_wp2
    refine wp_loop_rounds 9 ?_
    rw [rounds_succ]
    go_wp2
    rw [rounds_succ]
    go_wp2
    rw [rounds_succ]
    go_wp2
    rw [rounds_succ]
    go_wp2
    rw [rounds_succ]
    go_wp2
    rw [rounds_succ]
    go_wp2
    rw [rounds_succ]
    go_wp2
    rw [rounds_succ]
    go_wp2
    go_ret
    exact ⟨retJ HS.out.symm, Joins.below_alloc1 w _⟩
  have HS := Lib.hid (vchk_yes x0 x1 x2 x3 x4 x5 x6 x7 ⟨h0, h1, h2, h3, h4, h5, h6, h7⟩)
  go_enter Try.func5, Try.ntmps5
  go_wp2
  refine wp_loop_rounds 9 ?_
  rw [rounds_succ]
  go_wp2
  rw [rounds_succ]
  go_wp2
  rw [rounds_succ]
  go_wp2
  rw [rounds_succ]
  go_wp2
  rw [rounds_succ]
  go_wp2
  rw [rounds_succ]
  go_wp2
  rw [rounds_succ]
  go_wp2
  rw [rounds_succ]
  go_wp2
  rw [rounds_succ]
  go_wp2
  go_ret
  exact ⟨retJ HS.out.symm, Joins.below_alloc1 w _⟩
end Go.Proofs.Ytofpefbnkmeokaa

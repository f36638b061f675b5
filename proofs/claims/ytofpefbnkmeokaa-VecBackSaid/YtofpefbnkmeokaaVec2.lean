/- Contracts of package vec's and of the reference's Check, Join, Meet, LE and Total. -/
import Derived.Test.YtofpefbnkmeokaaVec
import Derived.WalkKit
import Derived.Lib.Hide
import Derived.WalkSpells
import Derived.WalkLawsBesides
import Derived.Lib.SmallJoins
import Derived.Lib.MinMax
import Derived.RegionTactic
import Derived.ChangeAlike
namespace Go.Proofs.Ytofpefbnkmeokaa
open Go.RowKit
set_option maxHeartbeats 3200000 in
theorem vjoin (x0 x1 x2 x3 x4 x5 x6 x7 y0 y1 y2 y3 y4 y5 y6 y7 : Int) (w : World) :
    Calls Try.prog 12 #[.agg #[.int .u32 x0, .int .u32 x1, .int .u32 x2, .int .u32 x3, .int .u32 x4, .int .u32 x5, .int .u32 x6, .int .u32 x7], .agg #[.int .u32 y0, .int .u32 y1, .int .u32 y2, .int .u32 y3, .int .u32 y4, .int .u32 y5, .int .u32 y6, .int .u32 y7]] w fun e w' => e = .returned (.agg #[.int .u32 (max x0 y0), .int .u32 (max x1 y1), .int .u32 (max x2 y2), .int .u32 (max x3 y3), .int .u32 (max x4 y4), .int .u32 (max x5 y5), .int .u32 (max x6 y6), .int .u32 (max x7 y7)]) ∧ Below w.heap.size w w' := by
  have j0 : ∀ W : World, (Instr.index 24 (.agg #[.int .u32 y0, .int .u32 y1, .int .u32 y2, .int .u32 y3, .int .u32 y4, .int .u32 y5, .int .u32 y6, .int .u32 y7]) (.int .i64 0)).run Try.prog W = Result.ok (.int .u32 y0) W := fun _ => by kernel_rfl
  have j1 : ∀ W : World, (Instr.index 24 (.agg #[.int .u32 y0, .int .u32 y1, .int .u32 y2, .int .u32 y3, .int .u32 y4, .int .u32 y5, .int .u32 y6, .int .u32 y7]) (.int .i64 1)).run Try.prog W = Result.ok (.int .u32 y1) W := fun _ => by kernel_rfl
  have j2 : ∀ W : World, (Instr.index 24 (.agg #[.int .u32 y0, .int .u32 y1, .int .u32 y2, .int .u32 y3, .int .u32 y4, .int .u32 y5, .int .u32 y6, .int .u32 y7]) (.int .i64 2)).run Try.prog W = Result.ok (.int .u32 y2) W := fun _ => by kernel_rfl
  have j3 : ∀ W : World, (Instr.index 24 (.agg #[.int .u32 y0, .int .u32 y1, .int .u32 y2, .int .u32 y3, .int .u32 y4, .int .u32 y5, .int .u32 y6, .int .u32 y7]) (.int .i64 3)).run Try.prog W = Result.ok (.int .u32 y3) W := fun _ => by kernel_rfl
  have j4 : ∀ W : World, (Instr.index 24 (.agg #[.int .u32 y0, .int .u32 y1, .int .u32 y2, .int .u32 y3, .int .u32 y4, .int .u32 y5, .int .u32 y6, .int .u32 y7]) (.int .i64 4)).run Try.prog W = Result.ok (.int .u32 y4) W := fun _ => by kernel_rfl
  have j5 : ∀ W : World, (Instr.index 24 (.agg #[.int .u32 y0, .int .u32 y1, .int .u32 y2, .int .u32 y3, .int .u32 y4, .int .u32 y5, .int .u32 y6, .int .u32 y7]) (.int .i64 5)).run Try.prog W = Result.ok (.int .u32 y5) W := fun _ => by kernel_rfl
  have j6 : ∀ W : World, (Instr.index 24 (.agg #[.int .u32 y0, .int .u32 y1, .int .u32 y2, .int .u32 y3, .int .u32 y4, .int .u32 y5, .int .u32 y6, .int .u32 y7]) (.int .i64 6)).run Try.prog W = Result.ok (.int .u32 y6) W := fun _ => by kernel_rfl
  have j7 : ∀ W : World, (Instr.index 24 (.agg #[.int .u32 y0, .int .u32 y1, .int .u32 y2, .int .u32 y3, .int .u32 y4, .int .u32 y5, .int .u32 y6, .int .u32 y7]) (.int .i64 7)).run Try.prog W = Result.ok (.int .u32 y7) W := fun _ => by kernel_rfl
  go_enter Try.func12, Try.ntmps12
  go_wp2
  refine wp_loop_rounds 9 ?_
  rw [rounds_succ]
  go_wp2
  rw [rounds_succ]
  go_wp2
  rw [rounds_succ]
  go_wp2
  rw [rounds_succ]
  go_wp2
  rw [rounds_succ]
  go_wp2
  rw [rounds_succ]
  go_wp2
  rw [rounds_succ]
  go_wp2
  rw [rounds_succ]
  go_wp2
  rw [rounds_succ]
  go_wp2
  exact bodyPost_ret (v := .agg #[.int .u32 (max x0 y0), .int .u32 (max x1 y1), .int .u32 (max x2 y2), .int .u32 (max x3 y3), .int .u32 (max x4 y4), .int .u32 (max x5 y5), .int .u32 (max x6 y6), .int .u32 (max x7 y7)]) (by simp [results, Try.results12, go_sem]) rfl ⟨rfl, by repeat (first | exact Joins.below_alloc3 w _ _ _ | apply Below.drew | refine Below.setCell ?_ (by simp) _ | refine Below.alloc ?_ (by simp; omega) _)⟩
end Go.Proofs.Ytofpefbnkmeokaa

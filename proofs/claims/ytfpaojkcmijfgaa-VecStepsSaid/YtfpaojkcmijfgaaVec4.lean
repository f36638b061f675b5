/- Equality of vectors; contracts of vec.LE, vec.Total and of the reference's. -/
import Derived.Test.YtfpaojkcmijfgaaVec3
import Derived.ChangeKeysEq
import Derived.Deep.QuietTactic
import Derived.BigQuiet
import Derived.Lib.QuietBelow
namespace Go.Proofs.Ytfpaojkcmijfgaa
open Go.RowKit
set_option maxHeartbeats 1600000 in
theorem vtotal (x0 x1 x2 x3 x4 x5 x6 x7 : Int) (w : World) (p0 : 0 ≤ x0) (q0 : x0 ≤ 4294967295) (p1 : 0 ≤ x1) (q1 : x1 ≤ 4294967295) (p2 : 0 ≤ x2) (q2 : x2 ≤ 4294967295) (p3 : 0 ≤ x3) (q3 : x3 ≤ 4294967295) (p4 : 0 ≤ x4) (q4 : x4 ≤ 4294967295) (p5 : 0 ≤ x5) (q5 : x5 ≤ 4294967295) (p6 : 0 ≤ x6) (q6 : x6 ≤ 4294967295) (p7 : 0 ≤ x7) (q7 : x7 ≤ 4294967295) :
    Calls Try.prog 41 #[.agg #[.int .u32 x0, .int .u32 x1, .int .u32 x2, .int .u32 x3, .int .u32 x4, .int .u32 x5, .int .u32 x6, .int .u32 x7]] w fun e w' => e = .returned (.int .u64 (x0 + x1 + x2 + x3 + x4 + x5 + x6 + x7)) ∧ Below w.heap.size w w' := by
  have i0 : ∀ W : World, (Instr.index 64 (.agg #[.int .u32 x0, .int .u32 x1, .int .u32 x2, .int .u32 x3, .int .u32 x4, .int .u32 x5, .int .u32 x6, .int .u32 x7]) (.int .i64 0)).run Try.prog W = Result.ok (.int .u32 x0) W := fun _ => by kernel_rfl
  have i1 : ∀ W : World, (Instr.index 64 (.agg #[.int .u32 x0, .int .u32 x1, .int .u32 x2, .int .u32 x3, .int .u32 x4, .int .u32 x5, .int .u32 x6, .int .u32 x7]) (.int .i64 1)).run Try.prog W = Result.ok (.int .u32 x1) W := fun _ => by kernel_rfl
  have i2 : ∀ W : World, (Instr.index 64 (.agg #[.int .u32 x0, .int .u32 x1, .int .u32 x2, .int .u32 x3, .int .u32 x4, .int .u32 x5, .int .u32 x6, .int .u32 x7]) (.int .i64 2)).run Try.prog W = Result.ok (.int .u32 x2) W := fun _ => by kernel_rfl
  have i3 : ∀ W : World, (Instr.index 64 (.agg #[.int .u32 x0, .int .u32 x1, .int .u32 x2, .int .u32 x3, .int .u32 x4, .int .u32 x5, .int .u32 x6, .int .u32 x7]) (.int .i64 3)).run Try.prog W = Result.ok (.int .u32 x3) W := fun _ => by kernel_rfl
  have i4 : ∀ W : World, (Instr.index 64 (.agg #[.int .u32 x0, .int .u32 x1, .int .u32 x2, .int .u32 x3, .int .u32 x4, .int .u32 x5, .int .u32 x6, .int .u32 x7]) (.int .i64 4)).run Try.prog W = Result.ok (.int .u32 x4) W := fun _ => by kernel_rfl
  have i5 : ∀ W : World, (Instr.index 64 (.agg #[.int .u32 x0, .int .u32 x1, .int .u32 x2, .int .u32 x3, .int .u32 x4, .int .u32 x5, .int .u32 x6, .int .u32 x7]) (.int .i64 5)).run Try.prog W = Result.ok (.int .u32 x5) W := fun _ => by kernel_rfl
  have i6 : ∀ W : World, (Instr.index 64 (.agg #[.int .u32 x0, .int .u32 x1, .int .u32 x2, .int .u32 x3, .int .u32 x4, .int .u32 x5, .int .u32 x6, .int .u32 x7]) (.int .i64 6)).run Try.prog W = Result.ok (.int .u32 x6) W := fun _ => by kernel_rfl
  have i7 : ∀ W : World, (Instr.index 64 (.agg #[.int .u32 x0, .int .u32 x1, .int .u32 x2, .int .u32 x3, .int .u32 x4, .int .u32 x5, .int .u32 x6, .int .u32 x7]) (.int .i64 7)).run Try.prog W = Result.ok (.int .u32 x7) W := fun _ => by kernel_rfl
  go_enter Try.func41, Try.ntmps41
  go_wp2
  refine wp_loop_rounds 9 ?_
  rw [rounds_succ]
  go_wp2
  rw [rounds_succ]
  go_wp2
  rw [rounds_succ]
  go_wp2
  rw [rounds_succ]
  go_wp2
  rw [rounds_succ]
  go_wp2
  rw [rounds_succ]
  go_wp2
  rw [rounds_succ]
  go_wp2
  rw [rounds_succ]
  go_wp2
  rw [rounds_succ]
  go_wp2
  go_ret
  exact ⟨rfl, Joins.below_alloc1 w _⟩
end Go.Proofs.Ytfpaojkcmijfgaa

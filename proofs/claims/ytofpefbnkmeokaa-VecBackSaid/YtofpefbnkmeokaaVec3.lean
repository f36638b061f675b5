/- Equality of vectors; contracts of vec.LE, vec.Total and of the reference's. -/
import Derived.Test.YtofpefbnkmeokaaVec2
import Derived.ChangeKeysEq
import Derived.Deep.QuietTactic
import Derived.BigQuiet
import Derived.Lib.QuietBelow
namespace Go.Proofs.Ytofpefbnkmeokaa
open Go.RowKit
theorem items_step (d : Nat) (xs ys : Array Value) (i : Nat) (is : List Nat) (a b : Int) (W : World) (hx : (part 22 xs (i * 1)).run Try.prog W = Result.ok (.int .u32 a) W) (hy : (part 22 ys (i * 1)).run Try.prog W = Result.ok (.int .u32 b) W) :
    (Op.eqItems (d + 1) 22 1 xs ys (i :: is)).run Try.prog W = if (a == b) = true then (Op.eqItems (d + 1) 22 1 xs ys is).run Try.prog W else Result.ok false W := by
  simp only [Op.eqItems, Sem.run_bind, hx, hy, Result.andThen_ok, run_equalIn_int W d 22 .u32 .u32 a b Try.underlying22]
  cases (a == b) <;> rfl
theorem u32_some : (Try.prog.info? 22).isSome = true := by kernel_rfl
theorem u32_info : ∃ i, Try.prog.info? 22 = some i := Option.isSome_iff_exists.1 u32_some
theorem u32_cells : Try.prog.cellsOf 22 = 1 := by kernel_rfl
theorem vec_eq (x0 x1 x2 x3 x4 x5 x6 x7 y0 y1 y2 y3 y4 y5 y6 y7 : Int) (W : World) : (binOp .eql 24 (.agg #[.int .u32 x0, .int .u32 x1, .int .u32 x2, .int .u32 x3, .int .u32 x4, .int .u32 x5, .int .u32 x6, .int .u32 x7]) (.agg #[.int .u32 y0, .int .u32 y1, .int .u32 y2, .int .u32 y3, .int .u32 y4, .int .u32 y5, .int .u32 y6, .int .u32 y7])).run Try.prog W = Result.ok (.bool (x0 == y0 && x1 == y1 && x2 == y2 && x3 == y3 && x4 == y4 && x5 == y5 && x6 == y6 && x7 == y7)) W := by
  obtain ⟨i, hi⟩ := u32_info
  rw [run_eql_struct, run_equalIn_array W 9999 _ _ Try.underlying24 hi, u32_cells]
  show Result.andThen ((Op.eqItems (9998 + 1) 22 1 _ _ [0, 1, 2, 3, 4, 5, 6, 7]).run Try.prog W) _ = _
  rw [items_step 9998 _ _ 0 _ x0 y0 W (by kernel_rfl) (by kernel_rfl)]
  rw [items_step 9998 _ _ 1 _ x1 y1 W (by kernel_rfl) (by kernel_rfl)]
  rw [items_step 9998 _ _ 2 _ x2 y2 W (by kernel_rfl) (by kernel_rfl)]
  rw [items_step 9998 _ _ 3 _ x3 y3 W (by kernel_rfl) (by kernel_rfl)]
  rw [items_step 9998 _ _ 4 _ x4 y4 W (by kernel_rfl) (by kernel_rfl)]
  rw [items_step 9998 _ _ 5 _ x5 y5 W (by kernel_rfl) (by kernel_rfl)]
  rw [items_step 9998 _ _ 6 _ x6 y6 W (by kernel_rfl) (by kernel_rfl)]
  rw [items_step 9998 _ _ 7 _ x7 y7 W (by kernel_rfl) (by kernel_rfl)]
  rw [show (Op.eqItems (9998 + 1) 22 1 (_ : Array Value) (_ : Array Value) []).run Try.prog W = Result.ok true W from rfl]
  generalize (x0 == y0) = b0
  generalize (x1 == y1) = b1
  generalize (x2 == y2) = b2
  generalize (x3 == y3) = b3
  generalize (x4 == y4) = b4
  generalize (x5 == y5) = b5
  generalize (x6 == y6) = b6
  generalize (x7 == y7) = b7
  cases b0 <;> cases b1 <;> cases b2 <;> cases b3 <;> cases b4 <;> cases b5 <;> cases b6 <;> cases b7 <;> rfl
def leB (x0 x1 x2 x3 x4 x5 x6 x7 y0 y1 y2 y3 y4 y5 y6 y7 : Int) : Bool := decide (x0 ≤ y0 ∧ x1 ≤ y1 ∧ x2 ≤ y2 ∧ x3 ≤ y3 ∧ x4 ≤ y4 ∧ x5 ≤ y5 ∧ x6 ≤ y6 ∧ x7 ≤ y7)
theorem leB_eq (x0 x1 x2 x3 x4 x5 x6 x7 y0 y1 y2 y3 y4 y5 y6 y7 : Int) : ((max x0 y0) == y0 && (max x1 y1) == y1 && (max x2 y2) == y2 && (max x3 y3) == y3 && (max x4 y4) == y4 && (max x5 y5) == y5 && (max x6 y6) == y6 && (max x7 y7) == y7) = leB x0 x1 x2 x3 x4 x5 x6 x7 y0 y1 y2 y3 y4 y5 y6 y7 := by
  rw [Bool.eq_iff_iff]
  simp only [leB, Bool.and_eq_true, beq_iff_eq, decide_eq_true_eq, and_assoc]
  omega
theorem ret_bb {a b : Bool} (h : a = b) : Ending.returned (.bool a) = .returned (.bool b) := by rw [h]
set_option maxHeartbeats 1600000 in
theorem vle (x0 x1 x2 x3 x4 x5 x6 x7 y0 y1 y2 y3 y4 y5 y6 y7 : Int) (w : World) :
    Calls Try.prog 14 #[.agg #[.int .u32 x0, .int .u32 x1, .int .u32 x2, .int .u32 x3, .int .u32 x4, .int .u32 x5, .int .u32 x6, .int .u32 x7], .agg #[.int .u32 y0, .int .u32 y1, .int .u32 y2, .int .u32 y3, .int .u32 y4, .int .u32 y5, .int .u32 y6, .int .u32 y7]] w fun e w' => e = .returned (.bool (leB x0 x1 x2 x3 x4 x5 x6 x7 y0 y1 y2 y3 y4 y5 y6 y7)) ∧ Below w.heap.size w w' := by
  have heq : ∀ W : World, (binOp .eql 24 (.agg #[.int .u32 (max x0 y0), .int .u32 (max x1 y1), .int .u32 (max x2 y2), .int .u32 (max x3 y3), .int .u32 (max x4 y4), .int .u32 (max x5 y5), .int .u32 (max x6 y6), .int .u32 (max x7 y7)]) (.agg #[.int .u32 y0, .int .u32 y1, .int .u32 y2, .int .u32 y3, .int .u32 y4, .int .u32 y5, .int .u32 y6, .int .u32 y7])).run Try.prog W = Result.ok (.bool (leB x0 x1 x2 x3 x4 x5 x6 x7 y0 y1 y2 y3 y4 y5 y6 y7)) W := fun W => by rw [vec_eq, leB_eq]
  go_enter Try.func14, Try.ntmps14
  go_wp2
  generalize hW : (w.alloc (.cells #[.int .u32 x0, .int .u32 x1, .int .u32 x2, .int .u32 x3, .int .u32 x4, .int .u32 x5, .int .u32 x6, .int .u32 x7] 24)).alloc (.cells #[.int .u32 y0, .int .u32 y1, .int .u32 y2, .int .u32 y3, .int .u32 y4, .int .u32 y5, .int .u32 y6, .int .u32 y7] 24) = W
  have hb : Below w.heap.size w W := by rw [← hW]; exact Joins.below_alloc2 w _ _
  have k0 := cell_regrown (w := W) (a := ⟨w.heap.size, 0, none⟩) (v := .int .u32 x0) (by rw [← hW]; simp)
  have l0 := cell_regrown (w := W) (a := ⟨w.heap.size + 1, 0, none⟩) (v := .int .u32 y0) (by rw [← hW]; simp)
  have k1 := cell_regrown (w := W) (a := ⟨w.heap.size, 1, none⟩) (v := .int .u32 x1) (by rw [← hW]; simp)
  have l1 := cell_regrown (w := W) (a := ⟨w.heap.size + 1, 1, none⟩) (v := .int .u32 y1) (by rw [← hW]; simp)
  have k2 := cell_regrown (w := W) (a := ⟨w.heap.size, 2, none⟩) (v := .int .u32 x2) (by rw [← hW]; simp)
  have l2 := cell_regrown (w := W) (a := ⟨w.heap.size + 1, 2, none⟩) (v := .int .u32 y2) (by rw [← hW]; simp)
  have k3 := cell_regrown (w := W) (a := ⟨w.heap.size, 3, none⟩) (v := .int .u32 x3) (by rw [← hW]; simp)
  have l3 := cell_regrown (w := W) (a := ⟨w.heap.size + 1, 3, none⟩) (v := .int .u32 y3) (by rw [← hW]; simp)
  have k4 := cell_regrown (w := W) (a := ⟨w.heap.size, 4, none⟩) (v := .int .u32 x4) (by rw [← hW]; simp)
  have l4 := cell_regrown (w := W) (a := ⟨w.heap.size + 1, 4, none⟩) (v := .int .u32 y4) (by rw [← hW]; simp)
  have k5 := cell_regrown (w := W) (a := ⟨w.heap.size, 5, none⟩) (v := .int .u32 x5) (by rw [← hW]; simp)
  have l5 := cell_regrown (w := W) (a := ⟨w.heap.size + 1, 5, none⟩) (v := .int .u32 y5) (by rw [← hW]; simp)
  have k6 := cell_regrown (w := W) (a := ⟨w.heap.size, 6, none⟩) (v := .int .u32 x6) (by rw [← hW]; simp)
  have l6 := cell_regrown (w := W) (a := ⟨w.heap.size + 1, 6, none⟩) (v := .int .u32 y6) (by rw [← hW]; simp)
  have k7 := cell_regrown (w := W) (a := ⟨w.heap.size, 7, none⟩) (v := .int .u32 x7) (by rw [← hW]; simp)
  have l7 := cell_regrown (w := W) (a := ⟨w.heap.size + 1, 7, none⟩) (v := .int .u32 y7) (by rw [← hW]; simp)
  clear hW
  refine wp_region_quiet_below (by kernel_rfl) (by kernel_rfl) ?_
  repeat (first | go_big_quiet_step ((exact Calls.regrown_of (vjoin x0 x1 x2 x3 x4 x5 x6 x7 y0 y1 y2 y3 y4 y5 y6 y7 _))) | quiet_step ((exact Calls.regrown_of (vjoin x0 x1 x2 x3 x4 x5 x6 x7 y0 y1 y2 y3 y4 y5 y6 y7 _))))
  refine wpQuiet_nil ?_
  intro _ hw'
  obtain ⟨⟨dq, osq⟩, hw''⟩ := hw'
  subst hw''
  go_wp2
  go_ret
  exact ⟨rfl, hb.trans ((below_regrown W dq osq).mono hb.size)⟩
end Go.Proofs.Ytofpefbnkmeokaa

/- Equality of vectors; contracts of vec.LE, vec.Total and of the reference's. -/
import Derived.Test.YtofpefbnkmeokaaDoorVec2
import Derived.ChangeKeysEq
import Derived.Deep.QuietTactic
import Derived.BigQuiet
import Derived.Lib.QuietBelow
namespace Go.Proofs.YtofpefbnkmeokaaDoor
open Go.RowKit
theorem items_step (d : Nat) (xs ys : Array Value) (i : Nat) (is : List Nat) (a b : Int) (W : World) (hx : (part 57 xs (i * 1)).run Tryd.prog W = Result.ok (.int .u32 a) W) (hy : (part 57 ys (i * 1)).run Tryd.prog W = Result.ok (.int .u32 b) W) :
    (Op.eqItems (d + 1) 57 1 xs ys (i :: is)).run Tryd.prog W = if (a == b) = true then (Op.eqItems (d + 1) 57 1 xs ys is).run Tryd.prog W else Result.ok false W := by
  simp only [Op.eqItems, Sem.run_bind, hx, hy, Result.andThen_ok, run_equalIn_int W d 57 .u32 .u32 a b Tryd.underlying57]
  cases (a == b) <;> rfl
theorem u32_some : (Tryd.prog.info? 57).isSome = true := by kernel_rfl
theorem u32_info : ∃ i, Tryd.prog.info? 57 = some i := Option.isSome_iff_exists.1 u32_some
theorem u32_cells : Tryd.prog.cellsOf 57 = 1 := by kernel_rfl
theorem vec_eq (x0 x1 x2 x3 x4 x5 x6 x7 y0 y1 y2 y3 y4 y5 y6 y7 : Int) (W : World) : (binOp .eql 84 (.agg #[.int .u32 x0, .int .u32 x1, .int .u32 x2, .int .u32 x3, .int .u32 x4, .int .u32 x5, .int .u32 x6, .int .u32 x7]) (.agg #[.int .u32 y0, .int .u32 y1, .int .u32 y2, .int .u32 y3, .int .u32 y4, .int .u32 y5, .int .u32 y6, .int .u32 y7])).run Tryd.prog W = Result.ok (.bool (x0 == y0 && x1 == y1 && x2 == y2 && x3 == y3 && x4 == y4 && x5 == y5 && x6 == y6 && x7 == y7)) W := by
  obtain ⟨i, hi⟩ := u32_info
  rw [run_eql_struct, run_equalIn_array W 9999 _ _ Tryd.underlying84 hi, u32_cells]
  show Result.andThen ((Op.eqItems (9998 + 1) 57 1 _ _ [0, 1, 2, 3, 4, 5, 6, 7]).run Tryd.prog W) _ = _
  rw [items_step 9998 _ _ 0 _ x0 y0 W (by kernel_rfl) (by kernel_rfl)]
  rw [items_step 9998 _ _ 1 _ x1 y1 W (by kernel_rfl) (by kernel_rfl)]
  rw [items_step 9998 _ _ 2 _ x2 y2 W (by kernel_rfl) (by kernel_rfl)]
  rw [items_step 9998 _ _ 3 _ x3 y3 W (by kernel_rfl) (by kernel_rfl)]
  rw [items_step 9998 _ _ 4 _ x4 y4 W (by kernel_rfl) (by kernel_rfl)]
  rw [items_step 9998 _ _ 5 _ x5 y5 W (by kernel_rfl) (by kernel_rfl)]
  rw [items_step 9998 _ _ 6 _ x6 y6 W (by kernel_rfl) (by kernel_rfl)]
  rw [items_step 9998 _ _ 7 _ x7 y7 W (by kernel_rfl) (by kernel_rfl)]
  rw [show (Op.eqItems (9998 + 1) 57 1 (_ : Array Value) (_ : Array Value) []).run Tryd.prog W = Result.ok true W from rfl]
  generalize (x0 == y0) = b0
  generalize (x1 == y1) = b1
  generalize (x2 == y2) = b2
  generalize (x3 == y3) = b3
  generalize (x4 == y4) = b4
  generalize (x5 == y5) = b5
  generalize (x6 == y6) = b6
  generalize (x7 == y7) = b7
  cases b0 <;> cases b1 <;> cases b2 <;> cases b3 <;> cases b4 <;> cases b5 <;> cases b6 <;> cases b7 <;> rfl
def leB (x0 x1 x2 x3 x4 x5 x6 x7 y0 y1 y2 y3 y4 y5 y6 y7 : Int) : Bool := decide (x0 ≤ y0 ∧ x1 ≤ y1 ∧ x2 ≤ y2 ∧ x3 ≤ y3 ∧ x4 ≤ y4 ∧ x5 ≤ y5 ∧ x6 ≤ y6 ∧ x7 ≤ y7)
theorem leB_eq (x0 x1 x2 x3 x4 x5 x6 x7 y0 y1 y2 y3 y4 y5 y6 y7 : Int) : ((max x0 y0) == y0 && (max x1 y1) == y1 && (max x2 y2) == y2 && (max x3 y3) == y3 && (max x4 y4) == y4 && (max x5 y5) == y5 && (max x6 y6) == y6 && (max x7 y7) == y7) = leB x0 x1 x2 x3 x4 x5 x6 x7 y0 y1 y2 y3 y4 y5 y6 y7 := by
  rw [Bool.eq_iff_iff]
  simp only [leB, Bool.and_eq_true, beq_iff_eq, decide_eq_true_eq, and_assoc]
  omega
theorem ret_bb {a b : Bool} (h : a = b) : Ending.returned (.bool a) = .returned (.bool b) := by rw [h]
end Go.Proofs.YtofpefbnkmeokaaDoor

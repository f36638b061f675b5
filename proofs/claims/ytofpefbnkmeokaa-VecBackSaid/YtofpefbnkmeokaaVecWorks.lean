/- The check of the first answers of package vec: works returns true. -/
import Derived.Test.YtofpefbnkmeokaaTake
import Derived.Test.YtofpefbnkmeokaaVec3
import Derived.Test.YtofpefbnkmeokaaVText2
namespace Go.Proofs.Ytofpefbnkmeokaa
open Go.RowKit
set_option linter.unusedVariables false
theorem text03 : textB (fun i => if i = 1 then 3 else 0) = ⟨#[48, 44, 51]⟩ := by
  have h : lng (fun i => (((if i = 1 then 3 else 0 : Nat)) : Int)) 8 = 2 := by decide
  unfold textB
  rw [h, if_neg (by omega)]
  simp [wrd, List.range_succ, digL_small, Lib.join_cons, Lib.joinTail]
set_option maxRecDepth 100000 in
set_option maxHeartbeats 1600000 in
theorem vworks (w : World) : Calls Try.prog 4 #[] w fun e w' => e = .returned (.bool true) ∧ Below w.heap.size w w' := by
  have A00 : ∀ W : World, Calls Try.prog 11 #[.agg #[.int .u32 0, .int .u32 2, .int .u32 0, .int .u32 0, .int .u32 0, .int .u32 0, .int .u32 0, .int .u32 0], .agg #[.int .i64 1, .int .u32 3]] W fun e w' => e = .returned (.tuple #[.agg #[.int .u32 0, .int .u32 3, .int .u32 0, .int .u32 0, .int .u32 0, .int .u32 0, .int .u32 0, .int .u32 0], .int .i64 0]) ∧ Below W.heap.size W w' := fun W =>
    (vtake 0 2 0 0 0 0 0 0 1 3 W (by omega) (by omega) (by omega) (by omega) (by omega) (by omega) (by omega) (by omega) (by omega)).mono (by rintro e w' ⟨rfl, h⟩; exact ⟨by rfl, h⟩)
  have A0 := Lib.hid A00
  clear A00
  have A10 : ∀ W : World, Calls Try.prog 11 #[.agg #[.int .u32 0, .int .u32 2, .int .u32 0, .int .u32 0, .int .u32 0, .int .u32 0, .int .u32 0, .int .u32 0], .agg #[.int .i64 1, .int .u32 4]] W fun e w' => e = .returned (.tuple #[.agg #[.int .u32 0, .int .u32 0, .int .u32 0, .int .u32 0, .int .u32 0, .int .u32 0, .int .u32 0, .int .u32 0], .int .i64 17]) ∧ Below W.heap.size W w' := fun W =>
    (vtake 0 2 0 0 0 0 0 0 1 4 W (by omega) (by omega) (by omega) (by omega) (by omega) (by omega) (by omega) (by omega) (by omega)).mono (by rintro e w' ⟨rfl, h⟩; exact ⟨by rfl, h⟩)
  have A1 := Lib.hid A10
  clear A10
  have A20 : ∀ W : World, Calls Try.prog 11 #[.agg #[.int .u32 0, .int .u32 2, .int .u32 0, .int .u32 0, .int .u32 0, .int .u32 0, .int .u32 0, .int .u32 0], .agg #[.int .i64 1, .int .u32 2]] W fun e w' => e = .returned (.tuple #[.agg #[.int .u32 0, .int .u32 0, .int .u32 0, .int .u32 0, .int .u32 0, .int .u32 0, .int .u32 0, .int .u32 0], .int .i64 11]) ∧ Below W.heap.size W w' := fun W =>
    (vtake 0 2 0 0 0 0 0 0 1 2 W (by omega) (by omega) (by omega) (by omega) (by omega) (by omega) (by omega) (by omega) (by omega)).mono (by rintro e w' ⟨rfl, h⟩; exact ⟨by rfl, h⟩)
  have A2 := Lib.hid A20
  clear A20
  have J0 : ∀ W : World, Calls Try.prog 12 #[.agg #[.int .u32 1, .int .u32 2, .int .u32 0, .int .u32 0, .int .u32 0, .int .u32 0, .int .u32 0, .int .u32 0], .agg #[.int .u32 3, .int .u32 0, .int .u32 0, .int .u32 0, .int .u32 0, .int .u32 0, .int .u32 0, .int .u32 0]] W fun e w' => e = .returned (.agg #[.int .u32 3, .int .u32 2, .int .u32 0, .int .u32 0, .int .u32 0, .int .u32 0, .int .u32 0, .int .u32 0]) ∧ Below W.heap.size W w' := fun W =>
    (vjoin 1 2 0 0 0 0 0 0 3 0 0 0 0 0 0 0 W).mono (by rintro e w' ⟨rfl, h⟩; exact ⟨by rfl, h⟩)
  have J := Lib.hid J0
  have T0 : ∀ W : World, Calls Try.prog 13 #[.agg #[.int .u32 0, .int .u32 3, .int .u32 0, .int .u32 0, .int .u32 0, .int .u32 0, .int .u32 0, .int .u32 0]] W fun e w' => e = .returned (.string ⟨#[48, 44, 51]⟩) ∧ Below W.heap.size W w' := fun W =>
    (vtext (fun i => if i = 1 then 3 else 0) W (by intro i; by_cases h : i = 1 <;> simp [h])).mono (by rintro e w' ⟨rfl, h⟩; exact ⟨ret_str text03, h⟩)
  have T := Lib.hid T0
  have L0 : ∀ W : World, Calls Try.prog 14 #[.agg #[.int .u32 0, .int .u32 0, .int .u32 0, .int .u32 0, .int .u32 0, .int .u32 0, .int .u32 0, .int .u32 0], .agg #[.int .u32 0, .int .u32 3, .int .u32 0, .int .u32 0, .int .u32 0, .int .u32 0, .int .u32 0, .int .u32 0]] W fun e w' => e = .returned (.bool true) ∧ Below W.heap.size W w' := fun W =>
    (vle 0 0 0 0 0 0 0 0 0 3 0 0 0 0 0 0 W).mono (by rintro e w' ⟨rfl, h⟩; exact ⟨by rfl, h⟩)
  have L1 : ∀ W : World, Calls Try.prog 14 #[.agg #[.int .u32 0, .int .u32 3, .int .u32 0, .int .u32 0, .int .u32 0, .int .u32 0, .int .u32 0, .int .u32 0], .agg #[.int .u32 0, .int .u32 0, .int .u32 0, .int .u32 0, .int .u32 0, .int .u32 0, .int .u32 0, .int .u32 0]] W fun e w' => e = .returned (.bool false) ∧ Below W.heap.size W w' := fun W =>
    (vle 0 3 0 0 0 0 0 0 0 0 0 0 0 0 0 0 W).mono (by rintro e w' ⟨rfl, h⟩; exact ⟨by rfl, h⟩)
  have LA := Lib.hid L0
  have LB := Lib.hid L1
  clear J0 T0 L0 L1
  have q1 : ∀ W : World, (binOp .eql 24 (.agg #[.int .u32 3, .int .u32 2, .int .u32 0, .int .u32 0, .int .u32 0, .int .u32 0, .int .u32 0, .int .u32 0]) (.agg #[.int .u32 3, .int .u32 2, .int .u32 0, .int .u32 0, .int .u32 0, .int .u32 0, .int .u32 0, .int .u32 0])).run Try.prog W = Result.ok (.bool true) W := fun W => by rw [vec_eq]; rfl
  have q2 : ∀ W : World, (binOp .eql 24 (.agg #[.int .u32 0, .int .u32 3, .int .u32 0, .int .u32 0, .int .u32 0, .int .u32 0, .int .u32 0, .int .u32 0]) (.agg #[.int .u32 0, .int .u32 3, .int .u32 0, .int .u32 0, .int .u32 0, .int .u32 0, .int .u32 0, .int .u32 0])).run Try.prog W = Result.ok (.bool true) W := fun W => by rw [vec_eq]; rfl
  go_enter Try.func4, Try.ntmps4
  go_wp2_with fail
  refine (A0.out _).mono ?_; rintro e w1 ⟨rfl, hb1⟩
  have HB1 := Lib.hid hb1
  clear hb1
  go_wp2_with fail
  refine (A1.out _).mono ?_; rintro e w2 ⟨rfl, hb2⟩
  have HX2 := Lib.hid ((Blk.new w1 24 #[.int .u32 0, .int .u32 3, .int .u32 0, .int .u32 0, .int .u32 0, .int .u32 0, .int .u32 0, .int .u32 0]).keep hb2)
  have HB2 := Lib.hid ((HB1.out.alloc HB1.out.size _).trans (hb2.mono (by have := HB1.out.size; simp; omega)))
  clear hb2
  go_wp2_with fail
  refine (A2.out _).mono ?_; rintro e w3 ⟨rfl, hb3⟩
  have HX3 := Lib.hid ((HX2.out.alloc (.cells #[.int .u32 0, .int .u32 0, .int .u32 0, .int .u32 0, .int .u32 0, .int .u32 0, .int .u32 0, .int .u32 0] 24)).keep hb3)
  have HB3 := Lib.hid ((HB2.out.alloc HB2.out.size _).trans (hb3.mono (by have := HB2.out.size; simp; omega)))
  clear hb3
  have HX4 := Lib.hid (HX3.out.alloc (.cells #[.int .u32 0, .int .u32 0, .int .u32 0, .int .u32 0, .int .u32 0, .int .u32 0, .int .u32 0, .int .u32 0] 24))
  have HB4 := Lib.hid (HB3.out.alloc HB3.out.size (.cells #[.int .u32 0, .int .u32 0, .int .u32 0, .int .u32 0, .int .u32 0, .int .u32 0, .int .u32 0, .int .u32 0] 24))
  go_wp2_with fail
  refine (J.out _).mono ?_; rintro e w5 ⟨rfl, hb5⟩
  have HX5 := Lib.hid (HX4.out.keep hb5)
  have HB5 := Lib.hid (HB4.out.trans (hb5.mono HB4.out.size))
  clear hb5
  have k0 := HX5.out.cell 0
  have k1 := HX5.out.cell 1
  have k2 := HX5.out.cell 2
  have k3 := HX5.out.cell 3
  have k4 := HX5.out.cell 4
  have k5 := HX5.out.cell 5
  have k6 := HX5.out.cell 6
  have k7 := HX5.out.cell 7
  simp at k0 k1 k2 k3 k4 k5 k6 k7
  go_wp2_with fail
  refine (T.out _).mono ?_; rintro e w6 ⟨rfl, hb6⟩
  have HX6 := Lib.hid (HX5.out.keep hb6)
  have HB6 := Lib.hid (HB5.out.trans (hb6.mono HB5.out.size))
  clear hb6
  clear k0 k1 k2 k3 k4 k5 k6 k7
  have k0 := HX6.out.cell 0
  have k1 := HX6.out.cell 1
  have k2 := HX6.out.cell 2
  have k3 := HX6.out.cell 3
  have k4 := HX6.out.cell 4
  have k5 := HX6.out.cell 5
  have k6 := HX6.out.cell 6
  have k7 := HX6.out.cell 7
  simp at k0 k1 k2 k3 k4 k5 k6 k7
  go_wp2_with fail
  refine (LA.out _).mono ?_; rintro e w7 ⟨rfl, hb7⟩
  have HX7 := Lib.hid (HX6.out.keep hb7)
  have HB7 := Lib.hid (HB6.out.trans (hb7.mono HB6.out.size))
  clear hb7
  clear k0 k1 k2 k3 k4 k5 k6 k7
  have k0 := HX7.out.cell 0
  have k1 := HX7.out.cell 1
  have k2 := HX7.out.cell 2
  have k3 := HX7.out.cell 3
  have k4 := HX7.out.cell 4
  have k5 := HX7.out.cell 5
  have k6 := HX7.out.cell 6
  have k7 := HX7.out.cell 7
  simp at k0 k1 k2 k3 k4 k5 k6 k7
  go_wp2_with fail
  refine (LB.out _).mono ?_; rintro e w8 ⟨rfl, hb8⟩
  have HX8 := Lib.hid (HX7.out.keep hb8)
  have HB8 := Lib.hid (HB7.out.trans (hb8.mono HB7.out.size))
  clear hb8
  clear k0 k1 k2 k3 k4 k5 k6 k7
  go_wp2
  go_ret
  exact ⟨rfl, HB8.out⟩
end Go.Proofs.Ytofpefbnkmeokaa

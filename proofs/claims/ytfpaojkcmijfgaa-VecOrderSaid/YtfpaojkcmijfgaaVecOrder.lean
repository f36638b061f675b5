/- The law VecOrder returns true for every input: LE is a partial order, Join and Meet are its bounds.
   Conditions: none beyond the row's own. -/
import Derived.Test.YtfpaojkcmijfgaaVecWorks
import Derived.Test.YtfpaojkcmijfgaaVec2
import Derived.Test.YtfpaojkcmijfgaaVec3
import Derived.Test.YtfpaojkcmijfgaaVecOpen
import Derived.Test.YtfpaojkcmijfgaaAgg
import Derived.Test.YtfpaojkcmijfgaaFrame
import Derived.Test.YtfpaojkcmijfgaaBox
import Derived.Test.YtfpaojkcmijfgaaLexQ
import Derived.Deep.CutRange
namespace Go.Proofs.Ytfpaojkcmijfgaa.lawVecOrder
open Go.ChangeShapes Go.WideShapes Go.ChangeAt Go.RowKit
open Go.ChangeMaps (open_string shut_string)
set_option linter.unusedVariables false
/-! ### The plain law. -/
theorem le_iff (a0 a1 a2 a3 a4 a5 a6 a7 b0 b1 b2 b3 b4 b5 b6 b7 : Int) : leB a0 a1 a2 a3 a4 a5 a6 a7 b0 b1 b2 b3 b4 b5 b6 b7 = true ↔ a0 ≤ b0 ∧ a1 ≤ b1 ∧ a2 ≤ b2 ∧ a3 ≤ b3 ∧ a4 ≤ b4 ∧ a5 ≤ b5 ∧ a6 ≤ b6 ∧ a7 ≤ b7 := by unfold leB; simp
theorem le_join1 (a0 a1 a2 a3 a4 a5 a6 a7 b0 b1 b2 b3 b4 b5 b6 b7 : Int) : leB a0 a1 a2 a3 a4 a5 a6 a7 (max a0 b0) (max a1 b1) (max a2 b2) (max a3 b3) (max a4 b4) (max a5 b5) (max a6 b6) (max a7 b7) = true := by rw [le_iff]; omega
theorem le_join2 (a0 a1 a2 a3 a4 a5 a6 a7 b0 b1 b2 b3 b4 b5 b6 b7 : Int) : leB b0 b1 b2 b3 b4 b5 b6 b7 (max a0 b0) (max a1 b1) (max a2 b2) (max a3 b3) (max a4 b4) (max a5 b5) (max a6 b6) (max a7 b7) = true := by rw [le_iff]; omega
theorem le_meet1 (a0 a1 a2 a3 a4 a5 a6 a7 b0 b1 b2 b3 b4 b5 b6 b7 : Int) : leB (min a0 b0) (min a1 b1) (min a2 b2) (min a3 b3) (min a4 b4) (min a5 b5) (min a6 b6) (min a7 b7) a0 a1 a2 a3 a4 a5 a6 a7 = true := by rw [le_iff]; omega
theorem le_meet2 (a0 a1 a2 a3 a4 a5 a6 a7 b0 b1 b2 b3 b4 b5 b6 b7 : Int) : leB (min a0 b0) (min a1 b1) (min a2 b2) (min a3 b3) (min a4 b4) (min a5 b5) (min a6 b6) (min a7 b7) b0 b1 b2 b3 b4 b5 b6 b7 = true := by rw [le_iff]; omega
theorem le_self (a0 a1 a2 a3 a4 a5 a6 a7 : Int) : leB a0 a1 a2 a3 a4 a5 a6 a7 a0 a1 a2 a3 a4 a5 a6 a7 = true := by rw [le_iff]; omega
theorem le_least (a0 a1 a2 a3 a4 a5 a6 a7 b0 b1 b2 b3 b4 b5 b6 b7 c0 c1 c2 c3 c4 c5 c6 c7 : Int) (h1 : leB a0 a1 a2 a3 a4 a5 a6 a7 c0 c1 c2 c3 c4 c5 c6 c7 = true) (h2 : leB b0 b1 b2 b3 b4 b5 b6 b7 c0 c1 c2 c3 c4 c5 c6 c7 = true) : leB (max a0 b0) (max a1 b1) (max a2 b2) (max a3 b3) (max a4 b4) (max a5 b5) (max a6 b6) (max a7 b7) c0 c1 c2 c3 c4 c5 c6 c7 = true := by rw [le_iff] at *; omega
theorem le_greatest (a0 a1 a2 a3 a4 a5 a6 a7 b0 b1 b2 b3 b4 b5 b6 b7 c0 c1 c2 c3 c4 c5 c6 c7 : Int) (h1 : leB c0 c1 c2 c3 c4 c5 c6 c7 a0 a1 a2 a3 a4 a5 a6 a7 = true) (h2 : leB c0 c1 c2 c3 c4 c5 c6 c7 b0 b1 b2 b3 b4 b5 b6 b7 = true) : leB c0 c1 c2 c3 c4 c5 c6 c7 (min a0 b0) (min a1 b1) (min a2 b2) (min a3 b3) (min a4 b4) (min a5 b5) (min a6 b6) (min a7 b7) = true := by rw [le_iff] at *; omega
theorem le_trans (a0 a1 a2 a3 a4 a5 a6 a7 b0 b1 b2 b3 b4 b5 b6 b7 c0 c1 c2 c3 c4 c5 c6 c7 : Int) (h1 : leB a0 a1 a2 a3 a4 a5 a6 a7 b0 b1 b2 b3 b4 b5 b6 b7 = true) (h2 : leB b0 b1 b2 b3 b4 b5 b6 b7 c0 c1 c2 c3 c4 c5 c6 c7 = true) : leB a0 a1 a2 a3 a4 a5 a6 a7 c0 c1 c2 c3 c4 c5 c6 c7 = true := by rw [le_iff] at *; omega
theorem le_anti (a0 a1 a2 a3 a4 a5 a6 a7 b0 b1 b2 b3 b4 b5 b6 b7 : Int) : (leB a0 a1 a2 a3 a4 a5 a6 a7 b0 b1 b2 b3 b4 b5 b6 b7 && leB b0 b1 b2 b3 b4 b5 b6 b7 a0 a1 a2 a3 a4 a5 a6 a7) = (a0 == b0 && a1 == b1 && a2 == b2 && a3 == b3 && a4 == b4 && a5 == b5 && a6 == b6 && a7 == b7) := by
  rw [Bool.eq_iff_iff, Bool.and_eq_true, le_iff, le_iff]
  simp only [Bool.and_eq_true, beq_iff_eq]
  omega
set_option maxRecDepth 100000 in
set_option maxHeartbeats 12800000 in
theorem walk (a0 a1 a2 a3 a4 a5 a6 a7 b0 b1 b2 b3 b4 b5 b6 b7 c0 c1 c2 c3 c4 c5 c6 c7 : Int) (w : World) (ha0 : (Lit.int .u32 a0).wf = true) (ha1 : (Lit.int .u32 a1).wf = true) (ha2 : (Lit.int .u32 a2).wf = true) (ha3 : (Lit.int .u32 a3).wf = true) (ha4 : (Lit.int .u32 a4).wf = true) (ha5 : (Lit.int .u32 a5).wf = true) (ha6 : (Lit.int .u32 a6).wf = true) (ha7 : (Lit.int .u32 a7).wf = true) (hb0 : (Lit.int .u32 b0).wf = true) (hb1 : (Lit.int .u32 b1).wf = true) (hb2 : (Lit.int .u32 b2).wf = true) (hb3 : (Lit.int .u32 b3).wf = true) (hb4 : (Lit.int .u32 b4).wf = true) (hb5 : (Lit.int .u32 b5).wf = true) (hb6 : (Lit.int .u32 b6).wf = true) (hb7 : (Lit.int .u32 b7).wf = true) (hc0 : (Lit.int .u32 c0).wf = true) (hc1 : (Lit.int .u32 c1).wf = true) (hc2 : (Lit.int .u32 c2).wf = true) (hc3 : (Lit.int .u32 c3).wf = true) (hc4 : (Lit.int .u32 c4).wf = true) (hc5 : (Lit.int .u32 c5).wf = true) (hc6 : (Lit.int .u32 c6).wf = true) (hc7 : (Lit.int .u32 c7).wf = true) :
    Calls Try.prog 9 #[.agg #[.int .u32 a0, .int .u32 a1, .int .u32 a2, .int .u32 a3, .int .u32 a4, .int .u32 a5, .int .u32 a6, .int .u32 a7], .agg #[.int .u32 b0, .int .u32 b1, .int .u32 b2, .int .u32 b3, .int .u32 b4, .int .u32 b5, .int .u32 b6, .int .u32 b7], .agg #[.int .u32 c0, .int .u32 c1, .int .u32 c2, .int .u32 c3, .int .u32 c4, .int .u32 c5, .int .u32 c6, .int .u32 c7]] w fun e w' => e = .returned (.bool true) ∧ Below w.heap.size w w' := by
  clear ha0 ha1 ha2 ha3 ha4 ha5 ha6 ha7 hb0 hb1 hb2 hb3 hb4 hb5 hb6 hb7 hc0 hc1 hc2 hc3 hc4 hc5 hc6 hc7
  have L10 : ∀ W : World, Calls Try.prog 40 #[.agg #[.int .u32 a0, .int .u32 a1, .int .u32 a2, .int .u32 a3, .int .u32 a4, .int .u32 a5, .int .u32 a6, .int .u32 a7], .agg #[.int .u32 (max a0 b0), .int .u32 (max a1 b1), .int .u32 (max a2 b2), .int .u32 (max a3 b3), .int .u32 (max a4 b4), .int .u32 (max a5 b5), .int .u32 (max a6 b6), .int .u32 (max a7 b7)]] W fun e w' => e = .returned (.bool true) ∧ Below W.heap.size W w' := fun W =>
    (vle a0 a1 a2 a3 a4 a5 a6 a7 (max a0 b0) (max a1 b1) (max a2 b2) (max a3 b3) (max a4 b4) (max a5 b5) (max a6 b6) (max a7 b7) W).mono (by rintro e w' ⟨rfl, h⟩; exact ⟨ret_bb (le_join1 a0 a1 a2 a3 a4 a5 a6 a7 b0 b1 b2 b3 b4 b5 b6 b7), h⟩)
  have L1 := Lib.hid L10
  clear L10
  have L20 : ∀ W : World, Calls Try.prog 40 #[.agg #[.int .u32 b0, .int .u32 b1, .int .u32 b2, .int .u32 b3, .int .u32 b4, .int .u32 b5, .int .u32 b6, .int .u32 b7], .agg #[.int .u32 (max a0 b0), .int .u32 (max a1 b1), .int .u32 (max a2 b2), .int .u32 (max a3 b3), .int .u32 (max a4 b4), .int .u32 (max a5 b5), .int .u32 (max a6 b6), .int .u32 (max a7 b7)]] W fun e w' => e = .returned (.bool true) ∧ Below W.heap.size W w' := fun W =>
    (vle b0 b1 b2 b3 b4 b5 b6 b7 (max a0 b0) (max a1 b1) (max a2 b2) (max a3 b3) (max a4 b4) (max a5 b5) (max a6 b6) (max a7 b7) W).mono (by rintro e w' ⟨rfl, h⟩; exact ⟨ret_bb (le_join2 a0 a1 a2 a3 a4 a5 a6 a7 b0 b1 b2 b3 b4 b5 b6 b7), h⟩)
  have L2 := Lib.hid L20
  clear L20
  have L30 : ∀ W : World, Calls Try.prog 40 #[.agg #[.int .u32 (min a0 b0), .int .u32 (min a1 b1), .int .u32 (min a2 b2), .int .u32 (min a3 b3), .int .u32 (min a4 b4), .int .u32 (min a5 b5), .int .u32 (min a6 b6), .int .u32 (min a7 b7)], .agg #[.int .u32 a0, .int .u32 a1, .int .u32 a2, .int .u32 a3, .int .u32 a4, .int .u32 a5, .int .u32 a6, .int .u32 a7]] W fun e w' => e = .returned (.bool true) ∧ Below W.heap.size W w' := fun W =>
    (vle (min a0 b0) (min a1 b1) (min a2 b2) (min a3 b3) (min a4 b4) (min a5 b5) (min a6 b6) (min a7 b7) a0 a1 a2 a3 a4 a5 a6 a7 W).mono (by rintro e w' ⟨rfl, h⟩; exact ⟨ret_bb (le_meet1 a0 a1 a2 a3 a4 a5 a6 a7 b0 b1 b2 b3 b4 b5 b6 b7), h⟩)
  have L3 := Lib.hid L30
  clear L30
  have L40 : ∀ W : World, Calls Try.prog 40 #[.agg #[.int .u32 (min a0 b0), .int .u32 (min a1 b1), .int .u32 (min a2 b2), .int .u32 (min a3 b3), .int .u32 (min a4 b4), .int .u32 (min a5 b5), .int .u32 (min a6 b6), .int .u32 (min a7 b7)], .agg #[.int .u32 b0, .int .u32 b1, .int .u32 b2, .int .u32 b3, .int .u32 b4, .int .u32 b5, .int .u32 b6, .int .u32 b7]] W fun e w' => e = .returned (.bool true) ∧ Below W.heap.size W w' := fun W =>
    (vle (min a0 b0) (min a1 b1) (min a2 b2) (min a3 b3) (min a4 b4) (min a5 b5) (min a6 b6) (min a7 b7) b0 b1 b2 b3 b4 b5 b6 b7 W).mono (by rintro e w' ⟨rfl, h⟩; exact ⟨ret_bb (le_meet2 a0 a1 a2 a3 a4 a5 a6 a7 b0 b1 b2 b3 b4 b5 b6 b7), h⟩)
  have L4 := Lib.hid L40
  clear L40
  have L50 : ∀ W : World, Calls Try.prog 40 #[.agg #[.int .u32 a0, .int .u32 a1, .int .u32 a2, .int .u32 a3, .int .u32 a4, .int .u32 a5, .int .u32 a6, .int .u32 a7], .agg #[.int .u32 a0, .int .u32 a1, .int .u32 a2, .int .u32 a3, .int .u32 a4, .int .u32 a5, .int .u32 a6, .int .u32 a7]] W fun e w' => e = .returned (.bool true) ∧ Below W.heap.size W w' := fun W =>
    (vle a0 a1 a2 a3 a4 a5 a6 a7 a0 a1 a2 a3 a4 a5 a6 a7 W).mono (by rintro e w' ⟨rfl, h⟩; exact ⟨ret_bb (le_self a0 a1 a2 a3 a4 a5 a6 a7), h⟩)
  have L5 := Lib.hid L50
  clear L50
  obtain ⟨p, hp⟩ : ∃ x, leB a0 a1 a2 a3 a4 a5 a6 a7 c0 c1 c2 c3 c4 c5 c6 c7 = x := ⟨_, rfl⟩
  have Dp0 : ∀ W : World, Calls Try.prog 40 #[.agg #[.int .u32 a0, .int .u32 a1, .int .u32 a2, .int .u32 a3, .int .u32 a4, .int .u32 a5, .int .u32 a6, .int .u32 a7], .agg #[.int .u32 c0, .int .u32 c1, .int .u32 c2, .int .u32 c3, .int .u32 c4, .int .u32 c5, .int .u32 c6, .int .u32 c7]] W fun e w' => e = .returned (.bool p) ∧ Below W.heap.size W w' := fun W =>
    (vle a0 a1 a2 a3 a4 a5 a6 a7 c0 c1 c2 c3 c4 c5 c6 c7 W).mono (by rintro e w' ⟨rfl, h⟩; exact ⟨ret_bb hp, h⟩)
  have Dp := Lib.hid Dp0
  clear Dp0
  obtain ⟨q, hq⟩ : ∃ x, leB b0 b1 b2 b3 b4 b5 b6 b7 c0 c1 c2 c3 c4 c5 c6 c7 = x := ⟨_, rfl⟩
  have Dq0 : ∀ W : World, Calls Try.prog 40 #[.agg #[.int .u32 b0, .int .u32 b1, .int .u32 b2, .int .u32 b3, .int .u32 b4, .int .u32 b5, .int .u32 b6, .int .u32 b7], .agg #[.int .u32 c0, .int .u32 c1, .int .u32 c2, .int .u32 c3, .int .u32 c4, .int .u32 c5, .int .u32 c6, .int .u32 c7]] W fun e w' => e = .returned (.bool q) ∧ Below W.heap.size W w' := fun W =>
    (vle b0 b1 b2 b3 b4 b5 b6 b7 c0 c1 c2 c3 c4 c5 c6 c7 W).mono (by rintro e w' ⟨rfl, h⟩; exact ⟨ret_bb hq, h⟩)
  have Dq := Lib.hid Dq0
  clear Dq0
  obtain ⟨j, hj⟩ : ∃ x, leB (max a0 b0) (max a1 b1) (max a2 b2) (max a3 b3) (max a4 b4) (max a5 b5) (max a6 b6) (max a7 b7) c0 c1 c2 c3 c4 c5 c6 c7 = x := ⟨_, rfl⟩
  have Dj0 : ∀ W : World, Calls Try.prog 40 #[.agg #[.int .u32 (max a0 b0), .int .u32 (max a1 b1), .int .u32 (max a2 b2), .int .u32 (max a3 b3), .int .u32 (max a4 b4), .int .u32 (max a5 b5), .int .u32 (max a6 b6), .int .u32 (max a7 b7)], .agg #[.int .u32 c0, .int .u32 c1, .int .u32 c2, .int .u32 c3, .int .u32 c4, .int .u32 c5, .int .u32 c6, .int .u32 c7]] W fun e w' => e = .returned (.bool j) ∧ Below W.heap.size W w' := fun W =>
    (vle (max a0 b0) (max a1 b1) (max a2 b2) (max a3 b3) (max a4 b4) (max a5 b5) (max a6 b6) (max a7 b7) c0 c1 c2 c3 c4 c5 c6 c7 W).mono (by rintro e w' ⟨rfl, h⟩; exact ⟨ret_bb hj, h⟩)
  have Dj := Lib.hid Dj0
  clear Dj0
  obtain ⟨r, hr⟩ : ∃ x, leB c0 c1 c2 c3 c4 c5 c6 c7 a0 a1 a2 a3 a4 a5 a6 a7 = x := ⟨_, rfl⟩
  have Dr0 : ∀ W : World, Calls Try.prog 40 #[.agg #[.int .u32 c0, .int .u32 c1, .int .u32 c2, .int .u32 c3, .int .u32 c4, .int .u32 c5, .int .u32 c6, .int .u32 c7], .agg #[.int .u32 a0, .int .u32 a1, .int .u32 a2, .int .u32 a3, .int .u32 a4, .int .u32 a5, .int .u32 a6, .int .u32 a7]] W fun e w' => e = .returned (.bool r) ∧ Below W.heap.size W w' := fun W =>
    (vle c0 c1 c2 c3 c4 c5 c6 c7 a0 a1 a2 a3 a4 a5 a6 a7 W).mono (by rintro e w' ⟨rfl, h⟩; exact ⟨ret_bb hr, h⟩)
  have Dr := Lib.hid Dr0
  clear Dr0
  obtain ⟨s, hs⟩ : ∃ x, leB c0 c1 c2 c3 c4 c5 c6 c7 b0 b1 b2 b3 b4 b5 b6 b7 = x := ⟨_, rfl⟩
  have Ds0 : ∀ W : World, Calls Try.prog 40 #[.agg #[.int .u32 c0, .int .u32 c1, .int .u32 c2, .int .u32 c3, .int .u32 c4, .int .u32 c5, .int .u32 c6, .int .u32 c7], .agg #[.int .u32 b0, .int .u32 b1, .int .u32 b2, .int .u32 b3, .int .u32 b4, .int .u32 b5, .int .u32 b6, .int .u32 b7]] W fun e w' => e = .returned (.bool s) ∧ Below W.heap.size W w' := fun W =>
    (vle c0 c1 c2 c3 c4 c5 c6 c7 b0 b1 b2 b3 b4 b5 b6 b7 W).mono (by rintro e w' ⟨rfl, h⟩; exact ⟨ret_bb hs, h⟩)
  have Ds := Lib.hid Ds0
  clear Ds0
  obtain ⟨m, hm⟩ : ∃ x, leB c0 c1 c2 c3 c4 c5 c6 c7 (min a0 b0) (min a1 b1) (min a2 b2) (min a3 b3) (min a4 b4) (min a5 b5) (min a6 b6) (min a7 b7) = x := ⟨_, rfl⟩
  have Dm0 : ∀ W : World, Calls Try.prog 40 #[.agg #[.int .u32 c0, .int .u32 c1, .int .u32 c2, .int .u32 c3, .int .u32 c4, .int .u32 c5, .int .u32 c6, .int .u32 c7], .agg #[.int .u32 (min a0 b0), .int .u32 (min a1 b1), .int .u32 (min a2 b2), .int .u32 (min a3 b3), .int .u32 (min a4 b4), .int .u32 (min a5 b5), .int .u32 (min a6 b6), .int .u32 (min a7 b7)]] W fun e w' => e = .returned (.bool m) ∧ Below W.heap.size W w' := fun W =>
    (vle c0 c1 c2 c3 c4 c5 c6 c7 (min a0 b0) (min a1 b1) (min a2 b2) (min a3 b3) (min a4 b4) (min a5 b5) (min a6 b6) (min a7 b7) W).mono (by rintro e w' ⟨rfl, h⟩; exact ⟨ret_bb hm, h⟩)
  have Dm := Lib.hid Dm0
  clear Dm0
  obtain ⟨t, ht⟩ : ∃ x, leB a0 a1 a2 a3 a4 a5 a6 a7 b0 b1 b2 b3 b4 b5 b6 b7 = x := ⟨_, rfl⟩
  have Dt0 : ∀ W : World, Calls Try.prog 40 #[.agg #[.int .u32 a0, .int .u32 a1, .int .u32 a2, .int .u32 a3, .int .u32 a4, .int .u32 a5, .int .u32 a6, .int .u32 a7], .agg #[.int .u32 b0, .int .u32 b1, .int .u32 b2, .int .u32 b3, .int .u32 b4, .int .u32 b5, .int .u32 b6, .int .u32 b7]] W fun e w' => e = .returned (.bool t) ∧ Below W.heap.size W w' := fun W =>
    (vle a0 a1 a2 a3 a4 a5 a6 a7 b0 b1 b2 b3 b4 b5 b6 b7 W).mono (by rintro e w' ⟨rfl, h⟩; exact ⟨ret_bb ht, h⟩)
  have Dt := Lib.hid Dt0
  clear Dt0
  obtain ⟨u, hu⟩ : ∃ x, leB b0 b1 b2 b3 b4 b5 b6 b7 a0 a1 a2 a3 a4 a5 a6 a7 = x := ⟨_, rfl⟩
  have Du0 : ∀ W : World, Calls Try.prog 40 #[.agg #[.int .u32 b0, .int .u32 b1, .int .u32 b2, .int .u32 b3, .int .u32 b4, .int .u32 b5, .int .u32 b6, .int .u32 b7], .agg #[.int .u32 a0, .int .u32 a1, .int .u32 a2, .int .u32 a3, .int .u32 a4, .int .u32 a5, .int .u32 a6, .int .u32 a7]] W fun e w' => e = .returned (.bool u) ∧ Below W.heap.size W w' := fun W =>
    (vle b0 b1 b2 b3 b4 b5 b6 b7 a0 a1 a2 a3 a4 a5 a6 a7 W).mono (by rintro e w' ⟨rfl, h⟩; exact ⟨ret_bb hu, h⟩)
  have Du := Lib.hid Du0
  clear Du0
  have HJ := Lib.hid (show p = true → q = true → j = true by rw [← hp, ← hq, ← hj]; exact le_least a0 a1 a2 a3 a4 a5 a6 a7 b0 b1 b2 b3 b4 b5 b6 b7 c0 c1 c2 c3 c4 c5 c6 c7)
  have HM := Lib.hid (show r = true → s = true → m = true by rw [← hr, ← hs, ← hm]; exact le_greatest a0 a1 a2 a3 a4 a5 a6 a7 b0 b1 b2 b3 b4 b5 b6 b7 c0 c1 c2 c3 c4 c5 c6 c7)
  have HT := Lib.hid (show t = true → q = true → p = true by rw [← ht, ← hq, ← hp]; exact le_trans a0 a1 a2 a3 a4 a5 a6 a7 b0 b1 b2 b3 b4 b5 b6 b7 c0 c1 c2 c3 c4 c5 c6 c7)
  have heq : ∀ W : World, (binOp .eql 64 (.agg #[.int .u32 a0, .int .u32 a1, .int .u32 a2, .int .u32 a3, .int .u32 a4, .int .u32 a5, .int .u32 a6, .int .u32 a7]) (.agg #[.int .u32 b0, .int .u32 b1, .int .u32 b2, .int .u32 b3, .int .u32 b4, .int .u32 b5, .int .u32 b6, .int .u32 b7])).run Try.prog W = Result.ok (.bool (t && u)) W := fun W => by rw [vec_eq, ← le_anti, ht, hu]
  have HE := Lib.hid heq
  have DJ := Lib.hid (fun W => vjoin a0 a1 a2 a3 a4 a5 a6 a7 b0 b1 b2 b3 b4 b5 b6 b7 W)
  have DM := Lib.hid (fun W => vmeet a0 a1 a2 a3 a4 a5 a6 a7 b0 b1 b2 b3 b4 b5 b6 b7 W)
  clear heq hp hq hj hr hs hm ht hu
  go_enter Try.func9, Try.ntmps9
  go_wp2_with fail
  have HA0 := Lib.hid (((Blk.new w 64 #[.int .u32 a0, .int .u32 a1, .int .u32 a2, .int .u32 a3, .int .u32 a4, .int .u32 a5, .int .u32 a6, .int .u32 a7]).alloc (.cells #[.int .u32 b0, .int .u32 b1, .int .u32 b2, .int .u32 b3, .int .u32 b4, .int .u32 b5, .int .u32 b6, .int .u32 b7] 64)).alloc (.cells #[.int .u32 c0, .int .u32 c1, .int .u32 c2, .int .u32 c3, .int .u32 c4, .int .u32 c5, .int .u32 c6, .int .u32 c7] 64))
  have HB0 : Hid (Blk _ (w.heap.size + 1) 64 #[.int .u32 b0, .int .u32 b1, .int .u32 b2, .int .u32 b3, .int .u32 b4, .int .u32 b5, .int .u32 b6, .int .u32 b7]) := Lib.hid ((blk_at2 (w := w.alloc (.cells #[.int .u32 a0, .int .u32 a1, .int .u32 a2, .int .u32 a3, .int .u32 a4, .int .u32 a5, .int .u32 a6, .int .u32 a7] 64)) (by simp) _ _).alloc (.cells #[.int .u32 c0, .int .u32 c1, .int .u32 c2, .int .u32 c3, .int .u32 c4, .int .u32 c5, .int .u32 c6, .int .u32 c7] 64))
  have HC0 : Hid (Blk _ (w.heap.size + 1 + 1) 64 #[.int .u32 c0, .int .u32 c1, .int .u32 c2, .int .u32 c3, .int .u32 c4, .int .u32 c5, .int .u32 c6, .int .u32 c7]) := Lib.hid (blk_at2 (w := (w.alloc (.cells #[.int .u32 a0, .int .u32 a1, .int .u32 a2, .int .u32 a3, .int .u32 a4, .int .u32 a5, .int .u32 a6, .int .u32 a7] 64)).alloc (.cells #[.int .u32 b0, .int .u32 b1, .int .u32 b2, .int .u32 b3, .int .u32 b4, .int .u32 b5, .int .u32 b6, .int .u32 b7] 64)) (by simp) _ _)
  have HW0 := Lib.hid (Joins.below_alloc3 w (.cells #[.int .u32 a0, .int .u32 a1, .int .u32 a2, .int .u32 a3, .int .u32 a4, .int .u32 a5, .int .u32 a6, .int .u32 a7] 64) (.cells #[.int .u32 b0, .int .u32 b1, .int .u32 b2, .int .u32 b3, .int .u32 b4, .int .u32 b5, .int .u32 b6, .int .u32 b7] 64) (.cells #[.int .u32 c0, .int .u32 c1, .int .u32 c2, .int .u32 c3, .int .u32 c4, .int .u32 c5, .int .u32 c6, .int .u32 c7] 64))
  refine (vworks _).mono ?_; rintro e W ⟨rfl, hb1⟩
  have HA := Lib.hid (HA0.out.keep hb1)
  have HB := Lib.hid (HB0.out.keep hb1)
  have HC := Lib.hid (HC0.out.keep hb1)
  have HW := Lib.hid (HW0.out.trans (hb1.mono HW0.out.size))
  clear hb1 HA0 HB0 HC0 HW0
  have x0 := HA.out.cell 0
  have x1 := HA.out.cell 1
  have x2 := HA.out.cell 2
  have x3 := HA.out.cell 3
  have x4 := HA.out.cell 4
  have x5 := HA.out.cell 5
  have x6 := HA.out.cell 6
  have x7 := HA.out.cell 7
  simp at x0 x1 x2 x3 x4 x5 x6 x7
  have y0 := HB.out.cell 0
  have y1 := HB.out.cell 1
  have y2 := HB.out.cell 2
  have y3 := HB.out.cell 3
  have y4 := HB.out.cell 4
  have y5 := HB.out.cell 5
  have y6 := HB.out.cell 6
  have y7 := HB.out.cell 7
  simp at y0 y1 y2 y3 y4 y5 y6 y7
  go_wp2_with fail
  refine wp_region_box [⟨6, 8, 7, 64, #[.int .u32 0, .int .u32 0, .int .u32 0, .int .u32 0, .int .u32 0, .int .u32 0, .int .u32 0, .int .u32 0], #[.int .u32 (max a0 b0), .int .u32 (max a1 b1), .int .u32 (max a2 b2), .int .u32 (max a3 b3), .int .u32 (max a4 b4), .int .u32 (max a5 b5), .int .u32 (max a6 b6), .int .u32 (max a7 b7)]⟩, ⟨7, 9, 8, 64, #[.int .u32 0, .int .u32 0, .int .u32 0, .int .u32 0, .int .u32 0, .int .u32 0, .int .u32 0, .int .u32 0], #[.int .u32 (min a0 b0), .int .u32 (min a1 b1), .int .u32 (min a2 b2), .int .u32 (min a3 b3), .int .u32 (min a4 b4), .int .u32 (min a5 b5), .int .u32 (min a6 b6), .int .u32 (min a7 b7)]⟩] (by kernel_rfl) (by kernel_rfl) (by simp) (by simp) ?_
  apply Exists.intro
  refine ⟨?_, ?_, ?_⟩
  · intro WB hWB
    have cb0 := cellW x0 hWB
    have cb1 := cellW x1 hWB
    have cb2 := cellW x2 hWB
    have cb3 := cellW x3 hWB
    have cb4 := cellW x4 hWB
    have cb5 := cellW x5 hWB
    have cb6 := cellW x6 hWB
    have cb7 := cellW x7 hWB
    have cb8 := cellW y0 hWB
    have cb9 := cellW y1 hWB
    have cb10 := cellW y2 hWB
    have cb11 := cellW y3 hWB
    have cb12 := cellW y4 hWB
    have cb13 := cellW y5 hWB
    have cb14 := cellW y6 hWB
    have cb15 := cellW y7 hWB
    simp only [List.map_cons, List.map_nil, neut]
    repeat (first | go_big_quiet_step ((first | with_reducible exact Calls.regrown_of (DJ.out _) | with_reducible exact Calls.regrown_of (DM.out _))) | quiet_step ((first | with_reducible exact Calls.regrown_of (DJ.out _) | with_reducible exact Calls.regrown_of (DM.out _))))
    exact rfl
  · intro b hb
    simp only [List.mem_cons, List.mem_nil_iff, or_false] at hb
    rcases hb with rfl | rfl
    · refine ⟨⟨_, rfl, rfl, rfl, fun a W => by kernel_rfl⟩, by simp, Or.inl ⟨_, rfl, rfl, rfl, by kernel_rfl, fun V g h => ?_⟩⟩
      have HX : Blk V g 64 #[.int .u32 0, .int .u32 0, .int .u32 0, .int .u32 0, .int .u32 0, .int .u32 0, .int .u32 0, .int .u32 0] := h
      have z0 := HX.cell 0
      have z1 := HX.cell 1
      have z2 := HX.cell 2
      have z3 := HX.cell 3
      have z4 := HX.cell 4
      have z5 := HX.cell 5
      have z6 := HX.cell 6
      have z7 := HX.cell 7
      have y0 := HX.frozen 0
      have y1 := HX.frozen 1
      have y2 := HX.frozen 2
      have y3 := HX.frozen 3
      have y4 := HX.frozen 4
      have y5 := HX.frozen 5
      have y6 := HX.frozen 6
      have y7 := HX.frozen 7
      simp at z0 z1 z2 z3 z4 z5 z6 z7
      refine ⟨((((((((V.setCell ⟨g, 0, none⟩ (.int .u32 (max a0 b0))).setCell ⟨g, 1, none⟩ (.int .u32 (max a1 b1))).setCell ⟨g, 2, none⟩ (.int .u32 (max a2 b2))).setCell ⟨g, 3, none⟩ (.int .u32 (max a3 b3))).setCell ⟨g, 4, none⟩ (.int .u32 (max a4 b4))).setCell ⟨g, 5, none⟩ (.int .u32 (max a5 b5))).setCell ⟨g, 6, none⟩ (.int .u32 (max a6 b6))).setCell ⟨g, 7, none⟩ (.int .u32 (max a7 b7))), ?_, ((((((((HX.set_ 0 (.int .u32 (max a0 b0))).set_ 1 (.int .u32 (max a1 b1))).set_ 2 (.int .u32 (max a2 b2))).set_ 3 (.int .u32 (max a3 b3))).set_ 4 (.int .u32 (max a4 b4))).set_ 5 (.int .u32 (max a5 b5))).set_ 6 (.int .u32 (max a6 b6))).set_ 7 (.int .u32 (max a7 b7))), (grownB_set (grownB_set (grownB_set (grownB_set (grownB_set (grownB_set (grownB_set (grownB_set (grownB_refl _ _) (.int .u32 (max a0 b0))) (.int .u32 (max a1 b1))) (.int .u32 (max a2 b2))) (.int .u32 (max a3 b3))) (.int .u32 (max a4 b4))) (.int .u32 (max a5 b5))) (.int .u32 (max a6 b6))) (.int .u32 (max a7 b7)))⟩
      simp only [Act.put, List.setIfInBounds_toArray, List.set_cons_zero, List.set_cons_succ]
      go_simp
    · refine ⟨⟨_, rfl, rfl, rfl, fun a W => by kernel_rfl⟩, by simp, Or.inl ⟨_, rfl, rfl, rfl, by kernel_rfl, fun V g h => ?_⟩⟩
      have HX : Blk V g 64 #[.int .u32 0, .int .u32 0, .int .u32 0, .int .u32 0, .int .u32 0, .int .u32 0, .int .u32 0, .int .u32 0] := h
      have z0 := HX.cell 0
      have z1 := HX.cell 1
      have z2 := HX.cell 2
      have z3 := HX.cell 3
      have z4 := HX.cell 4
      have z5 := HX.cell 5
      have z6 := HX.cell 6
      have z7 := HX.cell 7
      have y0 := HX.frozen 0
      have y1 := HX.frozen 1
      have y2 := HX.frozen 2
      have y3 := HX.frozen 3
      have y4 := HX.frozen 4
      have y5 := HX.frozen 5
      have y6 := HX.frozen 6
      have y7 := HX.frozen 7
      simp at z0 z1 z2 z3 z4 z5 z6 z7
      refine ⟨((((((((V.setCell ⟨g, 0, none⟩ (.int .u32 (min a0 b0))).setCell ⟨g, 1, none⟩ (.int .u32 (min a1 b1))).setCell ⟨g, 2, none⟩ (.int .u32 (min a2 b2))).setCell ⟨g, 3, none⟩ (.int .u32 (min a3 b3))).setCell ⟨g, 4, none⟩ (.int .u32 (min a4 b4))).setCell ⟨g, 5, none⟩ (.int .u32 (min a5 b5))).setCell ⟨g, 6, none⟩ (.int .u32 (min a6 b6))).setCell ⟨g, 7, none⟩ (.int .u32 (min a7 b7))), ?_, ((((((((HX.set_ 0 (.int .u32 (min a0 b0))).set_ 1 (.int .u32 (min a1 b1))).set_ 2 (.int .u32 (min a2 b2))).set_ 3 (.int .u32 (min a3 b3))).set_ 4 (.int .u32 (min a4 b4))).set_ 5 (.int .u32 (min a5 b5))).set_ 6 (.int .u32 (min a6 b6))).set_ 7 (.int .u32 (min a7 b7))), (grownB_set (grownB_set (grownB_set (grownB_set (grownB_set (grownB_set (grownB_set (grownB_set (grownB_refl _ _) (.int .u32 (min a0 b0))) (.int .u32 (min a1 b1))) (.int .u32 (min a2 b2))) (.int .u32 (min a3 b3))) (.int .u32 (min a4 b4))) (.int .u32 (min a5 b5))) (.int .u32 (min a6 b6))) (.int .u32 (min a7 b7)))⟩
      simp only [Act.put, List.setIfInBounds_toArray, List.set_cons_zero, List.set_cons_succ]
      go_simp
  · intro β wB hwB hbs hne
    simp only [List.forall_mem_cons] at hbs
    obtain ⟨⟨gB0, XB0⟩, ⟨gB1, XB1⟩, _⟩ := hbs
    simp only [fillB, Act.put, List.setIfInBounds_toArray, List.set_cons_zero, List.set_cons_succ]
    clear hne
    generalize β 6 = bj at gB0 XB0 ⊢
    generalize β 7 = bm at gB1 XB1 ⊢
    have HJ1 := Lib.hid (show Blk wB bj _ _ from XB0)
    have HM1 := Lib.hid (show Blk wB bm _ _ from XB1)
    have HA1 := Lib.hid (HA.out.keep hwB)
    have HB1 := Lib.hid (HB.out.keep hwB)
    have HC1 := Lib.hid (HC.out.keep hwB)
    have HW1 := Lib.hid (HW.out.trans (hwB.mono HW.out.size))
    clear XB0 XB1 hwB HA HB HC HW x0 y0 x1 y1 x2 y2 x3 y3 x4 y4 x5 y5 x6 y6 x7 y7
    have xa0 := HA1.out.cell 0
    have xa1 := HA1.out.cell 1
    have xa2 := HA1.out.cell 2
    have xa3 := HA1.out.cell 3
    have xa4 := HA1.out.cell 4
    have xa5 := HA1.out.cell 5
    have xa6 := HA1.out.cell 6
    have xa7 := HA1.out.cell 7
    simp at xa0 xa1 xa2 xa3 xa4 xa5 xa6 xa7
    have xb0 := HB1.out.cell 0
    have xb1 := HB1.out.cell 1
    have xb2 := HB1.out.cell 2
    have xb3 := HB1.out.cell 3
    have xb4 := HB1.out.cell 4
    have xb5 := HB1.out.cell 5
    have xb6 := HB1.out.cell 6
    have xb7 := HB1.out.cell 7
    simp at xb0 xb1 xb2 xb3 xb4 xb5 xb6 xb7
    have xc0 := HC1.out.cell 0
    have xc1 := HC1.out.cell 1
    have xc2 := HC1.out.cell 2
    have xc3 := HC1.out.cell 3
    have xc4 := HC1.out.cell 4
    have xc5 := HC1.out.cell 5
    have xc6 := HC1.out.cell 6
    have xc7 := HC1.out.cell 7
    simp at xc0 xc1 xc2 xc3 xc4 xc5 xc6 xc7
    have xj0 := HJ1.out.cell 0
    have xj1 := HJ1.out.cell 1
    have xj2 := HJ1.out.cell 2
    have xj3 := HJ1.out.cell 3
    have xj4 := HJ1.out.cell 4
    have xj5 := HJ1.out.cell 5
    have xj6 := HJ1.out.cell 6
    have xj7 := HJ1.out.cell 7
    simp at xj0 xj1 xj2 xj3 xj4 xj5 xj6 xj7
    have xm0 := HM1.out.cell 0
    have xm1 := HM1.out.cell 1
    have xm2 := HM1.out.cell 2
    have xm3 := HM1.out.cell 3
    have xm4 := HM1.out.cell 4
    have xm5 := HM1.out.cell 5
    have xm6 := HM1.out.cell 6
    have xm7 := HM1.out.cell 7
    simp at xm0 xm1 xm2 xm3 xm4 xm5 xm6 xm7
    have rxa0 := cell_regrown xa0
    have rxa1 := cell_regrown xa1
    have rxa2 := cell_regrown xa2
    have rxa3 := cell_regrown xa3
    have rxa4 := cell_regrown xa4
    have rxa5 := cell_regrown xa5
    have rxa6 := cell_regrown xa6
    have rxa7 := cell_regrown xa7
    have rxb0 := cell_regrown xb0
    have rxb1 := cell_regrown xb1
    have rxb2 := cell_regrown xb2
    have rxb3 := cell_regrown xb3
    have rxb4 := cell_regrown xb4
    have rxb5 := cell_regrown xb5
    have rxb6 := cell_regrown xb6
    have rxb7 := cell_regrown xb7
    have rxc0 := cell_regrown xc0
    have rxc1 := cell_regrown xc1
    have rxc2 := cell_regrown xc2
    have rxc3 := cell_regrown xc3
    have rxc4 := cell_regrown xc4
    have rxc5 := cell_regrown xc5
    have rxc6 := cell_regrown xc6
    have rxc7 := cell_regrown xc7
    have rxj0 := cell_regrown xj0
    have rxj1 := cell_regrown xj1
    have rxj2 := cell_regrown xj2
    have rxj3 := cell_regrown xj3
    have rxj4 := cell_regrown xj4
    have rxj5 := cell_regrown xj5
    have rxj6 := cell_regrown xj6
    have rxj7 := cell_regrown xj7
    have rxm0 := cell_regrown xm0
    have rxm1 := cell_regrown xm1
    have rxm2 := cell_regrown xm2
    have rxm3 := cell_regrown xm3
    have rxm4 := cell_regrown xm4
    have rxm5 := cell_regrown xm5
    have rxm6 := cell_regrown xm6
    have rxm7 := cell_regrown xm7
    go_upto_region 4 with (fail)
    refine wp_region_lex_below ?_
    repeat (first | go_big_quiet_step ((first | with_reducible exact Calls.regrown_of (L1.out _) | with_reducible exact Calls.regrown_of (L2.out _) | with_reducible exact Calls.regrown_of (L3.out _) | with_reducible exact Calls.regrown_of (L4.out _) | with_reducible exact Calls.regrown_of (L5.out _))) | quiet_step ((first | with_reducible exact Calls.regrown_of (L1.out _) | with_reducible exact Calls.regrown_of (L2.out _) | with_reducible exact Calls.regrown_of (L3.out _) | with_reducible exact Calls.regrown_of (L4.out _) | with_reducible exact Calls.regrown_of (L5.out _))))
    refine wpQuiet_nil ?_
    intro _ hw'
    obtain ⟨⟨dq, osq⟩, hw''⟩ := hw'
    subst hw''
    have HA2 := Lib.hid (HA1.out.keep (below_regrown wB dq osq))
    have HB2 := Lib.hid (HB1.out.keep (below_regrown wB dq osq))
    have HC2 := Lib.hid (HC1.out.keep (below_regrown wB dq osq))
    have HJ2 := Lib.hid (HJ1.out.keep (below_regrown wB dq osq))
    have HM2 := Lib.hid (HM1.out.keep (below_regrown wB dq osq))
    have HW2 := Lib.hid (HW1.out.trans ((below_regrown wB dq osq).mono HW1.out.size))
    clear xa0 xa1 xa2 xa3 xa4 xa5 xa6 xa7 xb0 xb1 xb2 xb3 xb4 xb5 xb6 xb7 xc0 xc1 xc2 xc3 xc4 xc5 xc6 xc7 xj0 xj1 xj2 xj3 xj4 xj5 xj6 xj7 xm0 xm1 xm2 xm3 xm4 xm5 xm6 xm7 rxa0 rxa1 rxa2 rxa3 rxa4 rxa5 rxa6 rxa7 rxb0 rxb1 rxb2 rxb3 rxb4 rxb5 rxb6 rxb7 rxc0 rxc1 rxc2 rxc3 rxc4 rxc5 rxc6 rxc7 rxj0 rxj1 rxj2 rxj3 rxj4 rxj5 rxj6 rxj7 rxm0 rxm1 rxm2 rxm3 rxm4 rxm5 rxm6 rxm7
    clear HA1 HB1 HC1 HJ1 HM1 HW1
    generalize Sort.grow (redrawn wB dq) osq = w2 at *
    go_upto_region 6 with (fail)
    go_cut [74] from 45 to 74 (fun v wx => v = .bool false ∧ Hid (Blk wx w.heap.size 64 #[.int .u32 a0, .int .u32 a1, .int .u32 a2, .int .u32 a3, .int .u32 a4, .int .u32 a5, .int .u32 a6, .int .u32 a7]) ∧ Hid (Blk wx (w.heap.size + 1) 64 #[.int .u32 b0, .int .u32 b1, .int .u32 b2, .int .u32 b3, .int .u32 b4, .int .u32 b5, .int .u32 b6, .int .u32 b7]) ∧ Hid (Blk wx (w.heap.size + 1 + 1) 64 #[.int .u32 c0, .int .u32 c1, .int .u32 c2, .int .u32 c3, .int .u32 c4, .int .u32 c5, .int .u32 c6, .int .u32 c7]) ∧ Hid (Blk wx bj 64 #[.int .u32 (max a0 b0), .int .u32 (max a1 b1), .int .u32 (max a2 b2), .int .u32 (max a3 b3), .int .u32 (max a4 b4), .int .u32 (max a5 b5), .int .u32 (max a6 b6), .int .u32 (max a7 b7)]) ∧ Hid (Blk wx bm 64 #[.int .u32 (min a0 b0), .int .u32 (min a1 b1), .int .u32 (min a2 b2), .int .u32 (min a3 b3), .int .u32 (min a4 b4), .int .u32 (min a5 b5), .int .u32 (min a6 b6), .int .u32 (min a7 b7)]) ∧ Hid (Below w.heap.size w wx))
    case first =>
      have xa0 := HA2.out.cell 0
      have xa1 := HA2.out.cell 1
      have xa2 := HA2.out.cell 2
      have xa3 := HA2.out.cell 3
      have xa4 := HA2.out.cell 4
      have xa5 := HA2.out.cell 5
      have xa6 := HA2.out.cell 6
      have xa7 := HA2.out.cell 7
      simp at xa0 xa1 xa2 xa3 xa4 xa5 xa6 xa7
      have xb0 := HB2.out.cell 0
      have xb1 := HB2.out.cell 1
      have xb2 := HB2.out.cell 2
      have xb3 := HB2.out.cell 3
      have xb4 := HB2.out.cell 4
      have xb5 := HB2.out.cell 5
      have xb6 := HB2.out.cell 6
      have xb7 := HB2.out.cell 7
      simp at xb0 xb1 xb2 xb3 xb4 xb5 xb6 xb7
      have xc0 := HC2.out.cell 0
      have xc1 := HC2.out.cell 1
      have xc2 := HC2.out.cell 2
      have xc3 := HC2.out.cell 3
      have xc4 := HC2.out.cell 4
      have xc5 := HC2.out.cell 5
      have xc6 := HC2.out.cell 6
      have xc7 := HC2.out.cell 7
      simp at xc0 xc1 xc2 xc3 xc4 xc5 xc6 xc7
      have xj0 := HJ2.out.cell 0
      have xj1 := HJ2.out.cell 1
      have xj2 := HJ2.out.cell 2
      have xj3 := HJ2.out.cell 3
      have xj4 := HJ2.out.cell 4
      have xj5 := HJ2.out.cell 5
      have xj6 := HJ2.out.cell 6
      have xj7 := HJ2.out.cell 7
      simp at xj0 xj1 xj2 xj3 xj4 xj5 xj6 xj7
      have xm0 := HM2.out.cell 0
      have xm1 := HM2.out.cell 1
      have xm2 := HM2.out.cell 2
      have xm3 := HM2.out.cell 3
      have xm4 := HM2.out.cell 4
      have xm5 := HM2.out.cell 5
      have xm6 := HM2.out.cell 6
      have xm7 := HM2.out.cell 7
      simp at xm0 xm1 xm2 xm3 xm4 xm5 xm6 xm7
      have rxa0 := cell_regrown xa0
      have rxa1 := cell_regrown xa1
      have rxa2 := cell_regrown xa2
      have rxa3 := cell_regrown xa3
      have rxa4 := cell_regrown xa4
      have rxa5 := cell_regrown xa5
      have rxa6 := cell_regrown xa6
      have rxa7 := cell_regrown xa7
      have rxb0 := cell_regrown xb0
      have rxb1 := cell_regrown xb1
      have rxb2 := cell_regrown xb2
      have rxb3 := cell_regrown xb3
      have rxb4 := cell_regrown xb4
      have rxb5 := cell_regrown xb5
      have rxb6 := cell_regrown xb6
      have rxb7 := cell_regrown xb7
      have rxc0 := cell_regrown xc0
      have rxc1 := cell_regrown xc1
      have rxc2 := cell_regrown xc2
      have rxc3 := cell_regrown xc3
      have rxc4 := cell_regrown xc4
      have rxc5 := cell_regrown xc5
      have rxc6 := cell_regrown xc6
      have rxc7 := cell_regrown xc7
      have rxj0 := cell_regrown xj0
      have rxj1 := cell_regrown xj1
      have rxj2 := cell_regrown xj2
      have rxj3 := cell_regrown xj3
      have rxj4 := cell_regrown xj4
      have rxj5 := cell_regrown xj5
      have rxj6 := cell_regrown xj6
      have rxj7 := cell_regrown xj7
      have rxm0 := cell_regrown xm0
      have rxm1 := cell_regrown xm1
      have rxm2 := cell_regrown xm2
      have rxm3 := cell_regrown xm3
      have rxm4 := cell_regrown xm4
      have rxm5 := cell_regrown xm5
      have rxm6 := cell_regrown xm6
      have rxm7 := cell_regrown xm7
      have CJ : p = false ∨ (p = true ∧ q = false) ∨ (p = true ∧ q = true ∧ j = true) := by
        have := HJ.out
        cases p <;> cases q <;> cases j <;> simp_all
      have CM : r = false ∨ (r = true ∧ s = false) ∨ (r = true ∧ s = true ∧ m = true) := by
        have := HM.out
        cases r <;> cases s <;> cases m <;> simp_all
      rcases CJ with rfl | ⟨rfl, rfl⟩ | ⟨rfl, rfl, rfl⟩ <;> rcases CM with rfl | ⟨rfl, rfl⟩ | ⟨rfl, rfl, rfl⟩
      all_goals
        refine wp_region_lex_below ?_
        repeat (first | go_big_quiet_step ((first | with_reducible exact Calls.regrown_of (Dp.out _) | with_reducible exact Calls.regrown_of (Dq.out _) | with_reducible exact Calls.regrown_of (Dj.out _) | with_reducible exact Calls.regrown_of (Dr.out _) | with_reducible exact Calls.regrown_of (Ds.out _) | with_reducible exact Calls.regrown_of (Dm.out _))) | quiet_step ((first | with_reducible exact Calls.regrown_of (Dp.out _) | with_reducible exact Calls.regrown_of (Dq.out _) | with_reducible exact Calls.regrown_of (Dj.out _) | with_reducible exact Calls.regrown_of (Dr.out _) | with_reducible exact Calls.regrown_of (Ds.out _) | with_reducible exact Calls.regrown_of (Dm.out _))))
        refine wpQuiet_nil ?_
        intro _ hw'
        obtain ⟨⟨dq, osq⟩, hw''⟩ := hw'
        subst hw''
        go_wp2_with fail
        go_meet
        exact ⟨rfl, Lib.hid (HA2.out.keep (below_regrown w2 dq osq)), Lib.hid (HB2.out.keep (below_regrown w2 dq osq)), Lib.hid (HC2.out.keep (below_regrown w2 dq osq)), Lib.hid (HJ2.out.keep (below_regrown w2 dq osq)), Lib.hid (HM2.out.keep (below_regrown w2 dq osq)), Lib.hid (HW2.out.trans ((below_regrown w2 dq osq).mono HW2.out.size))⟩
    case rest =>
      obtain ⟨rfl, HA3, HB3, HC3, HJ3, HM3, HW3⟩ := hcut
      clear HA2 HB2 HC2 HJ2 HM2 HW2
      have xa0 := HA3.out.cell 0
      have xa1 := HA3.out.cell 1
      have xa2 := HA3.out.cell 2
      have xa3 := HA3.out.cell 3
      have xa4 := HA3.out.cell 4
      have xa5 := HA3.out.cell 5
      have xa6 := HA3.out.cell 6
      have xa7 := HA3.out.cell 7
      simp at xa0 xa1 xa2 xa3 xa4 xa5 xa6 xa7
      have xb0 := HB3.out.cell 0
      have xb1 := HB3.out.cell 1
      have xb2 := HB3.out.cell 2
      have xb3 := HB3.out.cell 3
      have xb4 := HB3.out.cell 4
      have xb5 := HB3.out.cell 5
      have xb6 := HB3.out.cell 6
      have xb7 := HB3.out.cell 7
      simp at xb0 xb1 xb2 xb3 xb4 xb5 xb6 xb7
      have xc0 := HC3.out.cell 0
      have xc1 := HC3.out.cell 1
      have xc2 := HC3.out.cell 2
      have xc3 := HC3.out.cell 3
      have xc4 := HC3.out.cell 4
      have xc5 := HC3.out.cell 5
      have xc6 := HC3.out.cell 6
      have xc7 := HC3.out.cell 7
      simp at xc0 xc1 xc2 xc3 xc4 xc5 xc6 xc7
      have rxa0 := cell_regrown xa0
      have rxa1 := cell_regrown xa1
      have rxa2 := cell_regrown xa2
      have rxa3 := cell_regrown xa3
      have rxa4 := cell_regrown xa4
      have rxa5 := cell_regrown xa5
      have rxa6 := cell_regrown xa6
      have rxa7 := cell_regrown xa7
      have rxb0 := cell_regrown xb0
      have rxb1 := cell_regrown xb1
      have rxb2 := cell_regrown xb2
      have rxb3 := cell_regrown xb3
      have rxb4 := cell_regrown xb4
      have rxb5 := cell_regrown xb5
      have rxb6 := cell_regrown xb6
      have rxb7 := cell_regrown xb7
      have rxc0 := cell_regrown xc0
      have rxc1 := cell_regrown xc1
      have rxc2 := cell_regrown xc2
      have rxc3 := cell_regrown xc3
      have rxc4 := cell_regrown xc4
      have rxc5 := cell_regrown xc5
      have rxc6 := cell_regrown xc6
      have rxc7 := cell_regrown xc7
      have heq := HE.out
      have CT : t = false ∨ (t = true ∧ q = false) ∨ (t = true ∧ q = true ∧ p = true) := by
        have := HT.out
        cases t <;> cases q <;> cases p <;> simp_all
      go_upto_region 8 with (fail)
      rcases CT with rfl | ⟨rfl, rfl⟩ | ⟨rfl, rfl, rfl⟩ <;> cases u
      all_goals
        simp only [Bool.and_true, Bool.and_false] at heq
        refine wp_region_quiet_below (by kernel_rfl) (by kernel_rfl) ?_
        repeat (first | go_big_quiet_step ((first | with_reducible exact Calls.regrown_of (Dp.out _) | with_reducible exact Calls.regrown_of (Dq.out _) | with_reducible exact Calls.regrown_of (Dt.out _) | with_reducible exact Calls.regrown_of (Du.out _))) | quiet_step ((first | with_reducible exact Calls.regrown_of (Dp.out _) | with_reducible exact Calls.regrown_of (Dq.out _) | with_reducible exact Calls.regrown_of (Dt.out _) | with_reducible exact Calls.regrown_of (Du.out _))))
        refine wpQuiet_nil ?_
        intro _ hw'
        obtain ⟨⟨dq, osq⟩, hw''⟩ := hw'
        subst hw''
        go_wp2
        go_ret
        exact ⟨rfl, HW3.out.trans ((below_regrown _ dq osq).mono HW3.out.size)⟩
set_option maxRecDepth 100000 in
theorem lifted (os : Os) (started : os.Started) (H : Type) (enc : TypeId × Value → H) :
    ReturnsInHanded {} Try.checked os 9 .any (Rows.vecOrderSpec.pre6 enc Try.prog Try.f9 Rows.vecOrderRow.domain false) (Rows.vecOrderSpec.post enc Try.prog Try.f9 false true false false) := by
  refine returnsInHanded_of_change (C := Try.checked) own started (by kernel_rfl) Try.func9
    (ChangeSpec.witness6 (enc := enc) (C := Try.checked) false ⟨#[], #[.agg #[.int .u32 0, .int .u32 0, .int .u32 0, .int .u32 0, .int .u32 0, .int .u32 0, .int .u32 0, .int .u32 0], .agg #[.int .u32 0, .int .u32 0, .int .u32 0, .int .u32 0, .int .u32 0, .int .u32 0, .int .u32 0, .int .u32 0], .agg #[.int .u32 0, .int .u32 0, .int .u32 0, .int .u32 0, .int .u32 0, .int .u32 0, .int .u32 0, .int .u32 0]], []⟩ 8 (by kernel_rfl) (by kernel_rfl) (by kernel_rfl) (by kernel_rfl)) ?_
  intro W base args ds gs before hval0 hW hcnd _
  have hval : ∀ (j : Nat) t v, Try.f9.params[j]? = some t → args[j]? = some v → Value.okWide Try.prog W .any base t v := hval0
  have hW' := hW
  obtain ⟨p, q, hA0, hV, rfl, hfz, hnd⟩ := hW
  have hA : DataW.TrodAll enc Try.prog W 0 (fun _ => true) true Try.f9.params.toList args.toList ds p := hA0
  rw [Try.params9] at hA hval
  obtain ⟨v0, vs0, d0, ds0, p0, q0, hargs, rfl, rfl, h0, r0⟩ := trodAll_cons hA
  obtain ⟨v1, vs1, d1, ds1, p1, q1, rfl, rfl, rfl, h1, r1⟩ := trodAll_cons r0
  obtain ⟨v2, vs2, d2, ds2, p2, q2, rfl, rfl, rfl, h2, r2⟩ := trodAll_cons r1
  obtain ⟨rfl, rfl, rfl⟩ := trodAll_nil r2
  obtain rfl : args = #[v0, v1, v2] := by cases args; simp_all
  obtain ⟨rfl, rfl⟩ := trodVars_none hV
  have k0 := h0
  have lt0 : ∀ x ∈ p0, x.block < W.heap.size := by obtain ⟨m, hm⟩ := k0; exact DataW.trod_lt m _ _ _ hm
  obtain ⟨a0v0, a0v1, a0v2, a0v3, a0v4, a0v5, a0v6, a0v7, rfl, w0v0, w0v1, w0v2, w0v3, w0v4, w0v5, w0v6, w0v7⟩ := vec_open Try.underlying64 Try.underlying38 (by kernel_rfl) (by kernel_rfl) (hval 0 64 v0 rfl rfl) h0
  have k1 := h1
  have lt1 : ∀ x ∈ p1, x.block < W.heap.size := by obtain ⟨m, hm⟩ := k1; exact DataW.trod_lt m _ _ _ hm
  obtain ⟨a1v0, a1v1, a1v2, a1v3, a1v4, a1v5, a1v6, a1v7, rfl, w1v0, w1v1, w1v2, w1v3, w1v4, w1v5, w1v6, w1v7⟩ := vec_open Try.underlying64 Try.underlying38 (by kernel_rfl) (by kernel_rfl) (hval 1 64 v1 rfl rfl) h1
  have k2 := h2
  have lt2 : ∀ x ∈ p2, x.block < W.heap.size := by obtain ⟨m, hm⟩ := k2; exact DataW.trod_lt m _ _ _ hm
  obtain ⟨a2v0, a2v1, a2v2, a2v3, a2v4, a2v5, a2v6, a2v7, rfl, w2v0, w2v1, w2v2, w2v3, w2v4, w2v5, w2v6, w2v7⟩ := vec_open Try.underlying64 Try.underlying38 (by kernel_rfl) (by kernel_rfl) (hval 2 64 v2 rfl rfl) h2
  clear hA0 hval0
  refine (walk a0v0 a0v1 a0v2 a0v3 a0v4 a0v5 a0v6 a0v7 a1v0 a1v1 a1v2 a1v3 a1v4 a1v5 a1v6 a1v7 a2v0 a2v1 a2v2 a2v3 a2v4 a2v5 a2v6 a2v7 W w0v0 w0v1 w0v2 w0v3 w0v4 w0v5 w0v6 w0v7 w1v0 w1v1 w1v2 w1v3 w1v4 w1v5 w1v6 w1v7 w2v0 w2v1 w2v2 w2v3 w2v4 w2v5 w2v6 w2v7).mono fun e W' ⟨he, bel⟩ => ?_
  subst he
  exact ⟨_, rfl, _, _, _, [], _, [], hW', trodAll_mk1 (shut_bool Try.underlying4 _), (trodAll_cons_mk (Below.trod laidOut (by kernel_rfl) (of_decide_eq_true (by kernel_rfl)) k0 bel lt0) (trodAll_cons_mk (Below.trod laidOut (by kernel_rfl) (of_decide_eq_true (by kernel_rfl)) k1 bel lt1) (trodAll_cons_mk (Below.trod laidOut (by kernel_rfl) (of_decide_eq_true (by kernel_rfl)) k2 bel lt2) trodAll_mk0))), rfl, bel.frame _, fun h => by cases h⟩
theorem over : Rows.vecOrderRow.holds Try.pinned (OpenSpec.ofChange Rows.vecOrderSpec) :=
  OpenClaim.holds_of_wide 9 Try.f9 rfl rfl rfl rfl rfl rfl rfl ⟨rfl, rfl, rfl, rfl, rfl⟩ rfl rfl rfl rfl rfl (by kernel_rfl) Try.func9 (by kernel_rfl)
    (of_decide_eq_true (by kernel_rfl)) (by unfold Func.isWrapper; first | (rw [if_pos (by decide +kernel)]; kernel_rfl) | (rw [if_neg (by decide +kernel)]; exact ⟨rfl, rfl⟩))
    (fun os started H enc _ => lifted os started H enc)
theorem proved : Rows.VecOrderSaid := over
#print axioms proved
end Go.Proofs.Ytfpaojkcmijfgaa.lawVecOrder

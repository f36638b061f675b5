/- The check of the first answers of package pnc: works returns true. -/
import Derived.Test.YtfpaojkcmijfgaaPnc
import Derived.Test.YtfpaojkcmijfgaaPncLaw
namespace Go.Proofs.Ytfpaojkcmijfgaa
open Go.RowKit
set_option linter.unusedVariables false
theorem pn_eql (a b : Int) (W : World) : (binOp .eql 25 (.agg #[.int .i64 a, .int .i64 b]) (.agg #[.int .i64 a, .int .i64 b])).run Try.prog W = Result.ok (.bool true) W := by simp [go_sem]
set_option maxRecDepth 100000 in
set_option maxHeartbeats 1600000 in
theorem pnworks (w : World) : Calls Try.prog 12 #[] w fun e w' => e = .returned (.bool true) ∧ Below w.heap.size w w' := by
  have A0 : ∀ W : World, Calls Try.prog 13 #[.agg #[.int .i64 0, .int .i64 0], .int .i64 (5)] W fun e w' => e = .returned (.tuple #[.agg #[.int .i64 5, .int .i64 0], .int .i64 0]) ∧ Below W.heap.size W w' := fun W =>
    (papply 0 0 (5) W (by omega) (by omega)).mono (by rintro e w' ⟨rfl, h⟩; exact ⟨retA (by decide), h⟩)
  have D0 := Lib.hid A0
  clear A0
  have A1 : ∀ W : World, Calls Try.prog 13 #[.agg #[.int .i64 5, .int .i64 0], .int .i64 (-7)] W fun e w' => e = .returned (.tuple #[.agg #[.int .i64 5, .int .i64 7], .int .i64 0]) ∧ Below W.heap.size W w' := fun W =>
    (papply 5 0 (-7) W (by omega) (by omega)).mono (by rintro e w' ⟨rfl, h⟩; exact ⟨retA (by decide), h⟩)
  have D1 := Lib.hid A1
  clear A1
  have A2 : ∀ W : World, Calls Try.prog 13 #[.agg #[.int .i64 5, .int .i64 7], .int .i64 (4)] W fun e w' => e = .returned (.tuple #[.agg #[.int .i64 9, .int .i64 7], .int .i64 0]) ∧ Below W.heap.size W w' := fun W =>
    (papply 5 7 (4) W (by omega) (by omega)).mono (by rintro e w' ⟨rfl, h⟩; exact ⟨retA (by decide), h⟩)
  have D2 := Lib.hid A2
  clear A2
  have A3 : ∀ W : World, Calls Try.prog 13 #[.agg #[.int .i64 9, .int .i64 7], .int .i64 (2147483648)] W fun e w' => e = .returned (.tuple #[.agg #[.int .i64 0, .int .i64 0], .int .i64 2]) ∧ Below W.heap.size W w' := fun W =>
    (papply 9 7 (2147483648) W (by omega) (by omega)).mono (by rintro e w' ⟨rfl, h⟩; exact ⟨retA (by decide), h⟩)
  have D3 := Lib.hid A3
  clear A3
  have V0 : ∀ W : World, Calls Try.prog 14 #[.agg #[.int .i64 9, .int .i64 7]] W fun e w' => e = .returned (.int .i64 2) ∧ Below W.heap.size W w' := fun W =>
    (pvalue 9 7 W).mono (by rintro e w' ⟨rfl, h⟩; exact ⟨retP (by decide), h⟩)
  have DV := Lib.hid V0
  clear V0
  have heq := pn_eql
  go_enter Try.func12, Try.ntmps12
  go_wp2_with fail
  refine (D0.out _).mono ?_; rintro e w1 ⟨rfl, hb1⟩
  have HB1 := Lib.hid hb1
  clear hb1
  go_wp2_with fail
  refine (D1.out _).mono ?_; rintro e w2 ⟨rfl, hb2⟩
  have HX2 := Lib.hid ((Blk.new w1 25 #[.int .i64 5, .int .i64 0]).keep hb2)
  have HB2 := Lib.hid ((HB1.out.alloc HB1.out.size _).trans (hb2.mono (by have := HB1.out.size; simp; omega)))
  clear hb2
  go_wp2_with fail
  refine (D2.out _).mono ?_; rintro e w3 ⟨rfl, hb3⟩
  have HX3 := Lib.hid ((Blk.new w2 25 #[.int .i64 5, .int .i64 7]).keep hb3)
  have HB3 := Lib.hid ((HB2.out.alloc HB2.out.size _).trans (hb3.mono (by have := HB2.out.size; simp; omega)))
  clear hb3
  go_wp2_with fail
  refine (D3.out _).mono ?_; rintro e w4 ⟨rfl, hb4⟩
  have HX4 := Lib.hid ((Blk.new w3 25 #[.int .i64 9, .int .i64 7]).keep hb4)
  have HB4 := Lib.hid ((HB3.out.alloc HB3.out.size _).trans (hb4.mono (by have := HB3.out.size; simp; omega)))
  clear hb4
  have k1 := HX4.out.cell 0
  have k2 := HX4.out.cell 1
  simp at k1 k2
  have hl := HX4.out.lt
  go_wp2_with fail
  refine (DV.out _).mono ?_; rintro e w5 ⟨rfl, hb5⟩
  go_wp2
  go_ret
  exact ⟨rfl, (HB4.out.alloc HB4.out.size _).trans (hb5.mono (by have := HB4.out.size; simp; omega))⟩
end Go.Proofs.Ytfpaojkcmijfgaa

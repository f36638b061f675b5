/- The check of the first answers of package lww: works returns true. -/
import Derived.Test.YtfpaojkcmijfgaaLwwLaw
import Derived.Test.YtfpaojkcmijfgaaBlk
import Derived.Deep.QuietTactic
import Derived.BigQuiet
import Derived.Lib.QuietBelow
namespace Go.Proofs.Ytfpaojkcmijfgaa
open Go.RowKit
set_option linter.unusedVariables false
theorem lw_eqlP (a b c : Int) (W : World) : (binOp .eql 53 (.agg #[.int .i64 a, .int .u32 b, .int .i64 c]) (.agg #[.int .i64 a, .int .u32 b, .int .i64 c])).run Try.prog W = Result.ok (.bool true) W := by simp [go_sem]
set_option maxRecDepth 100000 in
set_option maxHeartbeats 1600000 in
theorem lwworks (w : World) : Calls Try.prog 23 #[] w fun e w' => e = .returned (.bool true) ∧ Below w.heap.size w w' := by
  have A1 : ∀ W : World, Calls Try.prog 24 #[.agg #[.int .i64 0, .int .u32 0, .int .i64 0], .int .i64 5, .agg #[.int .u32 2, .int .i64 0]] W fun e w' => e = .returned (.tuple #[.agg #[.int .i64 5, .int .u32 2, .int .i64 0], .int .i64 0]) ∧ Below W.heap.size W w' := fun W =>
    (lwapply 0 0 0 5 2 0 W).mono (by rintro e w' ⟨rfl, h⟩; exact ⟨ret_ap (by decide), h⟩)
  have A2 : ∀ W : World, Calls Try.prog 24 #[.agg #[.int .i64 5, .int .u32 2, .int .i64 0], .int .i64 7, .agg #[.int .u32 1, .int .i64 3]] W fun e w' => e = .returned (.tuple #[.agg #[.int .i64 5, .int .u32 2, .int .i64 0], .int .i64 0]) ∧ Below W.heap.size W w' := fun W =>
    (lwapply 5 2 0 7 1 3 W).mono (by rintro e w' ⟨rfl, h⟩; exact ⟨ret_ap (by decide), h⟩)
  have A3 : ∀ W : World, Calls Try.prog 24 #[.agg #[.int .i64 5, .int .u32 2, .int .i64 0], .int .i64 7, .agg #[.int .u32 0, .int .i64 0]] W fun e w' => e = .returned (.tuple #[.agg #[.int .i64 0, .int .u32 0, .int .i64 0], .int .i64 2]) ∧ Below W.heap.size W w' := fun W =>
    (lwapply 5 2 0 7 0 0 W).mono (by rintro e w' ⟨rfl, h⟩; exact ⟨ret_ap (by decide), h⟩)
  have M1 : ∀ W : World, Calls Try.prog 28 #[.agg #[.int .i64 0, .int .u32 0, .int .i64 0], .agg #[.int .i64 5, .int .u32 2, .int .i64 0]] W fun e w' => e = .returned (.agg #[.int .i64 5, .int .u32 2, .int .i64 0]) ∧ Below W.heap.size W w' := fun W =>
    (lwmerge 0 0 0 5 2 0 W).mono (by rintro e w' ⟨rfl, h⟩; exact ⟨ret_st (by decide), h⟩)
  have D1 := Lib.hid A1
  have D2 := Lib.hid A2
  have D3 := Lib.hid A3
  have D4 := Lib.hid M1
  have heq := lw_eqlP
  clear A1 A2 A3 M1
  go_enter Try.func23, Try.ntmps23
  go_wp2_with fail
  refine (D1.out _).mono ?_; rintro e w1 ⟨rfl, hb1⟩
  have HB1 := Lib.hid hb1
  clear hb1
  go_wp2_with fail
  refine (D2.out _).mono ?_; rintro e w2 ⟨rfl, hb2⟩
  have HX2 := Lib.hid ((Blk.new w1 53 #[.int .i64 5, .int .u32 2, .int .i64 0]).keep hb2)
  have HB2 := Lib.hid ((HB1.out.alloc HB1.out.size _).trans (hb2.mono (by have := HB1.out.size; simp; omega)))
  clear hb2
  go_wp2_with fail
  refine (D3.out _).mono ?_; rintro e w3 ⟨rfl, hb3⟩
  have HX3 := Lib.hid ((HX2.out.alloc (.cells #[.int .i64 5, .int .u32 2, .int .i64 0] 53)).keep hb3)
  have HY3 := Lib.hid ((Blk.new w2 53 #[.int .i64 5, .int .u32 2, .int .i64 0]).keep hb3)
  have HB3 := Lib.hid ((HB2.out.alloc HB2.out.size _).trans (hb3.mono (by have := HB2.out.size; simp; omega)))
  clear hb3
  go_wp2_with fail
  have HX4 := Lib.hid (HX3.out.alloc (.cells #[.int .i64 0, .int .u32 0, .int .i64 0] 53))
  have HY4 := Lib.hid (HY3.out.alloc (.cells #[.int .i64 0, .int .u32 0, .int .i64 0] 53))
  have HB4 := Lib.hid (HB3.out.alloc HB3.out.size (.cells #[.int .i64 0, .int .u32 0, .int .i64 0] 53))
  generalize w3.alloc (.cells #[.int .i64 0, .int .u32 0, .int .i64 0] 53) = W at *
  have k1 := HX4.out.cell 0
  have k2 := HX4.out.cell 1
  have k3 := HX4.out.cell 2
  have k4 := HY4.out.cell 0
  have k5 := HY4.out.cell 1
  have k6 := HY4.out.cell 2
  simp at k1 k2 k3 k4 k5 k6
  have c1 := cell_regrown k1
  have c2 := cell_regrown k2
  have c3 := cell_regrown k3
  have c4 := cell_regrown k4
  have c5 := cell_regrown k5
  have c6 := cell_regrown k6
  refine wp_region_quiet_below (by kernel_rfl) (by kernel_rfl) ?_
  repeat (first | go_big_quiet_step ((with_reducible exact Calls.regrown_of (D4.out _))) | quiet_step ((with_reducible exact Calls.regrown_of (D4.out _))))
  refine wpQuiet_nil ?_
  intro _ hw'
  obtain ⟨⟨dq, osq⟩, hw''⟩ := hw'
  subst hw''
  go_wp2
  go_ret
  exact ⟨rfl, HB4.out.trans ((below_regrown W dq osq).mono HB4.out.size)⟩
end Go.Proofs.Ytfpaojkcmijfgaa

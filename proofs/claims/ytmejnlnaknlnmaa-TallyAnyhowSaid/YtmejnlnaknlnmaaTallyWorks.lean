/- The check of the tools' first answers: works returns true. -/
import Derived.Test.YtmejnlnaknlnmaaSums
import Derived.Test.YtmejnlnaknlnmaaSizes
namespace Go.Proofs.Ytmejnlnaknlnmaa
open Go.RowKit
set_option maxHeartbeats 400000 in
theorem tworks (w : World) : Calls Try.prog 47 #[] w fun e w' => e = .returned (.bool true) ∧ Below w.heap.size w w' := by
  have e1 : addE 1048576 1 = 12 := by decide
  have e2 : ceilV 7 3 = 3 := by decide
  have e3 : ceilE 7 3 = 0 := by decide
  have e4 : timesE 3 549755813888 = 12 := by decide
  have e5 : sumV [1, 2, 3] = 6 := by decide
  have e6 : sumE [1, 2, 3] = 0 := by decide
  have e7 : plusV (-5) 7 = 2 := by decide
  have e8 : plusE (-5) 7 = 0 := by decide
  go_enter Try.func47, Try.ntmps47
  go_wp2_with fail
  refine (add_any 1048576 1 _ (by omega) (by omega) (by omega) (by omega)).mono ?_; rintro e w1 ⟨rfl, hb1⟩
  go_wp2_with fail
  refine (ceil_any 7 3 _ (by omega) (by omega) (by omega) (by omega)).mono ?_; rintro e w2 ⟨rfl, hb2⟩
  go_wp2_with fail
  refine (times_any 3 549755813888 _ (by omega) (by omega) (by omega) (by omega)).mono ?_; rintro e w3 ⟨rfl, hb3⟩
  go_wp2_with fail
  refine (sum_any _ [1, 2, 3] _ (.inr ⟨_, _, _, rfl, fun i hi => ?_⟩) (by simp) (by simp)).mono ?_
  · match i, hi with
    | 0, _ => simp
    | 1, _ => simp
    | 2, _ => simp
  rintro e w4 ⟨rfl, hb4⟩
  go_wp2_with fail
  refine (plus_any (-5) 7 _ (by omega) (by omega) (by omega) (by omega)).mono ?_; rintro e w5 ⟨rfl, hb5⟩
  go_wp2
  go_ret
  refine ⟨rfl, ?_⟩
  have h12 := hb1.trans (hb2.mono hb1.size)
  have h13 := h12.trans (hb3.mono h12.size)
  have h14 := (h13.alloc h13.size _).trans (hb4.mono (by simp; have := h13.size; omega))
  exact h14.trans (hb5.mono h14.size)
end Go.Proofs.Ytmejnlnaknlnmaa

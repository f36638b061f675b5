/- The check of the first answers of package ballot: works returns true. -/
import Derived.Test.YtfpaojkcmijfgaaBallot
namespace Go.Proofs.Ytfpaojkcmijfgaa
open Go.RowKit
set_option maxHeartbeats 400000 in
theorem bworks (w : World) : Calls Try.prog 42 #[] w fun e w' => e = .returned (.bool true) ∧ Below w.heap.size w w' := by
  have e1 : abvN 3 5 1 = 4 := by decide
  have e2 : abvW 3 5 1 = 1 := by decide
  have e3 : abvE 3 5 1 = 0 := by decide
  have e4 : faultsV 5 = 2 := by decide
  have e5 : slowV 5 = 3 := by decide
  have e6 : fastV 5 = 4 := by decide
  have e7 : likeV 5 = 2 := by decide
  have e8 : slowV 6 = 0 := by decide
  have e9 : bchkV 0 1 = 2 := by decide
  go_enter Try.func42, Try.ntmps42
  go_wp2_with fail
  refine (babove_any 3 5 1 _ (by omega)).mono ?_; rintro e w1 ⟨rfl, hb⟩
  go_wp2_with fail
  refine (faults_any 5 _ (by omega) (by omega)).mono ?_; rintro e w2 ⟨rfl, rfl⟩
  go_wp2_with fail
  refine (slow_any 5 _ (by omega) (by omega)).mono ?_; rintro e w2 ⟨rfl, rfl⟩
  go_wp2_with fail
  refine (fast_any 5 _ (by omega) (by omega)).mono ?_; rintro e w2 ⟨rfl, rfl⟩
  go_wp2_with fail
  refine (like_any 5 _ (by omega) (by omega)).mono ?_; rintro e w2 ⟨rfl, rfl⟩
  go_wp2_with fail
  refine (slow_any 6 _ (by omega) (by omega)).mono ?_; rintro e w2 ⟨rfl, rfl⟩
  go_wp2_with fail
  refine (bcheck_any 0 1 _).mono ?_; rintro e w3 ⟨rfl, hb3⟩
  go_wp2_with fail
  refine (bfirst_any 0 0 _).mono ?_; rintro e w2 ⟨rfl, rfl⟩
  go_wp2
  go_ret
  refine ⟨rfl, ?_⟩
  have h1 : Below w.heap.size w _ := (hb.alloc hb.size _).trans (hb3.mono (by simp; have := hb.size; omega))
  exact h1.alloc h1.size _
end Go.Proofs.Ytfpaojkcmijfgaa

/- Contracts of the quorum sizes of package ballot and of the reference: both answer the same plain functions. -/
import Derived.Test.YtmejnlnaknlnmaaProg
import Derived.WalkKit
import Derived.Lib.Hide
namespace Go.Proofs.Ytmejnlnaknlnmaa
open Go.RowKit
theorem ret_int {k : IntKind} {a b : Int} (h : a = b) : Ending.returned (.int k a) = .returned (.int k b) := by rw [h]
theorem of_out (n c : Int) (w : World) (h : ¬ (1 ≤ n ∧ n ≤ 5)) : Calls Try.prog 52 #[.int .i64 n, .int .i64 c] w fun e w' => e = .returned (.int .i64 0) ∧ w = w' := by
  by_cases h1 : n < 1
  · go_enter Try.func52, Try.ntmps52
    go_wp2
    go_ret
    exact ⟨rfl, rfl⟩
  · have h2 : 5 < n := by omega
    clear h
    go_enter Try.func52, Try.ntmps52
    go_wp2
    go_ret
    exact ⟨rfl, rfl⟩
theorem group_out (n : Int) (w : World) (h : ¬ (1 ≤ n ∧ n ≤ 5)) : Calls Try.prog 53 #[.int .i64 n] w fun e w' => e = .returned (.bool false) ∧ w = w' := by
  by_cases h1 : n < 1
  · have h0 : ¬ 1 ≤ n := by omega
    clear h
    go_enter Try.func53, Try.ntmps53
    go_wp2
    go_ret
    exact ⟨rfl, rfl⟩
  · have h2 : ¬ n ≤ 5 := by omega
    clear h
    go_enter Try.func53, Try.ntmps53
    go_wp2
    go_ret
    exact ⟨rfl, rfl⟩
theorem five {n : Int} (h : 1 ≤ n ∧ n ≤ 5) : n = 1 ∨ n = 2 ∨ n = 3 ∨ n = 4 ∨ n = 5 := by omega
def faultsV (n : Int) : Int := if 1 ≤ n ∧ n ≤ 5 then ((n - 1) / 2) else 0
set_option maxHeartbeats 400000 in
theorem faults_any (n : Int) (w : World) (h0 : -9223372036854775808 ≤ n) (h1 : n ≤ 9223372036854775807) :
    Calls Try.prog 15 #[.int .i64 n] w fun e w' => e = .returned (.int .i64 (faultsV n)) ∧ w = w' := by
  by_cases h : 1 ≤ n ∧ n ≤ 5
  · rcases five h with rfl | rfl | rfl | rfl | rfl
    all_goals
      clear h h0 h1
      go_enter Try.func15, Try.ntmps15
      go_wp2
      go_ret
      exact ⟨ret_int (by decide), rfl⟩
  · have HS := Lib.hid (show faultsV n = 0 from if_neg h)
    by_cases h2 : n < 1
    all_goals
      go_enter Try.func15, Try.ntmps15
      go_wp2_with (go_at_call 52; refine (of_out _ _ _ h).mono ?_; rintro e w' ⟨rfl, rfl⟩)
      all_goals
        go_ret
        exact ⟨ret_int HS.out.symm, rfl⟩
set_option maxHeartbeats 400000 in
theorem rfaults_any (n : Int) (w : World) (h0 : -9223372036854775808 ≤ n) (h1 : n ≤ 9223372036854775807) :
    Calls Try.prog 16 #[.int .i64 n] w fun e w' => e = .returned (.int .i64 (faultsV n)) ∧ w = w' := by
  by_cases h : 1 ≤ n ∧ n ≤ 5
  · rcases five h with rfl | rfl | rfl | rfl | rfl
    all_goals
      clear h h0 h1
      go_enter Try.func16, Try.ntmps16
      go_wp2
      go_ret
      exact ⟨ret_int (by decide), rfl⟩
  · have HS := Lib.hid (show faultsV n = 0 from if_neg h)
    by_cases h2 : n < 1
    all_goals
      go_enter Try.func16, Try.ntmps16
      go_wp2_with (go_at_call 53; refine (group_out _ _ h).mono ?_; rintro e w' ⟨rfl, rfl⟩)
      all_goals
        go_ret
        exact ⟨ret_int HS.out.symm, rfl⟩
def slowV (n : Int) : Int := if 1 ≤ n ∧ n ≤ 5 then (n / 2 + 1) else 0
set_option maxHeartbeats 400000 in
theorem slow_any (n : Int) (w : World) (h0 : -9223372036854775808 ≤ n) (h1 : n ≤ 9223372036854775807) :
    Calls Try.prog 17 #[.int .i64 n] w fun e w' => e = .returned (.int .i64 (slowV n)) ∧ w = w' := by
  by_cases h : 1 ≤ n ∧ n ≤ 5
  · rcases five h with rfl | rfl | rfl | rfl | rfl
    all_goals
      clear h h0 h1
      go_enter Try.func17, Try.ntmps17
      go_wp2
      go_ret
      exact ⟨ret_int (by decide), rfl⟩
  · have HS := Lib.hid (show slowV n = 0 from if_neg h)
    by_cases h2 : n < 1
    all_goals
      go_enter Try.func17, Try.ntmps17
      go_wp2_with (go_at_call 52; refine (of_out _ _ _ h).mono ?_; rintro e w' ⟨rfl, rfl⟩)
      all_goals
        go_ret
        exact ⟨ret_int HS.out.symm, rfl⟩
set_option maxHeartbeats 400000 in
theorem rslow_any (n : Int) (w : World) (h0 : -9223372036854775808 ≤ n) (h1 : n ≤ 9223372036854775807) :
    Calls Try.prog 18 #[.int .i64 n] w fun e w' => e = .returned (.int .i64 (slowV n)) ∧ w = w' := by
  by_cases h : 1 ≤ n ∧ n ≤ 5
  · rcases five h with rfl | rfl | rfl | rfl | rfl
    all_goals
      clear h h0 h1
      go_enter Try.func18, Try.ntmps18
      go_wp2
      go_ret
      exact ⟨ret_int (by decide), rfl⟩
  · have HS := Lib.hid (show slowV n = 0 from if_neg h)
    by_cases h2 : n < 1
    all_goals
      go_enter Try.func18, Try.ntmps18
      go_wp2_with (go_at_call 53; refine (group_out _ _ h).mono ?_; rintro e w' ⟨rfl, rfl⟩)
      all_goals
        go_ret
        exact ⟨ret_int HS.out.symm, rfl⟩
def fastV (n : Int) : Int := if 1 ≤ n ∧ n ≤ 5 then (if n ≤ 2 then n else n - 1) else 0
set_option maxHeartbeats 400000 in
theorem fast_any (n : Int) (w : World) (h0 : -9223372036854775808 ≤ n) (h1 : n ≤ 9223372036854775807) :
    Calls Try.prog 19 #[.int .i64 n] w fun e w' => e = .returned (.int .i64 (fastV n)) ∧ w = w' := by
  by_cases h : 1 ≤ n ∧ n ≤ 5
  · rcases five h with rfl | rfl | rfl | rfl | rfl
    all_goals
      clear h h0 h1
      go_enter Try.func19, Try.ntmps19
      go_wp2
      go_ret
      exact ⟨ret_int (by decide), rfl⟩
  · have HS := Lib.hid (show fastV n = 0 from if_neg h)
    by_cases h2 : n < 1
    all_goals
      go_enter Try.func19, Try.ntmps19
      go_wp2_with (go_at_call 52; refine (of_out _ _ _ h).mono ?_; rintro e w' ⟨rfl, rfl⟩)
      all_goals
        go_ret
        exact ⟨ret_int HS.out.symm, rfl⟩
set_option maxHeartbeats 400000 in
theorem rfast_any (n : Int) (w : World) (h0 : -9223372036854775808 ≤ n) (h1 : n ≤ 9223372036854775807) :
    Calls Try.prog 20 #[.int .i64 n] w fun e w' => e = .returned (.int .i64 (fastV n)) ∧ w = w' := by
  by_cases h : 1 ≤ n ∧ n ≤ 5
  · rcases five h with rfl | rfl | rfl | rfl | rfl
    all_goals
      clear h h0 h1
      go_enter Try.func20, Try.ntmps20
      go_wp2
      go_ret
      exact ⟨ret_int (by decide), rfl⟩
  · have HS := Lib.hid (show fastV n = 0 from if_neg h)
    by_cases h2 : n < 1
    all_goals
      go_enter Try.func20, Try.ntmps20
      go_wp2_with (go_at_call 53; refine (group_out _ _ h).mono ?_; rintro e w' ⟨rfl, rfl⟩)
      all_goals
        go_ret
        exact ⟨ret_int HS.out.symm, rfl⟩
def likeV (n : Int) : Int := if 1 ≤ n ∧ n ≤ 5 then (if n / 2 < 1 then 1 else n / 2) else 0
set_option maxHeartbeats 400000 in
theorem like_any (n : Int) (w : World) (h0 : -9223372036854775808 ≤ n) (h1 : n ≤ 9223372036854775807) :
    Calls Try.prog 21 #[.int .i64 n] w fun e w' => e = .returned (.int .i64 (likeV n)) ∧ w = w' := by
  by_cases h : 1 ≤ n ∧ n ≤ 5
  · rcases five h with rfl | rfl | rfl | rfl | rfl
    all_goals
      clear h h0 h1
      go_enter Try.func21, Try.ntmps21
      go_wp2
      go_ret
      exact ⟨ret_int (by decide), rfl⟩
  · have HS := Lib.hid (show likeV n = 0 from if_neg h)
    by_cases h2 : n < 1
    all_goals
      go_enter Try.func21, Try.ntmps21
      go_wp2_with (go_at_call 52; refine (of_out _ _ _ h).mono ?_; rintro e w' ⟨rfl, rfl⟩)
      all_goals
        go_ret
        exact ⟨ret_int HS.out.symm, rfl⟩
set_option maxHeartbeats 400000 in
theorem rlike_any (n : Int) (w : World) (h0 : -9223372036854775808 ≤ n) (h1 : n ≤ 9223372036854775807) :
    Calls Try.prog 22 #[.int .i64 n] w fun e w' => e = .returned (.int .i64 (likeV n)) ∧ w = w' := by
  by_cases h : 1 ≤ n ∧ n ≤ 5
  · rcases five h with rfl | rfl | rfl | rfl | rfl
    all_goals
      clear h h0 h1
      go_enter Try.func22, Try.ntmps22
      go_wp2
      go_ret
      exact ⟨ret_int (by decide), rfl⟩
  · have HS := Lib.hid (show likeV n = 0 from if_neg h)
    by_cases h2 : n < 1
    all_goals
      go_enter Try.func22, Try.ntmps22
      go_wp2_with (go_at_call 53; refine (group_out _ _ h).mono ?_; rintro e w' ⟨rfl, rfl⟩)
      all_goals
        go_ret
        exact ⟨ret_int HS.out.symm, rfl⟩
end Go.Proofs.Ytmejnlnaknlnmaa

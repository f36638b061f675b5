/- Contracts of the quorum sizes of package ballot and of the reference: both answer the same plain functions. -/
import Derived.Test.YtfpaojkcmijfgaaProg
import Derived.WalkKit
import Derived.Lib.Hide
namespace Go.Proofs.Ytfpaojkcmijfgaa
open Go.RowKit
theorem ret_int {k : IntKind} {a b : Int} (h : a = b) : Ending.returned (.int k a) = .returned (.int k b) := by rw [h]
theorem of_out (n c : Int) (w : World) (h : ¬ (1 ≤ n ∧ n ≤ 5)) : Calls Try.prog 77 #[.int .i64 n, .int .i64 c] w fun e w' => e = .returned (.int .i64 0) ∧ w = w' := by
  by_cases h1 : n < 1
  · go_enter Try.func77, Try.ntmps77
    go_wp2
    go_ret
    exact ⟨rfl, rfl⟩
  · have h2 : 5 < n := by omega
    clear h
    go_enter Try.func77, Try.ntmps77
    go_wp2
    go_ret
    exact ⟨rfl, rfl⟩
theorem five {n : Int} (h : 1 ≤ n ∧ n ≤ 5) : n = 1 ∨ n = 2 ∨ n = 3 ∨ n = 4 ∨ n = 5 := by omega
def faultsV (n : Int) : Int := if 1 ≤ n ∧ n ≤ 5 then ((n - 1) / 2) else 0
set_option maxHeartbeats 400000 in
theorem faults_any (n : Int) (w : World) (h0 : -9223372036854775808 ≤ n) (h1 : n ≤ 9223372036854775807) :
    Calls Try.prog 64 #[.int .i64 n] w fun e w' => e = .returned (.int .i64 (faultsV n)) ∧ w = w' := by
  by_cases h : 1 ≤ n ∧ n ≤ 5
  · rcases five h with rfl | rfl | rfl | rfl | rfl
    all_goals
      clear h h0 h1
      go_enter Try.func64, Try.ntmps64
      go_wp2
      go_ret
      exact ⟨ret_int (by decide), rfl⟩
  · have HS := Lib.hid (show faultsV n = 0 from if_neg h)
    by_cases h2 : n < 1
    all_goals
      go_enter Try.func64, Try.ntmps64
      go_wp2_with (go_at_call 77; refine (of_out _ _ _ h).mono ?_; rintro e w' ⟨rfl, rfl⟩)
      all_goals
        go_ret
        exact ⟨ret_int HS.out.symm, rfl⟩
def slowV (n : Int) : Int := if 1 ≤ n ∧ n ≤ 5 then (n / 2 + 1) else 0
set_option maxHeartbeats 400000 in
theorem slow_any (n : Int) (w : World) (h0 : -9223372036854775808 ≤ n) (h1 : n ≤ 9223372036854775807) :
    Calls Try.prog 65 #[.int .i64 n] w fun e w' => e = .returned (.int .i64 (slowV n)) ∧ w = w' := by
  by_cases h : 1 ≤ n ∧ n ≤ 5
  · rcases five h with rfl | rfl | rfl | rfl | rfl
    all_goals
      clear h h0 h1
      go_enter Try.func65, Try.ntmps65
      go_wp2
      go_ret
      exact ⟨ret_int (by decide), rfl⟩
  · have HS := Lib.hid (show slowV n = 0 from if_neg h)
    by_cases h2 : n < 1
    all_goals
      go_enter Try.func65, Try.ntmps65
      go_wp2_with (go_at_call 77; refine (of_out _ _ _ h).mono ?_; rintro e w' ⟨rfl, rfl⟩)
      all_goals
        go_ret
        exact ⟨ret_int HS.out.symm, rfl⟩
def fastV (n : Int) : Int := if 1 ≤ n ∧ n ≤ 5 then (if n ≤ 2 then n else n - 1) else 0
set_option maxHeartbeats 400000 in
theorem fast_any (n : Int) (w : World) (h0 : -9223372036854775808 ≤ n) (h1 : n ≤ 9223372036854775807) :
    Calls Try.prog 66 #[.int .i64 n] w fun e w' => e = .returned (.int .i64 (fastV n)) ∧ w = w' := by
  by_cases h : 1 ≤ n ∧ n ≤ 5
  · rcases five h with rfl | rfl | rfl | rfl | rfl
    all_goals
      clear h h0 h1
      go_enter Try.func66, Try.ntmps66
      go_wp2
      go_ret
      exact ⟨ret_int (by decide), rfl⟩
  · have HS := Lib.hid (show fastV n = 0 from if_neg h)
    by_cases h2 : n < 1
    all_goals
      go_enter Try.func66, Try.ntmps66
      go_wp2_with (go_at_call 77; refine (of_out _ _ _ h).mono ?_; rintro e w' ⟨rfl, rfl⟩)
      all_goals
        go_ret
        exact ⟨ret_int HS.out.symm, rfl⟩
def likeV (n : Int) : Int := if 1 ≤ n ∧ n ≤ 5 then (if n / 2 < 1 then 1 else n / 2) else 0
set_option maxHeartbeats 400000 in
theorem like_any (n : Int) (w : World) (h0 : -9223372036854775808 ≤ n) (h1 : n ≤ 9223372036854775807) :
    Calls Try.prog 67 #[.int .i64 n] w fun e w' => e = .returned (.int .i64 (likeV n)) ∧ w = w' := by
  by_cases h : 1 ≤ n ∧ n ≤ 5
  · rcases five h with rfl | rfl | rfl | rfl | rfl
    all_goals
      clear h h0 h1
      go_enter Try.func67, Try.ntmps67
      go_wp2
      go_ret
      exact ⟨ret_int (by decide), rfl⟩
  · have HS := Lib.hid (show likeV n = 0 from if_neg h)
    by_cases h2 : n < 1
    all_goals
      go_enter Try.func67, Try.ntmps67
      go_wp2_with (go_at_call 77; refine (of_out _ _ _ h).mono ?_; rintro e w' ⟨rfl, rfl⟩)
      all_goals
        go_ret
        exact ⟨ret_int HS.out.symm, rfl⟩
end Go.Proofs.Ytfpaojkcmijfgaa

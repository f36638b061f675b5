/- The walk of the law BallotMeets. -/
import Derived.Test.YtmejnlnaknlnmaaBallotWorks
import Derived.Test.YtmejnlnaknlnmaaMeetsLaw
import Derived.Test.YtmejnlnaknlnmaaFrame
import Derived.Deep.QuietTactic
import Derived.BigQuiet
namespace Go.Proofs.Ytmejnlnaknlnmaa.lawBallotMeets
open Go.ChangeShapes Go.WideShapes Go.ChangeAt Go.RowKit
open Go.ChangeMaps (open_string shut_string)
set_option linter.unusedVariables false
theorem wrap_u64_id (p : Int) (h0 : 0 ≤ p) (h1 : p ≤ 1000) : IntKind.u64.wrap p = p := by rw [IntKind.wrap_u64]; omega
theorem wrap_i64_id (p : Int) (h0 : 0 ≤ p) (h1 : p ≤ 1000) : IntKind.i64.wrap p = p := by rw [IntKind.wrap_i64]; omega
set_option maxHeartbeats 8000000 in
theorem walk (n a b who : Int) (w : World) (w0 : (Lit.int .i64 n).wf = true) (w1 : (Lit.int .i64 a).wf = true) (w2 : (Lit.int .i64 b).wf = true) (w3 : (Lit.int .i64 who).wf = true) :
    Calls Try.prog 11 #[.int .i64 n, .int .i64 a, .int .i64 b, .int .i64 who] w fun e w' => e = .returned (.bool true) ∧ Below w.heap.size w w' := by
  clear w0 w1 w2 w3
  obtain ⟨un, hun⟩ : ∃ u, IntKind.u64.wrap n = u := ⟨_, rfl⟩
  obtain ⟨ua, hua⟩ : ∃ u, IntKind.u64.wrap a = u := ⟨_, rfl⟩
  obtain ⟨ub, hub⟩ : ∃ u, IntKind.u64.wrap b = u := ⟨_, rfl⟩
  obtain ⟨uq, huq⟩ : ∃ u, IntKind.u64.wrap who = u := ⟨_, rfl⟩
  have gn : 0 ≤ un := by rw [← hun, IntKind.wrap_u64]; omega
  have ga : 0 ≤ ua := by rw [← hua, IntKind.wrap_u64]; omega
  have gb : 0 ≤ ub := by rw [← hub, IntKind.wrap_u64]; omega
  have gq : 0 ≤ uq := by rw [← huq, IntKind.wrap_u64]; omega
  obtain ⟨r, hr⟩ : ∃ r, un % 5 = r := ⟨_, rfl⟩
  have r0 : 0 ≤ r := by omega
  have r1 : r ≤ 4 := by omega
  obtain ⟨m, hm⟩ : ∃ m, 1 + r = m := ⟨_, rfl⟩
  have m0 : 0 ≤ m := by omega
  have m1 : 1 ≤ m := by omega
  have m2 : m ≤ 5 := by omega
  have hpb := pow_bd m m1 m2
  obtain ⟨p, hp⟩ : ∃ p, (2 : Int) ^ m.toNat = p := ⟨_, rfl⟩
  obtain ⟨a2, ha2⟩ : ∃ x, ua % p = x := ⟨_, rfl⟩
  obtain ⟨b2, hb2⟩ : ∃ x, ub % p = x := ⟨_, rfl⟩
  obtain ⟨q2, hq2⟩ : ∃ x, uq % m = x := ⟨_, rfl⟩
  rw [hp] at hpb
  obtain ⟨p0, p1⟩ := hpb
  have a20 : 0 ≤ a2 := by rw [← ha2]; exact Int.emod_nonneg _ (by omega)
  have a21 : a2 < p := by rw [← ha2]; exact Int.emod_lt_of_pos _ (by omega)
  have b20 : 0 ≤ b2 := by rw [← hb2]; exact Int.emod_nonneg _ (by omega)
  have b21 : b2 < p := by rw [← hb2]; exact Int.emod_lt_of_pos _ (by omega)
  have q20 : 0 ≤ q2 := by rw [← hq2]; exact Int.emod_nonneg _ (by omega)
  have q21 : q2 < m := by rw [← hq2]; exact Int.emod_lt_of_pos _ (by omega)
  obtain ⟨ab, hab⟩ : ∃ x, bits .and .i64 a2 b2 = x := ⟨_, rfl⟩
  obtain ⟨xa, hxa⟩ : ∃ x, bits .and .i64 (a2 / 2 ^ q2.toNat) 1 = x := ⟨_, rfl⟩
  obtain ⟨xb, hxb⟩ : ∃ x, bits .and .i64 (b2 / 2 ^ q2.toNat) 1 = x := ⟨_, rfl⟩
  obtain ⟨cn, hcn⟩ : ∃ x, bits .andNot .i64 (p - 1) a2 = x := ⟨_, rfl⟩
  obtain ⟨L1, L2, L3, ab0, ab1, cn0, cn1⟩ := meet_cases m a2 b2 q2 ab xa xb cn (meet_int m a2 b2 q2 m1 m2 a20 (by rw [hp]; exact a21) b20 (by rw [hp]; exact b21) q20 q21) hab hxa hxb (by rw [hp]; exact hcn)
  have LS : 2 < m → slowV m ≤ fastV m := quor_bd m m1 m2
  have e1 := wrap_u64_id p (by omega) (by omega)
  have e2 := wrap_i64_id a2 (by omega) (by omega)
  have e3 := wrap_i64_id b2 (by omega) (by omega)
  have e4 : ua.tmod p = a2 := by rw [Int.tmod_eq_emod_of_nonneg ga]; exact ha2
  have e5 : ub.tmod p = b2 := by rw [Int.tmod_eq_emod_of_nonneg gb]; exact hb2
  have pz : (p == 0) = false := by simp; omega
  go_enter Try.func11, Try.ntmps11
  go_wp2_with fail
  refine (bworks _).mono ?_; rintro e w1 ⟨rfl, hb1⟩
  go_wp2_with fail
  go_quiet (fail)
  clear e1 e2 e3 e4 e5 hun hua hub ha2 hb2

  have hW : cntV a2 < slowV m ∨ (slowV m ≤ cntV a2 ∧ cntV b2 < slowV m) ∨ (slowV m ≤ cntV a2 ∧ slowV m ≤ cntV b2 ∧ (ab == 0) = false) := by
    by_cases h1 : slowV m ≤ cntV a2
    · by_cases h2 : slowV m ≤ cntV b2
      · exact .inr (.inr ⟨h1, h2, by simp; exact fun h => L1 ⟨h1, h2, h⟩⟩)
      · exact .inr (.inl ⟨h1, by omega⟩)
    · exact .inl (by omega)
  have hV : m ≤ 2 ∨ (2 < m ∧ cntV a2 < fastV m) ∨ (2 < m ∧ fastV m ≤ cntV a2 ∧ (xa == 1) = false) ∨ (2 < m ∧ fastV m ≤ cntV a2 ∧ (xa == 1) = true ∧ cntV b2 < slowV m) ∨ (2 < m ∧ fastV m ≤ cntV a2 ∧ (xa == 1) = true ∧ slowV m ≤ cntV b2 ∧ (xb == 0) = false) ∨ (2 < m ∧ fastV m ≤ cntV a2 ∧ (xa == 1) = true ∧ slowV m ≤ cntV b2 ∧ (xb == 0) = true ∧ likeV m ≤ cntV ab) := by
    by_cases h1 : 2 < m
    · by_cases h2 : fastV m ≤ cntV a2
      · cases h3 : (xa == 1) with
        | false => exact .inr (.inr (.inl ⟨h1, h2, rfl⟩))
        | true =>
          by_cases h4 : slowV m ≤ cntV b2
          · cases h5 : (xb == 0) with
            | false => exact .inr (.inr (.inr (.inr (.inl ⟨h1, h2, rfl, h4, rfl⟩))))
            | true =>
              refine .inr (.inr (.inr (.inr (.inr ⟨h1, h2, rfl, h4, rfl, ?_⟩))))
              rcases Int.lt_or_le (cntV ab) (likeV m) with h6 | h6
              · exact absurd ⟨h1, h2, by simpa using h3, h4, by simpa using h5, h6⟩ L2
              · exact h6
          · exact .inr (.inr (.inr (.inl ⟨h1, h2, rfl, by omega⟩)))
      · exact .inr (.inl ⟨h1, by omega⟩)
    · exact .inl (by omega)
  have hU : faultsV m < cntV a2 ∨ (cntV a2 ≤ faultsV m ∧ slowV m ≤ cntV cn) := by
    rcases L3 with h | h
    · exact .inl h
    · rcases Int.lt_or_le (faultsV m) (cntV a2) with h6 | h6
      · exact .inl h6
      · exact .inr ⟨h6, h⟩
  clear L1 L2 L3
  by_cases hLm : 2 < m
  all_goals
    first | (have LS2 := LS hLm) | (have LS2 : m ≤ 2 := by omega)
    clear LS
    rcases hW with hW | ⟨hW1, hW2⟩ | ⟨hW1, hW2, hW3⟩
    all_goals
      rcases hV with hV | ⟨hV1, hV2⟩ | ⟨hV1, hV2, hV3⟩ | ⟨hV1, hV2, hV3, hV4⟩ | ⟨hV1, hV2, hV3, hV4, hV5⟩ | ⟨hV1, hV2, hV3, hV4, hV5, hV6⟩
      all_goals
        rcases hU with hU | ⟨hU1, hU2⟩
        all_goals
          first
            | (exfalso; omega)
            | (go_wp2_with (first | (go_at_call 46; refine (count_any _ _ (by omega) (by omega)).mono ?_; rintro e w' ⟨rfl, rfl⟩) | (go_at_call 17; refine (slow_any _ _ (by omega) (by omega)).mono ?_; rintro e w' ⟨rfl, rfl⟩) | (go_at_call 19; refine (fast_any _ _ (by omega) (by omega)).mono ?_; rintro e w' ⟨rfl, rfl⟩) | (go_at_call 21; refine (like_any _ _ (by omega) (by omega)).mono ?_; rintro e w' ⟨rfl, rfl⟩) | (go_at_call 15; refine (faults_any _ _ (by omega) (by omega)).mono ?_; rintro e w' ⟨rfl, rfl⟩))
               go_ret
               exact ⟨rfl, hb1.trans (Joins.below_draws _ _ _)⟩)
            | (go_outline; sorry)
end Go.Proofs.Ytmejnlnaknlnmaa.lawBallotMeets

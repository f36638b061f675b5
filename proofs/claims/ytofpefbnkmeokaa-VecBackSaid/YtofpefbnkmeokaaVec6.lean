/- Contracts of vec.Next and of the reference's. -/
import Derived.Test.YtofpefbnkmeokaaVec5
import Derived.Test.YtofpefbnkmeokaaTally
import Derived.ChangeKeysEq
import Derived.Deep.QuietTactic
import Derived.BigQuiet
import Derived.Lib.QuietBelow
import Derived.WalkSpells
namespace Go.Proofs.Ytofpefbnkmeokaa
open Go.RowKit
attribute [local go_sem ↓] Go.wp_at_zero Go.wp_at_succ
theorem vchk_01 (x0 x1 x2 x3 x4 x5 x6 x7 : Int) : vchk x0 x1 x2 x3 x4 x5 x6 x7 = 0 ∨ vchk x0 x1 x2 x3 x4 x5 x6 x7 = 2 := by unfold vchk; split <;> simp
theorem vchk_inv {x0 x1 x2 x3 x4 x5 x6 x7 : Int} (h : vchk x0 x1 x2 x3 x4 x5 x6 x7 = 0) : x0 ≤ 1048576 ∧ x1 ≤ 1048576 ∧ x2 ≤ 1048576 ∧ x3 ≤ 1048576 ∧ x4 ≤ 1048576 ∧ x5 ≤ 1048576 ∧ x6 ≤ 1048576 ∧ x7 ≤ 1048576 := by
  unfold vchk at h; split at h
  · assumption
  · omega
def nxE (x0 x1 x2 x3 x4 x5 x6 x7 o : Int) : Int := if vchk x0 x1 x2 x3 x4 x5 x6 x7 = 0 ∧ 0 ≤ o ∧ o ≤ 7 then (if pk x0 x1 x2 x3 x4 x5 x6 x7 o = 1048576 then 12 else 0) else 2
def nxO (x0 x1 x2 x3 x4 x5 x6 x7 o : Int) : Int := if nxE x0 x1 x2 x3 x4 x5 x6 x7 o = 0 then o else 0
def nxS (x0 x1 x2 x3 x4 x5 x6 x7 o : Int) : Int := if nxE x0 x1 x2 x3 x4 x5 x6 x7 o = 0 then pk x0 x1 x2 x3 x4 x5 x6 x7 o + 1 else 0
theorem nx_bad {x0 x1 x2 x3 x4 x5 x6 x7 o : Int} (h : ¬ (vchk x0 x1 x2 x3 x4 x5 x6 x7 = 0 ∧ 0 ≤ o ∧ o ≤ 7)) : nxE x0 x1 x2 x3 x4 x5 x6 x7 o = 2 ∧ nxO x0 x1 x2 x3 x4 x5 x6 x7 o = 0 ∧ nxS x0 x1 x2 x3 x4 x5 x6 x7 o = 0 := by
  have e : nxE x0 x1 x2 x3 x4 x5 x6 x7 o = 2 := if_neg h
  refine ⟨e, ?_, ?_⟩ <;> simp [nxO, nxS, e]
theorem nx_over {x0 x1 x2 x3 x4 x5 x6 x7 o : Int} (h : vchk x0 x1 x2 x3 x4 x5 x6 x7 = 0 ∧ 0 ≤ o ∧ o ≤ 7) (hp : pk x0 x1 x2 x3 x4 x5 x6 x7 o = 1048576) : nxE x0 x1 x2 x3 x4 x5 x6 x7 o = 12 ∧ nxO x0 x1 x2 x3 x4 x5 x6 x7 o = 0 ∧ nxS x0 x1 x2 x3 x4 x5 x6 x7 o = 0 := by
  have e : nxE x0 x1 x2 x3 x4 x5 x6 x7 o = 12 := by unfold nxE; rw [if_pos h, if_pos hp]
  refine ⟨e, ?_, ?_⟩ <;> simp [nxO, nxS, e]
theorem nx_ok {x0 x1 x2 x3 x4 x5 x6 x7 o : Int} (h : vchk x0 x1 x2 x3 x4 x5 x6 x7 = 0 ∧ 0 ≤ o ∧ o ≤ 7) (hp : ¬ pk x0 x1 x2 x3 x4 x5 x6 x7 o = 1048576) : nxE x0 x1 x2 x3 x4 x5 x6 x7 o = 0 ∧ nxO x0 x1 x2 x3 x4 x5 x6 x7 o = o ∧ nxS x0 x1 x2 x3 x4 x5 x6 x7 o = pk x0 x1 x2 x3 x4 x5 x6 x7 o + 1 := by
  have e : nxE x0 x1 x2 x3 x4 x5 x6 x7 o = 0 := by unfold nxE; rw [if_pos h, if_neg hp]
  refine ⟨e, ?_, ?_⟩ <;> simp [nxO, nxS, e]
theorem ret_nx {a b c a' b' c' : Int} (h : c = c' ∧ a = a' ∧ b = b') : Ending.returned (.tuple #[.agg #[.int .i64 a', .int .u32 b'], .int .i64 c']) = .returned (.tuple #[.agg #[.int .i64 a, .int .u32 b], .int .i64 c]) := by
  obtain ⟨rfl, rfl, rfl⟩ := h; rfl
end Go.Proofs.Ytofpefbnkmeokaa

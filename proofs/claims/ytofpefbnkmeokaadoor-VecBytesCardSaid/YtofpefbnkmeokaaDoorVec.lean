/- Contracts of package vec's and of the reference's Check, Join, Meet, LE and Total. -/
import Derived.Test.YtofpefbnkmeokaaDoorProg
import Derived.WalkKit
import Derived.Lib.Hide
import Derived.WalkSpells
import Derived.WalkLawsBesides
import Derived.Lib.SmallJoins
import Derived.Lib.MinMax
import Derived.RegionTactic
import Derived.ChangeAlike
namespace Go.Proofs.YtofpefbnkmeokaaDoor
open Go.RowKit
theorem retJ {k : IntKind} {a b : Int} (h : a = b) : Ending.returned (.int k a) = .returned (.int k b) := by rw [h]
def vchk (x0 x1 x2 x3 x4 x5 x6 x7 : Int) : Int := if x0 ≤ 1048576 ∧ x1 ≤ 1048576 ∧ x2 ≤ 1048576 ∧ x3 ≤ 1048576 ∧ x4 ≤ 1048576 ∧ x5 ≤ 1048576 ∧ x6 ≤ 1048576 ∧ x7 ≤ 1048576 then 0 else 2
theorem vchk_yes (x0 x1 x2 x3 x4 x5 x6 x7 : Int) (h : x0 ≤ 1048576 ∧ x1 ≤ 1048576 ∧ x2 ≤ 1048576 ∧ x3 ≤ 1048576 ∧ x4 ≤ 1048576 ∧ x5 ≤ 1048576 ∧ x6 ≤ 1048576 ∧ x7 ≤ 1048576) : vchk x0 x1 x2 x3 x4 x5 x6 x7 = 0 := if_pos h
theorem vchk_no (x0 x1 x2 x3 x4 x5 x6 x7 : Int) (h : ¬ (x0 ≤ 1048576 ∧ x1 ≤ 1048576 ∧ x2 ≤ 1048576 ∧ x3 ≤ 1048576 ∧ x4 ≤ 1048576 ∧ x5 ≤ 1048576 ∧ x6 ≤ 1048576 ∧ x7 ≤ 1048576)) : vchk x0 x1 x2 x3 x4 x5 x6 x7 = 2 := if_neg h
end Go.Proofs.YtofpefbnkmeokaaDoor

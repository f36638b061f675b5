/- Contracts of package vec's and of the reference's Check, Join, Meet, LE and Total. -/
import Derived.Test.YtofpefbnkmeokaaDoorVec
import Derived.WalkKit
import Derived.Lib.Hide
import Derived.WalkSpells
import Derived.WalkLawsBesides
import Derived.Lib.SmallJoins
import Derived.Lib.MinMax
import Derived.RegionTactic
import Derived.ChangeAlike
namespace Go.Proofs.YtofpefbnkmeokaaDoor
open Go.RowKit
end Go.Proofs.YtofpefbnkmeokaaDoor

/- Equality of vectors; contracts of vec.LE, vec.Total and of the reference's. -/
import Derived.Test.YtofpefbnkmeokaaVec3
import Derived.ChangeKeysEq
import Derived.Deep.QuietTactic
import Derived.BigQuiet
import Derived.Lib.QuietBelow
namespace Go.Proofs.Ytofpefbnkmeokaa
open Go.RowKit
end Go.Proofs.Ytofpefbnkmeokaa

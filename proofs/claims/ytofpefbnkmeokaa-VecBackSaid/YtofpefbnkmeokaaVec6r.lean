/- Contracts of vec.Next and of the reference's. -/
import Derived.Test.YtofpefbnkmeokaaVec6
import Derived.Test.YtofpefbnkmeokaaTally
import Derived.ChangeKeysEq
import Derived.Deep.QuietTactic
import Derived.BigQuiet
import Derived.Lib.QuietBelow
import Derived.WalkSpells
namespace Go.Proofs.Ytofpefbnkmeokaa
open Go.RowKit
attribute [local go_sem ↓] Go.wp_at_zero Go.wp_at_succ
end Go.Proofs.Ytofpefbnkmeokaa

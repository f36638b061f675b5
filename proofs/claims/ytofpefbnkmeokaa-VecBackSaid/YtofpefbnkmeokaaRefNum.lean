/- Contract of the reference's reader's Num. -/
import Derived.Test.YtofpefbnkmeokaaRefRead
namespace Go.Proofs.Ytofpefbnkmeokaa
open Go.RowKit
end Go.Proofs.Ytofpefbnkmeokaa

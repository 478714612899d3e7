/- The walk of the reference's division rounded down. -/
import Derived.Test.YtkoopheikdbliaaNumW
namespace Go.Proofs.Ytkoopheikdbliaa
open Go.RowKit
set_option linter.unusedSimpArgs false
set_option linter.unusedVariables false

end Go.Proofs.Ytkoopheikdbliaa

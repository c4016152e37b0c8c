/- States: which can be stored, the reference. -/
import Derived.Test.YtbdcjhhphkckcaaSto
namespace Go.Proofs.Ytbdcjhhphkckcaa
set_option linter.unusedSimpArgs false
set_option linter.unusedVariables false
open Go.RowKit

end Go.Proofs.Ytbdcjhhphkckcaa

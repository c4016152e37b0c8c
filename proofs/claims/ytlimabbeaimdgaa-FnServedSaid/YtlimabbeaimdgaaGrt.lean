/- The greatest number: the reference's part. -/
import Derived.Test.YtlimabbeaimdgaaKd
namespace Go.Proofs.Ytlimabbeaimdgaa
set_option linter.unusedSimpArgs false
set_option linter.unusedVariables false
open Go.RowKit

end Go.Proofs.Ytlimabbeaimdgaa

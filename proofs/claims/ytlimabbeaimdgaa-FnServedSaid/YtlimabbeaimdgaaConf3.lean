/- ConfusionOf, the reference's part. -/
import Derived.Test.YtlimabbeaimdgaaConf2
namespace Go.Proofs.Ytlimabbeaimdgaa
set_option linter.unusedSimpArgs false
set_option linter.unusedVariables false
open Go.RowKit

end Go.Proofs.Ytlimabbeaimdgaa
namespace Go.Proofs.Ytlimabbeaimdgaa.lConfusionOf
open Go.RowKit
end Go.Proofs.Ytlimabbeaimdgaa.lConfusionOf

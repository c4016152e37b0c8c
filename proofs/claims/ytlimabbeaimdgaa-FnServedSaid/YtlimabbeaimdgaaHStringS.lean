/- The harness on lists of texts. -/
import Derived.Test.YtlimabbeaimdgaaKb
namespace Go.Proofs.Ytlimabbeaimdgaa
set_option linter.unusedSimpArgs false
set_option linter.unusedVariables false
open Go.RowKit

abbrev shStringS : Sh := .sl .str




end Go.Proofs.Ytlimabbeaimdgaa

/- Confs written down. -/
import Derived.Test.YtdfodpohcdohoaaGreatRunA
import Derived.Test.YtdfodpohcdohoaaGreatRunC0
set_option linter.unusedVariables false
set_option maxRecDepth 1000000
namespace Go.Proofs.YtdfodpohcdohoaaGreat.evRun
open Go.Ev


end Go.Proofs.YtdfodpohcdohoaaGreat.evRun

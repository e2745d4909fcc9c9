/- Contracts of small functions. Conditions: none; lemmas. -/
import Derived.Test.YtbnocdngcmimaaaTy
import Derived.Test.YtbnocdngcmimaaaVM8
import Derived.Test.YtbnocdngcmimaaaProg
set_option maxRecDepth 20000
set_option linter.unusedVariables false
set_option linter.unusedSimpArgs false
namespace Go.Proofs
open Go Go.VL
def Try.held:List Int→Int→Int
 | [],k=>k
 | x::r,k=>if x=k then Try.held r (k+1) else -1
end Go.Proofs

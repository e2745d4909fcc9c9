/- Contracts: copies of slices, equal slices. Conditions: none; lemmas. -/
import Derived.Test.YtbnocdngcmimaaaC5
import Derived.Test.YtbnocdngcmimaaaVM8
set_option maxRecDepth 20000
set_option linter.unusedVariables false
set_option linter.unusedSimpArgs false
namespace Go.Proofs
open Go Go.VL
end Go.Proofs

/- Contracts: the law of the shift register. Conditions: none; lemmas. -/
import Derived.Test.YtbnocdngcmimaaaC6
set_option maxRecDepth 20000
set_option linter.unusedVariables false
set_option linter.unusedSimpArgs false
namespace Go.Proofs
open Go Go.VL
noncomputable instance:DecidableEq Circ:=fun _ _=>Classical.propDecidable _
end Go.Proofs

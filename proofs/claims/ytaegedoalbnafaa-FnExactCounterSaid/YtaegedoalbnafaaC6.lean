/- Contracts: circuits. Conditions: none; lemmas. -/
import Derived.Test.YtaegedoalbnafaaC5
set_option maxRecDepth 20000
set_option linter.unusedVariables false
set_option linter.unusedSimpArgs false
namespace Go.Proofs
open Go Go.VL

theorem Circ.notValid {c : Circ} (h : ¬ c.Valid) : false = decide c.Valid := by simp [h]
end Go.Proofs

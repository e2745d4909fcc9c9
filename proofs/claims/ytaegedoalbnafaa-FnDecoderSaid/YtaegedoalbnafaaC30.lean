/- Contracts: the laws of adders, counters and decoders. Conditions: none; lemmas. -/
import Derived.Test.YtaegedoalbnafaaC29
import Derived.Test.YtaegedoalbnafaaC19
import Derived.Test.YtaegedoalbnafaaC13
set_option maxRecDepth 20000
set_option linter.unusedVariables false
set_option linter.unusedSimpArgs false
namespace Go.Proofs
open Go Go.VL

def numN (l : List Bool) : Nat → Int
  | 0 => 0
  | i + 1 => numN l i + if l.getD i false then 2 ^ i else 0
end Go.Proofs

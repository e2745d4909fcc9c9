/- Contracts: counters. Conditions: none; lemmas. -/
import Derived.Test.YtaegedoalbnafaaC31
set_option maxRecDepth 20000
set_option linter.unusedVariables false
set_option linter.unusedSimpArgs false
namespace Go.Proofs
open Go Go.VL

structure CnS where
  b : Bld
  next : List Int
  outs : List Int
  en : Int
structure CnOk (n i : Nat) (s : CnS) : Prop where
  ok : s.b.Ok
  fst : s.b.first = 2 + n
  len : s.b.gates.length ≤ 4 * i
  e : s.b.lit s.en
  nx : s.next.length = i
  o : s.outs.length = i
end Go.Proofs

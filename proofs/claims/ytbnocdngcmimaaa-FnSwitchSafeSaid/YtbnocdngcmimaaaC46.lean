/- Contracts: configurations and frames that are marked. Conditions: none; lemmas. -/
import Derived.Test.YtbnocdngcmimaaaC45
import Derived.Test.YtbnocdngcmimaaaC2
set_option maxRecDepth 20000
set_option linter.unusedVariables false
set_option linter.unusedSimpArgs false
namespace Go.Proofs
open Go Go.VL
theorem qaa {α : Type}{l:List α}{i:Nat}{x z : α}(h:i<l.length):(l.set i x).getD i z=x:=by simp[List.getD,h]
theorem qch {α : Type}{l:List α}{i j:Nat}{x z : α}(h:i≠j):(l.set i x).getD j z=l.getD j z:=by simp[List.getD,List.getElem?_set,h]
end Go.Proofs

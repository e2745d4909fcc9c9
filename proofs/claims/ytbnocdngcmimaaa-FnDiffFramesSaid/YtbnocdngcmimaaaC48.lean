/- Contracts: what is exact about the frames that differ. Conditions: none; lemmas. -/
import Derived.Test.YtbnocdngcmimaaaC47
import Derived.Test.YtbnocdngcmimaaaC49
set_option maxRecDepth 20000
set_option linter.unusedVariables false
set_option linter.unusedSimpArgs false
namespace Go.Proofs
open Go Go.VL
theorem qkY (a b:Kcfg):(qbL a b).length≤25:=by
 unfold qbL;split
 ·exact qdp a b 25
 ·simp
theorem qhW {a b:Kcfg}{n:Nat}{p:Int×Tcfg}(h:p∈qaP a b n) : ∃ i,i<n∧p=((i:Int),b.tiles.getD i tc0):=by
 unfold qaP at h
 obtain⟨i,hi,hp⟩:=List.mem_flatMap.1 h
 unfold qcB at hp
 split at hp
 ·simp at hp
 ·exact⟨i,List.mem_range.1 hi,by simpa using hp⟩
end Go.Proofs

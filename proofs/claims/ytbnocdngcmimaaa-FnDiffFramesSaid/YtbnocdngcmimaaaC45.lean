/- Contracts: configurations: sizes, copies of arguments, comparisons. Conditions: none; lemmas. -/
import Derived.Test.YtbnocdngcmimaaaC10
import Derived.Test.YtbnocdngcmimaaaC13
set_option maxRecDepth 20000
set_option linter.unusedVariables false
set_option linter.unusedSimpArgs false
namespace Go.Proofs
open Go Go.VL
abbrev dQ (p:Int×Bool):D:=.agg [dI p.1,dB p.2]
abbrev dTcs (l:List Tcfg):D:=.lst 4 (l.map fun x=>dTc x)
abbrev dQs (l:List (Int×Bool)):D:=.lst 2 (l.map fun x=>dQ x)
structure Kcfg where
 tiles:List Tcfg
 pads:List (Int×Bool)
noncomputable instance:DecidableEq Kcfg:=fun _ _=>Classical.propDecidable _
abbrev dK (k:Kcfg):D:=.agg [dTcs k.tiles,dQs k.pads]
def tc0:Tcfg:=⟨0,[],false,[]⟩
abbrev dFp (p:Int×Tcfg):D:=dFr p.1 p.2
abbrev dFrs (l:List (Int×Tcfg)):D:=.lst 5 (l.map fun x=>dFp x)
theorem qah {l:List Tcfg}{i:Nat}{z:D}(h:i<l.length):(l.map fun x=>dTc x).getD i z=dTc (l.getD i tc0):=getD_lt _ _ _ _ _ h
theorem qai {l:List (Int×Bool)}{i:Nat}{z:D}(h:i<l.length):(l.map fun x=>dQ x).getD i z=dQ (l.getD i (0,false)):=getD_lt _ _ _ _ _ h
theorem qak {l:List (Int×Tcfg)}{i:Nat}{z:D}(h:i<l.length):(l.map fun x=>dFp x).getD i z=dFp (l.getD i (0,tc0)):=getD_lt _ _ _ _ _ h
@[go_sem] theorem scalars_q {l:List (Int×Bool)}:scalars (l.map fun x=>dQ x)=true:=by induction l with|nil=>rfl|cons x r ih=>simp[scalars,D.cells,D.scalar,ih]
@[go_sem] theorem scalars_p {l:List (Int×Int)}:scalars (l.map fun x=>dP x)=true:=by induction l with|nil=>rfl|cons x r ih=>simp[scalars,D.cells,D.scalar,ih]
end Go.Proofs

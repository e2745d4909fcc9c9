/- Contracts: the reader that draws. Conditions: none; lemmas. -/
import Derived.Test.YtbnocdngcmimaaaC3
set_option maxRecDepth 20000
set_option linter.unusedVariables false
set_option linter.unusedSimpArgs false
namespace Go.Proofs
open Go Go.VL

theorem Try.shp_Bytes {f : Nat} (y : D) (h : shp Try.tyT (f + 2) 60 y) : ∃ l : List Int, y = dUs l :=
  shp_slice Try.ty60 Try.ty5 (g := D.int .u8) (fun y h => shp_int Try.ty5 h) h
end Go.Proofs

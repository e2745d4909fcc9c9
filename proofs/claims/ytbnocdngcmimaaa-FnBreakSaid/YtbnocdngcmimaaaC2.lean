/- Contracts: the law of Gray's order. Conditions: none; lemmas. -/
import Derived.Test.YtbnocdngcmimaaaC1
set_option maxRecDepth 20000
set_option linter.unusedVariables false
set_option linter.unusedSimpArgs false
namespace Go.Proofs
open Go Go.VL
theorem Try.c_l1In (x lo hi:Int):Pure Try.prog 90 [dI x,dI lo,dI hi] (.bool (decide (lo≤x)&&decide (x≤hi))):=by
 refine qap (E:=Try.env 0) Try.tok rfl 1000 Try.func90 rfl rfl Try.ntmps90 (by simp) fun ok=>?_
 simp only[go_sem,seval,Try.results90]
end Go.Proofs

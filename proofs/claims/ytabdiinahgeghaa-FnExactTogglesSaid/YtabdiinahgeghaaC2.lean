/- Contracts: the law of Gray's order. Conditions: none; lemmas. -/
import Derived.Test.YtabdiinahgeghaaC1
set_option maxRecDepth 20000
set_option linter.unusedVariables false
set_option linter.unusedSimpArgs false
namespace Go.Proofs
open Go Go.VL

theorem Try.c_l1In (x lo hi : Int) : Pure Try.prog 98 [dI x, dI lo, dI hi] (.bool (decide (lo ≤ x) && decide (x ≤ hi))) := by
  refine pure_of' (E := Try.env 0) Try.tok rfl 1000 Try.func98 rfl rfl Try.ntmps98 (by simp) fun ok => ?_
  simp only [go_sem, Nat.reduceBEq, Nat.reduceLT, Nat.reduceLeDiff, Nat.reduceEqDiff, Nat.reduceAdd, Nat.reduceSub, Nat.reduceMul, ↓reduceIte, Int.reduceLE, Int.reduceLT, Int.reduceNeg, Int.reduceToNat, Int.reduceAdd, Int.reduceSub, Int.reduceMul, reduceCtorEq, Try.results98]
end Go.Proofs

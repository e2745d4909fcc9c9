/- Contracts: copies of slices, equal slices. Conditions: none; lemmas. -/
import Derived.Test.YtaegedoalbnafaaC5
import Derived.Test.YtaegedoalbnafaaVM8
set_option maxRecDepth 20000
set_option linter.unusedVariables false
set_option linter.unusedSimpArgs false
namespace Go.Proofs
open Go Go.VL

theorem Try.c_CloneB (l : List Bool) (hl : l.length ≤ 1000000) : Pure Try.prog 89 [dBs l] (dBs l) := by
  refine pure_intro (T := Try.tyT) Try.tok Try.func89 rfl rfl (by simp [Try.ntmps89]) ?_
  rw [Try.ntmps89]
  refine iwp_seqK (E := Try.env 0) (ks := []) (run_region (opsW_P Try.tok rfl rfl trivial (opsW_end0 (iwp_seqK (iwp_seqK (run_region (opsW_P Try.tok rfl rfl ?_ (opsW_nil Try.tok rfl rfl ?_ rfl fun b hb => opsW_end Try.tok 1000 ?_))))))))
  · simp only [go_sem, Nat.reduceBEq, Nat.reduceLT, Nat.reduceLeDiff, Nat.reduceEqDiff, Nat.reduceAdd, Nat.reduceSub, Nat.reduceMul, ↓reduceIte, Int.reduceLE, Int.reduceLT, Int.reduceNeg, Int.reduceToNat, Int.reduceAdd, Int.reduceSub, Int.reduceMul, reduceCtorEq]
  · simp only [go_sem, Nat.reduceBEq, Nat.reduceLT, Nat.reduceLeDiff, Nat.reduceEqDiff, Nat.reduceAdd, Nat.reduceSub, Nat.reduceMul, ↓reduceIte, Int.reduceLE, Int.reduceLT, Int.reduceNeg, Int.reduceToNat, Int.reduceAdd, Int.reduceSub, Int.reduceMul, reduceCtorEq]
  · simp only [go_sem, Nat.reduceBEq, Nat.reduceLT, Nat.reduceLeDiff, Nat.reduceEqDiff, Nat.reduceAdd, Nat.reduceSub, Nat.reduceMul, ↓reduceIte, Int.reduceLE, Int.reduceLT, Int.reduceNeg, Int.reduceToNat, Int.reduceAdd, Int.reduceSub, Int.reduceMul, reduceCtorEq, Try.results89]
    exact ⟨hb, fun h => by omega⟩
end Go.Proofs

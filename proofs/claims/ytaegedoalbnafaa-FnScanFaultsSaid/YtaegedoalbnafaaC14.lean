/- Contracts: simulations that are drawn. Conditions: none; lemmas. -/
import Derived.Test.YtaegedoalbnafaaC9
set_option maxRecDepth 20000
set_option linter.unusedVariables false
set_option linter.unusedSimpArgs false
namespace Go.Proofs
open Go Go.VL

theorem Try.circ_at {b : List Int} (hb : Try.Bytes b) {p n : Int} (hp : 0 ≤ p ∧ p ≤ 100000000) (hn : 0 ≤ n ∧ n ≤ 1000) {T : List R} {K : I → List R → Prop} (hk : ∀ (c : Circ) (q : Int), (p ≤ q ∧ q ≤ p + 200) → (c.next.length ≤ 40 ∧ c.gates.length ≤ 40 ∧ c.outs.length ≤ 40 ∧ -1 ≤ c.inputs ∧ c.inputs ≤ 5) → K (.d (dC c)) (Try.rd b q :: T)) :
    ICall Try.prog 122 [.ptr 0 0, .d (dI n)] (Try.rd b p :: T) K := by
  refine call_icall (Try.c_l20Circuit b p n hb hp hn) [0] (by simp only [go_sem, Nat.reduceBEq, Nat.reduceLT, Nat.reduceLeDiff, Nat.reduceEqDiff, Nat.reduceAdd, Nat.reduceSub, Nat.reduceMul, ↓reduceIte, Int.reduceLE, Int.reduceLT, Int.reduceNeg, Int.reduceToNat, Int.reduceAdd, Int.reduceSub, Int.reduceMul, reduceCtorEq]) ?_
  rintro r0 H1 ⟨c, q, hq, hl, rfl, rfl⟩
  have := hk c q hq hl
  simp only [go_sem, Nat.reduceBEq, Nat.reduceLT, Nat.reduceLeDiff, Nat.reduceEqDiff, Nat.reduceAdd, Nat.reduceSub, Nat.reduceMul, ↓reduceIte, Int.reduceLE, Int.reduceLT, Int.reduceNeg, Int.reduceToNat, Int.reduceAdd, Int.reduceSub, Int.reduceMul, reduceCtorEq]
  simpa using this
theorem Try.odd_at1 {b : List Int} (hb : Try.Bytes b) {p n : Int} (hp : 0 ≤ p ∧ p ≤ 1000000000) (hn : 0 ≤ n ∧ n ≤ 1000) {A : R} {T : List R} {K : I → List R → Prop} (hk : ∀ x q, p ≤ q ∧ q ≤ p + 1 → (n = 0 → x = false) → K (.d (.bool x)) (A :: Try.rd b q :: T)) :
    ICall Try.prog 87 [.ptr 1 0, .d (dI n)] (A :: Try.rd b p :: T) K := by
  refine call_icall (Try.c_odd b p n hb hp hn) [1] (by simp only [go_sem, Nat.reduceBEq, Nat.reduceLT, Nat.reduceLeDiff, Nat.reduceEqDiff, Nat.reduceAdd, Nat.reduceSub, Nat.reduceMul, ↓reduceIte, Int.reduceLE, Int.reduceLT, Int.reduceNeg, Int.reduceToNat, Int.reduceAdd, Int.reduceSub, Int.reduceMul, reduceCtorEq]) ?_
  rintro r0 H1 ⟨x, q, hq, hx, rfl, rfl⟩
  have := hk x q hq hx
  simp only [go_sem, Nat.reduceBEq, Nat.reduceLT, Nat.reduceLeDiff, Nat.reduceEqDiff, Nat.reduceAdd, Nat.reduceSub, Nat.reduceMul, ↓reduceIte, Int.reduceLE, Int.reduceLT, Int.reduceNeg, Int.reduceToNat, Int.reduceAdd, Int.reduceSub, Int.reduceMul, reduceCtorEq]
  simpa using this
end Go.Proofs

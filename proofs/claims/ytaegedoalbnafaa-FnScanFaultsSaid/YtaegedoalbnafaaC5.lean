/- Contracts: what is drawn. Conditions: none; lemmas. -/
import Derived.Test.YtaegedoalbnafaaC4
set_option maxRecDepth 20000
set_option linter.unusedVariables false
set_option linter.unusedSimpArgs false
namespace Go.Proofs
open Go Go.VL

theorem Try.bytes_of {code : List Int} (h : ∀ x ∈ code, InK .u8 x) (n : Nat) : Try.Bytes (code.take n) := fun x hx => by
  have := h x (List.mem_of_mem_take hx)
  rwa [inK_u8] at this
theorem Try.pick_at {b : List Int} (hb : Try.Bytes b) {p n : Int} (hp : 0 ≤ p ∧ p ≤ 1000000000) {T : List R} {K : I → List R → Prop} (hk : ∀ x, 0 ≤ x ∧ (x < n ∨ x = 0) → K (.d (dI x)) (Try.rd b (p + 1) :: T)) :
    ICall Try.prog 77 [.ptr 0 0, .d (dI n)] (Try.rd b p :: T) K := by
  refine call_icall (Try.c_pick b p n hb hp) [0] (by simp only [go_sem, Nat.reduceBEq, Nat.reduceLT, Nat.reduceLeDiff, Nat.reduceEqDiff, Nat.reduceAdd, Nat.reduceSub, Nat.reduceMul, ↓reduceIte, Int.reduceLE, Int.reduceLT, Int.reduceNeg, Int.reduceToNat, Int.reduceAdd, Int.reduceSub, Int.reduceMul, reduceCtorEq]) ?_
  rintro r0 H1 ⟨x, hx, rfl, rfl⟩
  have := hk x hx
  simp only [go_sem, Nat.reduceBEq, Nat.reduceLT, Nat.reduceLeDiff, Nat.reduceEqDiff, Nat.reduceAdd, Nat.reduceSub, Nat.reduceMul, ↓reduceIte, Int.reduceLE, Int.reduceLT, Int.reduceNeg, Int.reduceToNat, Int.reduceAdd, Int.reduceSub, Int.reduceMul, reduceCtorEq]
  simpa using this
theorem Try.c_odd (b : List Int) (p n : Int) (hb : Try.Bytes b) (hp : 0 ≤ p ∧ p ≤ 1000000000) (hn : 0 ≤ n ∧ n ≤ 1000) :
    ICall Try.prog 87 [.ptr 0 0, .d (dI n)] [Try.rd b p] (fun r H' => ∃ x q, (p ≤ q ∧ q ≤ p + 1) ∧ (n = 0 → x = false) ∧ r = .d (.bool x) ∧ H' = [Try.rd b q]) := by
  refine icall_of' (E := Try.env 1) Try.tok rfl 1000 Try.func87 rfl rfl Try.ntmps87 (by simp) ?_
  simp only [go_sem, Nat.reduceBEq, Nat.reduceLT, Nat.reduceLeDiff, Nat.reduceEqDiff, Nat.reduceAdd, Nat.reduceSub, Nat.reduceMul, ↓reduceIte, Int.reduceLE, Int.reduceLT, Int.reduceNeg, Int.reduceToNat, Int.reduceAdd, Int.reduceSub, Int.reduceMul, reduceCtorEq, Try.results87]
  refine ⟨fun h => ⟨.d (dI 0), ?_⟩, fun h => ?_⟩
  · simp only [go_sem, Nat.reduceBEq, Nat.reduceLT, Nat.reduceLeDiff, Nat.reduceEqDiff, Nat.reduceAdd, Nat.reduceSub, Nat.reduceMul, ↓reduceIte, Int.reduceLE, Int.reduceLT, Int.reduceNeg, Int.reduceToNat, Int.reduceAdd, Int.reduceSub, Int.reduceMul, reduceCtorEq, Try.results87]
    simp only [h, decide_false, go_sem, Bool.false_eq_true, false_imp_iff, true_and, ↓reduceIte, reduceCtorEq]
    exact endI_same ⟨false, p, by omega, by simp, by simp, rfl⟩
  · refine ⟨h, call_icall (Try.c_pick b p n hb hp) [0] (by simp only [go_sem, Nat.reduceBEq, Nat.reduceLT, Nat.reduceLeDiff, Nat.reduceEqDiff, Nat.reduceAdd, Nat.reduceSub, Nat.reduceMul, ↓reduceIte, Int.reduceLE, Int.reduceLT, Int.reduceNeg, Int.reduceToNat, Int.reduceAdd, Int.reduceSub, Int.reduceMul, reduceCtorEq]) ?_⟩
    rintro r0 H1 ⟨x, hx, rfl, rfl⟩
    simp only [go_sem, Nat.reduceBEq, Nat.reduceLT, Nat.reduceLeDiff, Nat.reduceEqDiff, Nat.reduceAdd, Nat.reduceSub, Nat.reduceMul, ↓reduceIte, Int.reduceLE, Int.reduceLT, Int.reduceNeg, Int.reduceToNat, Int.reduceAdd, Int.reduceSub, Int.reduceMul, reduceCtorEq, Try.results87]
    simp only [h, inK_i64, decide_true, go_sem, true_imp_iff, ↓reduceIte]
    refine ⟨by omega, endI_same ⟨_, p + 1, by omega, by omega, rfl, rfl⟩⟩
theorem Try.odd_at {b : List Int} (hb : Try.Bytes b) {p n : Int} (hp : 0 ≤ p ∧ p ≤ 1000000000) (hn : 0 ≤ n ∧ n ≤ 1000) {T : List R} {K : I → List R → Prop} (hk : ∀ x q, p ≤ q ∧ q ≤ p + 1 → (n = 0 → x = false) → K (.d (.bool x)) (Try.rd b q :: T)) :
    ICall Try.prog 87 [.ptr 0 0, .d (dI n)] (Try.rd b p :: T) K := by
  refine call_icall (Try.c_odd b p n hb hp hn) [0] (by simp only [go_sem, Nat.reduceBEq, Nat.reduceLT, Nat.reduceLeDiff, Nat.reduceEqDiff, Nat.reduceAdd, Nat.reduceSub, Nat.reduceMul, ↓reduceIte, Int.reduceLE, Int.reduceLT, Int.reduceNeg, Int.reduceToNat, Int.reduceAdd, Int.reduceSub, Int.reduceMul, reduceCtorEq]) ?_
  rintro r0 H1 ⟨x, q, hq, hx, rfl, rfl⟩
  have := hk x q hq hx
  simp only [go_sem, Nat.reduceBEq, Nat.reduceLT, Nat.reduceLeDiff, Nat.reduceEqDiff, Nat.reduceAdd, Nat.reduceSub, Nat.reduceMul, ↓reduceIte, Int.reduceLE, Int.reduceLT, Int.reduceNeg, Int.reduceToNat, Int.reduceAdd, Int.reduceSub, Int.reduceMul, reduceCtorEq]
  simpa using this
end Go.Proofs

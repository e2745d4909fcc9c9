/- Contracts: the exact laws of simulation. Conditions: none; lemmas. -/
import Derived.Test.YtaegedoalbnafaaC11
set_option maxRecDepth 20000
set_option linter.unusedVariables false
set_option linter.unusedSimpArgs false
namespace Go.Proofs
open Go Go.VL

theorem Try.shp_ints {f : Nat} (y : D) (h : shp Try.tyT (f + 2) 23 y) : ∃ l : List Int, y = dIs l :=
  shp_slice Try.ty23 Try.ty3 (fun y h => shp_int Try.ty3 h) h
theorem Try.shp_Gate {f : Nat} (y : D) (h : shp Try.tyT (f + 2) 140 y) : ∃ a : Int × Int, y = dP a := by
  obtain ⟨ys, rfl, k0⟩ := shp_struct Try.ty140 h
  obtain ⟨y1, r1, rfl, h1, k1⟩ := shpF_c k0
  obtain ⟨y2, r2, rfl, h2, k2⟩ := shpF_c k1
  obtain rfl := shpF_n k2
  obtain ⟨n, rfl⟩ := shp_int Try.ty3 h1
  obtain ⟨m, rfl⟩ := shp_int Try.ty3 h2
  exact ⟨(n, m), rfl⟩
theorem Try.shp_Gates {f : Nat} (y : D) (h : shp Try.tyT (f + 3) 49 y) : ∃ l : List (Int × Int), y = dPs l :=
  shp_slice Try.ty49 Try.ty140 Try.shp_Gate h
theorem Try.shp_Circuit {f : Nat} (y : D) (h : shp Try.tyT (f + 4) 51 y) : ∃ c : Circ, y = dC c := by
  obtain ⟨ys, rfl, k0⟩ := shp_struct Try.ty51 h
  obtain ⟨y1, r1, rfl, h1, k1⟩ := shpF_c k0
  obtain ⟨y2, r2, rfl, h2, k2⟩ := shpF_c k1
  obtain ⟨y3, r3, rfl, h3, k3⟩ := shpF_c k2
  obtain ⟨y4, r4, rfl, h4, k4⟩ := shpF_c k3
  obtain rfl := shpF_n k4
  obtain ⟨n, rfl⟩ := shp_int Try.ty3 h1
  obtain ⟨a, rfl⟩ := Try.shp_ints _ h2
  obtain ⟨b, rfl⟩ := Try.shp_Gates _ h3
  obtain ⟨d, rfl⟩ := Try.shp_ints _ h4
  exact ⟨⟨n, a, b, d⟩, rfl⟩
theorem Try.c_szCircuit (c : Circ) (k : Int) (hk : 0 ≤ k ∧ k ≤ 1048576) : Pure Try.prog 33 [dC c, dI k] (dI (if k < c.next.length + c.gates.length + c.outs.length then -1 else k - (c.next.length : Int) - (c.gates.length : Int) - (c.outs.length : Int))) := by
  refine pure_of' (E := Try.env 0) Try.tok rfl 1000 Try.func33 rfl rfl Try.ntmps33 (by simp) fun ok => ?_
  simp only [go_sem, Nat.reduceBEq, Nat.reduceLT, Nat.reduceLeDiff, Nat.reduceEqDiff, Nat.reduceAdd, Nat.reduceSub, Nat.reduceMul, ↓reduceIte, Int.reduceLE, Int.reduceLT, Int.reduceNeg, Int.reduceToNat, Int.reduceAdd, Int.reduceSub, Int.reduceMul, reduceCtorEq] at ok
  simp only [go_sem, Nat.reduceBEq, Nat.reduceLT, Nat.reduceLeDiff, Nat.reduceEqDiff, Nat.reduceAdd, Nat.reduceSub, Nat.reduceMul, ↓reduceIte, Int.reduceLE, Int.reduceLT, Int.reduceNeg, Int.reduceToNat, Int.reduceAdd, Int.reduceSub, Int.reduceMul, reduceCtorEq, Try.results33]
  refine pcall_fz (Try.c_szIntS _ k hk) ?_
  by_cases h1 : k < c.next.length
  · rw [if_pos h1, if_pos (by omega)]
    simp only [go_sem, Nat.reduceBEq, Nat.reduceLT, Nat.reduceLeDiff, Nat.reduceEqDiff, Nat.reduceAdd, Nat.reduceSub, Nat.reduceMul, ↓reduceIte, Int.reduceLE, Int.reduceLT, Int.reduceNeg, Int.reduceToNat, Int.reduceAdd, Int.reduceSub, Int.reduceMul, reduceCtorEq, Try.results33]
  rw [if_neg h1]
  simp only [go_sem, Nat.reduceBEq, Nat.reduceLT, Nat.reduceLeDiff, Nat.reduceEqDiff, Nat.reduceAdd, Nat.reduceSub, Nat.reduceMul, ↓reduceIte, Int.reduceLE, Int.reduceLT, Int.reduceNeg, Int.reduceToNat, Int.reduceAdd, Int.reduceSub, Int.reduceMul, reduceCtorEq, Try.results33]
  refine ⟨fun h => by omega, fun _ => ?_⟩
  refine pcall_fz (Try.c_szGateS _ _ (by omega)) ?_
  by_cases h2 : k - c.next.length < c.gates.length
  · rw [if_pos h2, if_pos (by omega)]
    simp only [go_sem, Nat.reduceBEq, Nat.reduceLT, Nat.reduceLeDiff, Nat.reduceEqDiff, Nat.reduceAdd, Nat.reduceSub, Nat.reduceMul, ↓reduceIte, Int.reduceLE, Int.reduceLT, Int.reduceNeg, Int.reduceToNat, Int.reduceAdd, Int.reduceSub, Int.reduceMul, reduceCtorEq, Try.results33]
  rw [if_neg h2]
  simp only [go_sem, Nat.reduceBEq, Nat.reduceLT, Nat.reduceLeDiff, Nat.reduceEqDiff, Nat.reduceAdd, Nat.reduceSub, Nat.reduceMul, ↓reduceIte, Int.reduceLE, Int.reduceLT, Int.reduceNeg, Int.reduceToNat, Int.reduceAdd, Int.reduceSub, Int.reduceMul, reduceCtorEq, Try.results33]
  refine ⟨fun h => by omega, fun _ => ?_⟩
  refine pcall_fz (Try.c_szIntS _ _ (by omega)) ?_
  by_cases h3 : k - c.next.length - c.gates.length < c.outs.length
  · rw [if_pos h3, if_pos (by omega)]
    simp only [go_sem, Nat.reduceBEq, Nat.reduceLT, Nat.reduceLeDiff, Nat.reduceEqDiff, Nat.reduceAdd, Nat.reduceSub, Nat.reduceMul, ↓reduceIte, Int.reduceLE, Int.reduceLT, Int.reduceNeg, Int.reduceToNat, Int.reduceAdd, Int.reduceSub, Int.reduceMul, reduceCtorEq, Try.results33]
  rw [if_neg h3, if_neg (by omega)]
  simp only [go_sem, Nat.reduceBEq, Nat.reduceLT, Nat.reduceLeDiff, Nat.reduceEqDiff, Nat.reduceAdd, Nat.reduceSub, Nat.reduceMul, ↓reduceIte, Int.reduceLE, Int.reduceLT, Int.reduceNeg, Int.reduceToNat, Int.reduceAdd, Int.reduceSub, Int.reduceMul, reduceCtorEq, Try.results33]
  omega
theorem Try.shp_bools {f : Nat} (y : D) (h : shp Try.tyT (f + 2) 33 y) : ∃ l : List Bool, y = dBs l :=
  shp_slice Try.ty33 Try.ty4 (fun y h => shp_bool Try.ty4 h) h
theorem Try.shp_boolss {f : Nat} (y : D) (h : shp Try.tyT (f + 3) 32 y) : ∃ l : List (List Bool), y = dBss l :=
  shp_slice Try.ty32 Try.ty33 Try.shp_bools h
theorem Try.c_toBoolS (l : List Bool) (hl : l.length ≤ 1048576) : Pure Try.prog 35 [dBs l] (dBs l) := by
  refine pure_of' (E := Try.env 0) Try.tok rfl 1000 Try.func35 rfl rfl Try.ntmps35 (by simp) fun ok => ?_
  simp only [go_sem, Nat.reduceBEq, Nat.reduceLT, Nat.reduceLeDiff, Nat.reduceEqDiff, Nat.reduceAdd, Nat.reduceSub, Nat.reduceMul, ↓reduceIte, Int.reduceLE, Int.reduceLT, Int.reduceNeg, Int.reduceToNat, Int.reduceAdd, Int.reduceSub, Int.reduceMul, reduceCtorEq] at ok
  simp only [go_sem, Nat.reduceBEq, Nat.reduceLT, Nat.reduceLeDiff, Nat.reduceEqDiff, Nat.reduceAdd, Nat.reduceSub, Nat.reduceMul, ↓reduceIte, Int.reduceLE, Int.reduceLT, Int.reduceNeg, Int.reduceToNat, Int.reduceAdd, Int.reduceSub, Int.reduceMul, reduceCtorEq, Try.results35]
  refine ⟨by omega, ?_⟩
  refine loop_of (E := Try.env 0) Try.tok (σ := Nat × List Bool) (fun s => [(0, .d (dBs l)), (3, .sl 0 0 1 0 l.length), (4, .d (dI s.1))]) (fun s => [.row 0 1 true (s.2.map D.bool)]) (fun s => s.1 ≤ l.length ∧ s.2.length = l.length ∧ ∀ j, j < s.1 → s.2.getD j false = l.getD j false) (fun s => l.length - s.1) [] 1000 1000 ?_ ?_ ?_
  · simp only [go_sem, Nat.reduceBEq, Nat.reduceLT, Nat.reduceLeDiff, Nat.reduceEqDiff, Nat.reduceAdd, Nat.reduceSub, Nat.reduceMul, ↓reduceIte, Int.reduceLE, Int.reduceLT, Int.reduceNeg, Int.reduceToNat, Int.reduceAdd, Int.reduceSub, Int.reduceMul, reduceCtorEq]
  · simp only [go_sem, Nat.reduceBEq, Nat.reduceLT, Nat.reduceLeDiff, Nat.reduceEqDiff, Nat.reduceAdd, Nat.reduceSub, Nat.reduceMul, ↓reduceIte, Int.reduceLE, Int.reduceLT, Int.reduceNeg, Int.reduceToNat, Int.reduceAdd, Int.reduceSub, Int.reduceMul, reduceCtorEq]
    exact ⟨(0, List.replicate l.length false), ⟨by omega, by simp, fun j hj => absurd hj (by simp)⟩, by simp⟩
  · rintro ⟨i, b⟩ ⟨hi, hb, hinv⟩
    simp only at hi hb hinv
    simp only [go_sem, Nat.reduceBEq, Nat.reduceLT, Nat.reduceLeDiff, Nat.reduceEqDiff, Nat.reduceAdd, Nat.reduceSub, Nat.reduceMul, ↓reduceIte, Int.reduceLE, Int.reduceLT, Int.reduceNeg, Int.reduceToNat, Int.reduceAdd, Int.reduceSub, Int.reduceMul, reduceCtorEq, Try.results35]
    repeat' first | assumption | (simp (disch := first | assumption | omega | (simp; done) | (simp; omega)) only [getD_bss, getD_iss, List.take_of_length_le, remV_pos]; try simp only [go_sem, Nat.reduceBEq, Nat.reduceLT, Nat.reduceLeDiff, Nat.reduceEqDiff, Nat.reduceAdd, Nat.reduceSub, Nat.reduceMul, ↓reduceIte, Int.reduceLE, Int.reduceLT, Int.reduceNeg, Int.reduceToNat, Int.reduceAdd, Int.reduceSub, Int.reduceMul, reduceCtorEq, Try.results35]) | (with_reducible refine And.intro ?_ ?_) | (with_reducible intro _) | (refine @Exists.intro I _ (I.d D.nil) ?_; simp only [go_sem, Nat.reduceBEq, Nat.reduceLT, Nat.reduceLeDiff, Nat.reduceEqDiff, Nat.reduceAdd, Nat.reduceSub, Nat.reduceMul, ↓reduceIte, Int.reduceLE, Int.reduceLT, Int.reduceNeg, Int.reduceToNat, Int.reduceAdd, Int.reduceSub, Int.reduceMul, reduceCtorEq, Try.results35]) | ((with_reducible (show Region.lexB _ _ = true)); kernel_rfl) | ((try rw [inK_i64]); omega)
    · refine ⟨(i + 1, b.set i (l.getD i false)), ⟨by omega, by simpa using hb, fun j hj => ?_⟩, by omega, rfl, rfl⟩
      simp only at hj ⊢
      by_cases hji : j = i
      · subst hji; rw [lget_set_eq _ (by omega)]
      · rw [lget_set_ne _ (by omega)]; exact hinv j (by omega)
    · exact ext_getD false hb fun j hj => hinv j (by omega)
theorem Try.c_eqBoolS (a b : List Bool) : Pure Try.prog 36 [dBs a, dBs b] (.bool (decide (a = b))) := by
  refine pure_of' (E := Try.env 0) Try.tok rfl 1000 Try.func36 rfl rfl Try.ntmps36 (by simp) fun ok => ?_
  simp only [go_sem, Nat.reduceBEq, Nat.reduceLT, Nat.reduceLeDiff, Nat.reduceEqDiff, Nat.reduceAdd, Nat.reduceSub, Nat.reduceMul, ↓reduceIte, Int.reduceLE, Int.reduceLT, Int.reduceNeg, Int.reduceToNat, Int.reduceAdd, Int.reduceSub, Int.reduceMul, reduceCtorEq] at ok
  simp only [go_sem, Nat.reduceBEq, Nat.reduceLT, Nat.reduceLeDiff, Nat.reduceEqDiff, Nat.reduceAdd, Nat.reduceSub, Nat.reduceMul, ↓reduceIte, Int.reduceLE, Int.reduceLT, Int.reduceNeg, Int.reduceToNat, Int.reduceAdd, Int.reduceSub, Int.reduceMul, reduceCtorEq, Try.results36]
  refine ⟨fun h => ?_, fun hlen => ?_⟩
  · simp only [false_eq_decide_iff]
    rintro rfl
    exact h rfl
  refine loop_of (E := Try.env 0) Try.tok (σ := Nat) (fun i => [(0, .d (dBs a)), (1, .d (dBs b)), (5, .d (dI i))]) (fun _ => []) (fun i => i ≤ a.length ∧ ∀ j, j < i → a.getD j false = b.getD j false) (fun i => a.length - i) [] 1000 1000 ?_ ?_ ?_
  · simp only [go_sem, Nat.reduceBEq, Nat.reduceLT, Nat.reduceLeDiff, Nat.reduceEqDiff, Nat.reduceAdd, Nat.reduceSub, Nat.reduceMul, ↓reduceIte, Int.reduceLE, Int.reduceLT, Int.reduceNeg, Int.reduceToNat, Int.reduceAdd, Int.reduceSub, Int.reduceMul, reduceCtorEq]
  · simp only [go_sem, Nat.reduceBEq, Nat.reduceLT, Nat.reduceLeDiff, Nat.reduceEqDiff, Nat.reduceAdd, Nat.reduceSub, Nat.reduceMul, ↓reduceIte, Int.reduceLE, Int.reduceLT, Int.reduceNeg, Int.reduceToNat, Int.reduceAdd, Int.reduceSub, Int.reduceMul, reduceCtorEq]
    exact ⟨0, ⟨by omega, by omega⟩, rfl⟩
  · intro i hi
    simp only [go_sem, Nat.reduceBEq, Nat.reduceLT, Nat.reduceLeDiff, Nat.reduceEqDiff, Nat.reduceAdd, Nat.reduceSub, Nat.reduceMul, ↓reduceIte, Int.reduceLE, Int.reduceLT, Int.reduceNeg, Int.reduceToNat, Int.reduceAdd, Int.reduceSub, Int.reduceMul, reduceCtorEq, Try.results36]
    refine ⟨fun h1 => ?_, fun h1 => ?_⟩
    · refine ⟨by kernel_rfl, h1, by omega, fun h2 => ?_, fun h2 => ⟨by rw [inK_i64]; omega, i + 1, ⟨by omega, fun j hj => ?_⟩, by omega, rfl⟩⟩
      · simp only [false_eq_decide_iff]
        rintro rfl
        exact h2 rfl
      · by_cases hji : j = i
        · subst hji; exact h2
        · exact hi.2 j (by omega)
    · simp only [true_eq_decide_iff]
      exact ext_getD false hlen fun j hj => hi.2 j (by omega)
end Go.Proofs

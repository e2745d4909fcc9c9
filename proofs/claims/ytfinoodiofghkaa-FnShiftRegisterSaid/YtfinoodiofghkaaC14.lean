/- Contracts: simulations that are drawn. Conditions: none; lemmas. -/
import Derived.Test.YtfinoodiofghkaaC9
set_option maxRecDepth 20000
set_option linter.unusedVariables false
set_option linter.unusedSimpArgs false
namespace Go.Proofs
open Go Go.VL

theorem Try.bools_at {b : List Int} (hb : Try.Bytes b) {p n : Int} (hp : 0 ≤ p ∧ p ≤ 100000000) (hn : n ≤ 1000) {T : List R} {K : I → List R → Prop} (hk : ∀ l : List Bool, l.length = n.toNat → K (.d (dBs l)) (Try.rd b (p + (n.toNat : Int)) :: T)) :
    ICall Try.prog 105 [.ptr 0 0, .d (dI n)] (Try.rd b p :: T) K := by
  refine call_icall (Try.c_l20Bools b p n hb hp hn) [0] (by simp only [go_sem, Nat.reduceBEq, Nat.reduceLT, Nat.reduceLeDiff, Nat.reduceEqDiff, Nat.reduceAdd, Nat.reduceSub, Nat.reduceMul, ↓reduceIte, Int.reduceLE, Int.reduceLT, Int.reduceNeg, Int.reduceToNat, Int.reduceAdd, Int.reduceSub, Int.reduceMul, reduceCtorEq]) ?_
  rintro r0 H1 ⟨l, hl, rfl, rfl⟩
  have := hk l hl
  simp only [go_sem, Nat.reduceBEq, Nat.reduceLT, Nat.reduceLeDiff, Nat.reduceEqDiff, Nat.reduceAdd, Nat.reduceSub, Nat.reduceMul, ↓reduceIte, Int.reduceLE, Int.reduceLT, Int.reduceNeg, Int.reduceToNat, Int.reduceAdd, Int.reduceSub, Int.reduceMul, reduceCtorEq]
  simpa using this
theorem Try.circ_at {b : List Int} (hb : Try.Bytes b) {p n : Int} (hp : 0 ≤ p ∧ p ≤ 100000000) (hn : 0 ≤ n ∧ n ≤ 1000) {T : List R} {K : I → List R → Prop} (hk : ∀ (c : Circ) (q : Int), (p ≤ q ∧ q ≤ p + 200) → (c.next.length ≤ 40 ∧ c.gates.length ≤ 40 ∧ c.outs.length ≤ 40 ∧ -1 ≤ c.inputs ∧ c.inputs ≤ 5) → K (.d (dC c)) (Try.rd b q :: T)) :
    ICall Try.prog 87 [.ptr 0 0, .d (dI n)] (Try.rd b p :: T) K := by
  refine call_icall (Try.c_l20Circuit b p n hb hp hn) [0] (by simp only [go_sem, Nat.reduceBEq, Nat.reduceLT, Nat.reduceLeDiff, Nat.reduceEqDiff, Nat.reduceAdd, Nat.reduceSub, Nat.reduceMul, ↓reduceIte, Int.reduceLE, Int.reduceLT, Int.reduceNeg, Int.reduceToNat, Int.reduceAdd, Int.reduceSub, Int.reduceMul, reduceCtorEq]) ?_
  rintro r0 H1 ⟨c, q, hq, hl, rfl, rfl⟩
  have := hk c q hq hl
  simp only [go_sem, Nat.reduceBEq, Nat.reduceLT, Nat.reduceLeDiff, Nat.reduceEqDiff, Nat.reduceAdd, Nat.reduceSub, Nat.reduceMul, ↓reduceIte, Int.reduceLE, Int.reduceLT, Int.reduceNeg, Int.reduceToNat, Int.reduceAdd, Int.reduceSub, Int.reduceMul, reduceCtorEq]
  simpa using this
theorem Try.c_l20Rows (b : List Int) (p n : Int) (hb : Try.Bytes b) (hp : 0 ≤ p ∧ p ≤ 10000000) (hn : 0 ≤ n ∧ n ≤ 8) :
    ICall Try.prog 119 [.ptr 0 0, .d (dI n)] [Try.rd b p] (fun r H' => ∃ (l : List (List Bool)) (q : Int), (p ≤ q ∧ q ≤ p + 100) ∧ (l.length ≤ 11 ∧ ∀ x ∈ l, x.length ≤ 8) ∧ r = .sl 1 l.length 1 0 l.length ∧ H' = [Try.rd b q, .row l.length 1 false (l.map fun x => dBs x)]) := by
  refine icall_of' (E := Try.env 1) Try.tok rfl 1000 Try.func119 rfl rfl Try.ntmps119 (by simp) ?_
  simp only [go_sem, Nat.reduceBEq, Nat.reduceLT, Nat.reduceLeDiff, Nat.reduceEqDiff, Nat.reduceAdd, Nat.reduceSub, Nat.reduceMul, ↓reduceIte, Int.reduceLE, Int.reduceLT, Int.reduceNeg, Int.reduceToNat, Int.reduceAdd, Int.reduceSub, Int.reduceMul, reduceCtorEq, Try.results119]
  refine Try.pick_at hb (by omega) fun x1 hx1 => ?_
  simp only [go_sem, Nat.reduceBEq, Nat.reduceLT, Nat.reduceLeDiff, Nat.reduceEqDiff, Nat.reduceAdd, Nat.reduceSub, Nat.reduceMul, ↓reduceIte, Int.reduceLE, Int.reduceLT, Int.reduceNeg, Int.reduceToNat, Int.reduceAdd, Int.reduceSub, Int.reduceMul, reduceCtorEq, Try.results119]
  refine loop_of (E := Try.env 1) Try.tok (σ := List (List Bool) × Int × Int) (fun s => [(0, .ptr 0 0), (1, .d (dI n)), (5, .sl 1 s.1.length 1 0 s.1.length), (6, .d (dI s.2.1))]) (fun s => [Try.rd b s.2.2, .row s.1.length 1 false (s.1.map fun x => dBs x)])
    (fun s => 0 ≤ s.2.1 ∧ s.1.length + s.2.1 ≤ 11 ∧ (p + 1 ≤ s.2.2 ∧ s.2.2 ≤ p + 1 + 8 * s.1.length) ∧ ∀ x ∈ s.1, x.length ≤ 8) (fun s => s.2.1.toNat) [] 1000 1000 ?_ ?_ ?_
  · simp only [go_sem, Nat.reduceBEq, Nat.reduceLT, Nat.reduceLeDiff, Nat.reduceEqDiff, Nat.reduceAdd, Nat.reduceSub, Nat.reduceMul, ↓reduceIte, Int.reduceLE, Int.reduceLT, Int.reduceNeg, Int.reduceToNat, Int.reduceAdd, Int.reduceSub, Int.reduceMul, reduceCtorEq]
  · simp only [go_sem, Nat.reduceBEq, Nat.reduceLT, Nat.reduceLeDiff, Nat.reduceEqDiff, Nat.reduceAdd, Nat.reduceSub, Nat.reduceMul, ↓reduceIte, Int.reduceLE, Int.reduceLT, Int.reduceNeg, Int.reduceToNat, Int.reduceAdd, Int.reduceSub, Int.reduceMul, reduceCtorEq]
    exact ⟨([], x1, p + 1), by simp; omega, by simp⟩
  · rintro ⟨l, k, q⟩ ⟨hk, hl, hq, hx⟩
    simp only at hk hl hq hx
    simp only [go_sem, Nat.reduceBEq, Nat.reduceLT, Nat.reduceLeDiff, Nat.reduceEqDiff, Nat.reduceAdd, Nat.reduceSub, Nat.reduceMul, ↓reduceIte, Int.reduceLE, Int.reduceLT, Int.reduceNeg, Int.reduceToNat, Int.reduceAdd, Int.reduceSub, Int.reduceMul, reduceCtorEq, Try.results119]
    refine ⟨fun h1 => ?_, fun h1 => ?_⟩
    · refine Try.bools_at hb (by omega) (by omega) fun y hy => ?_
      simp only [go_sem, Nat.reduceBEq, Nat.reduceLT, Nat.reduceLeDiff, Nat.reduceEqDiff, Nat.reduceAdd, Nat.reduceSub, Nat.reduceMul, ↓reduceIte, Int.reduceLE, Int.reduceLT, Int.reduceNeg, Int.reduceToNat, Int.reduceAdd, Int.reduceSub, Int.reduceMul, reduceCtorEq, Try.results119]
      repeat' first | assumption | (simp (disch := first | assumption | omega | (simp; done) | (simp; omega)) only [getD_bss, getD_iss, List.take_of_length_le, remV_pos]; try simp only [go_sem, Nat.reduceBEq, Nat.reduceLT, Nat.reduceLeDiff, Nat.reduceEqDiff, Nat.reduceAdd, Nat.reduceSub, Nat.reduceMul, ↓reduceIte, Int.reduceLE, Int.reduceLT, Int.reduceNeg, Int.reduceToNat, Int.reduceAdd, Int.reduceSub, Int.reduceMul, reduceCtorEq, Try.results119]) | (with_reducible refine And.intro ?_ ?_) | (with_reducible intro _) | (refine @Exists.intro I _ (I.d D.nil) ?_; simp only [go_sem, Nat.reduceBEq, Nat.reduceLT, Nat.reduceLeDiff, Nat.reduceEqDiff, Nat.reduceAdd, Nat.reduceSub, Nat.reduceMul, ↓reduceIte, Int.reduceLE, Int.reduceLT, Int.reduceNeg, Int.reduceToNat, Int.reduceAdd, Int.reduceSub, Int.reduceMul, reduceCtorEq, Try.results119]) | ((with_reducible (show Region.lexB _ _ = true)); kernel_rfl) | ((try rw [inK_i64]); omega)
      refine ⟨(l ++ [y], k - 1, q + n.toNat), ⟨by simp only; omega, by simp; omega, by simp; omega, ?_⟩, by simp only; omega, by simp, rfl, by simp, rfl⟩
      intro x hxx
      rcases List.mem_append.1 hxx with h2 | h2
      · exact hx x h2
      · rw [List.mem_singleton.1 h2]; omega
    · exact endI_same ⟨l, q, by omega, ⟨by omega, hx⟩, rfl, rfl⟩
theorem Try.c_l20Terns (b : List Int) (p many n : Int) (hb : Try.Bytes b) (hp : 0 ≤ p ∧ p ≤ 10000000) (hn : 0 ≤ n ∧ n ≤ 1000) (hm : 0 ≤ many ∧ many ≤ 100) :
    ICall Try.prog 88 [.ptr 0 0, .d (dI many), .d (dI n)] [Try.rd b p] (fun r H' => ∃ (l : List Int) (q : Int), (p ≤ q ∧ q ≤ p + many + 4) ∧ l.length ≤ 101 ∧ r = .d (dIs l) ∧ H' = [Try.rd b q]) := by
  refine icall_of' (E := Try.env 1) Try.tok rfl 1000 Try.func88 rfl rfl Try.ntmps88 (by simp) ?_
  simp only [go_sem, Nat.reduceBEq, Nat.reduceLT, Nat.reduceLeDiff, Nat.reduceEqDiff, Nat.reduceAdd, Nat.reduceSub, Nat.reduceMul, ↓reduceIte, Int.reduceLE, Int.reduceLT, Int.reduceNeg, Int.reduceToNat, Int.reduceAdd, Int.reduceSub, Int.reduceMul, reduceCtorEq, Try.results88]
  refine loop_of (E := Try.env 1) Try.tok (σ := List Int) (fun s => [(0, .ptr 0 0), (1, .d (dI many)), (2, .d (dI n)), (7, .sl 1 s.length 1 0 s.length), (8, .d (dI s.length))]) (fun s => [Try.rd b (p + (s.length : Int)), .row s.length 1 true (s.map (D.int .i64))])
    (fun s => s.length ≤ many) (fun s => many.toNat - s.length) [] 1000 1000 ?_ ?_ ?_
  · simp only [go_sem, Nat.reduceBEq, Nat.reduceLT, Nat.reduceLeDiff, Nat.reduceEqDiff, Nat.reduceAdd, Nat.reduceSub, Nat.reduceMul, ↓reduceIte, Int.reduceLE, Int.reduceLT, Int.reduceNeg, Int.reduceToNat, Int.reduceAdd, Int.reduceSub, Int.reduceMul, reduceCtorEq]
  · simp only [go_sem, Nat.reduceBEq, Nat.reduceLT, Nat.reduceLeDiff, Nat.reduceEqDiff, Nat.reduceAdd, Nat.reduceSub, Nat.reduceMul, ↓reduceIte, Int.reduceLE, Int.reduceLT, Int.reduceNeg, Int.reduceToNat, Int.reduceAdd, Int.reduceSub, Int.reduceMul, reduceCtorEq]
    exact ⟨[], by simp; omega, by simp⟩
  · intro s hs
    simp only [go_sem, Nat.reduceBEq, Nat.reduceLT, Nat.reduceLeDiff, Nat.reduceEqDiff, Nat.reduceAdd, Nat.reduceSub, Nat.reduceMul, ↓reduceIte, Int.reduceLE, Int.reduceLT, Int.reduceNeg, Int.reduceToNat, Int.reduceAdd, Int.reduceSub, Int.reduceMul, reduceCtorEq, Try.results88]
    refine ⟨fun h1 => ?_, fun h1 => ?_⟩
    · refine Try.pick_at hb (by omega) fun x1 hx1 => ?_
      simp only [go_sem, Nat.reduceBEq, Nat.reduceLT, Nat.reduceLeDiff, Nat.reduceEqDiff, Nat.reduceAdd, Nat.reduceSub, Nat.reduceMul, ↓reduceIte, Int.reduceLE, Int.reduceLT, Int.reduceNeg, Int.reduceToNat, Int.reduceAdd, Int.reduceSub, Int.reduceMul, reduceCtorEq, Try.results88]
      repeat' first | assumption | (simp (disch := first | assumption | omega | (simp; done) | (simp; omega)) only [getD_bss, getD_iss, List.take_of_length_le, remV_pos]; try simp only [go_sem, Nat.reduceBEq, Nat.reduceLT, Nat.reduceLeDiff, Nat.reduceEqDiff, Nat.reduceAdd, Nat.reduceSub, Nat.reduceMul, ↓reduceIte, Int.reduceLE, Int.reduceLT, Int.reduceNeg, Int.reduceToNat, Int.reduceAdd, Int.reduceSub, Int.reduceMul, reduceCtorEq, Try.results88]) | (with_reducible refine And.intro ?_ ?_) | (with_reducible intro _) | (refine @Exists.intro I _ (I.d D.nil) ?_; simp only [go_sem, Nat.reduceBEq, Nat.reduceLT, Nat.reduceLeDiff, Nat.reduceEqDiff, Nat.reduceAdd, Nat.reduceSub, Nat.reduceMul, ↓reduceIte, Int.reduceLE, Int.reduceLT, Int.reduceNeg, Int.reduceToNat, Int.reduceAdd, Int.reduceSub, Int.reduceMul, reduceCtorEq, Try.results88]) | ((with_reducible (show Region.lexB _ _ = true)); kernel_rfl) | ((try rw [inK_i64]); omega)
      exact ⟨s ++ [x1], by simp; omega, by simp; omega, by simp, by simp; omega, by simp, rfl⟩
    · refine Try.odd_at hb (by omega) hn fun x2 q2 hq2 hx2 => ?_
      simp only [go_sem, Nat.reduceBEq, Nat.reduceLT, Nat.reduceLeDiff, Nat.reduceEqDiff, Nat.reduceAdd, Nat.reduceSub, Nat.reduceMul, ↓reduceIte, Int.reduceLE, Int.reduceLT, Int.reduceNeg, Int.reduceToNat, Int.reduceAdd, Int.reduceSub, Int.reduceMul, reduceCtorEq, Try.results88]
      have fin : ∀ (l : List Int) (q2 : Int) (U : List R), p ≤ q2 → q2 ≤ p + many + 4 → l.length ≤ 101 → endI 1 (fun r H' => ∃ (l : List Int) (q : Int), (p ≤ q ∧ q ≤ p + many + 4) ∧ l.length ≤ 101 ∧ r = .d (dIs l) ∧ H' = [Try.rd b q]) (I.sl 1 l.length 1 0 l.length) (Try.rd b q2 :: .row l.length 1 true (l.map (D.int .i64)) :: U) := by
        intro l q2 U h3 h4 h5
        refine endI_frz (by simp) (by simp [go_sem]) ?_
        simp only [go_sem, Nat.reduceBEq, Nat.reduceLT, Nat.reduceLeDiff, Nat.reduceEqDiff, Nat.reduceAdd, Nat.reduceSub, Nat.reduceMul, ↓reduceIte, Int.reduceLE, Int.reduceLT, Int.reduceNeg, Int.reduceToNat, Int.reduceAdd, Int.reduceSub, Int.reduceMul, reduceCtorEq]
        exact ⟨l, q2, ⟨h3, h4⟩, h5, rfl, rfl⟩
      have fin1 := fun q3 U h3 h4 h5 => fin (s ++ [1]) q3 U h3 h4 h5
      have fin2 := fun k x q3 U h3 h4 h5 => fin (s.set k x) q3 U h3 h4 h5
      simp only [List.length_append, List.length_cons, List.length_nil, Nat.zero_add, List.length_set] at fin1 fin2
      repeat' first | assumption | (simp (disch := first | assumption | omega | (simp; done) | (simp; omega)) only [getD_bss, getD_iss, List.take_of_length_le, remV_pos]; try simp only [go_sem, Nat.reduceBEq, Nat.reduceLT, Nat.reduceLeDiff, Nat.reduceEqDiff, Nat.reduceAdd, Nat.reduceSub, Nat.reduceMul, ↓reduceIte, Int.reduceLE, Int.reduceLT, Int.reduceNeg, Int.reduceToNat, Int.reduceAdd, Int.reduceSub, Int.reduceMul, reduceCtorEq, Try.results88]) | (with_reducible refine And.intro ?_ ?_) | (with_reducible intro _) | (refine Try.pick_at hb (by omega) ?_; simp only [go_sem, Nat.reduceBEq, Nat.reduceLT, Nat.reduceLeDiff, Nat.reduceEqDiff, Nat.reduceAdd, Nat.reduceSub, Nat.reduceMul, ↓reduceIte, Int.reduceLE, Int.reduceLT, Int.reduceNeg, Int.reduceToNat, Int.reduceAdd, Int.reduceSub, Int.reduceMul, reduceCtorEq, Try.results88]) | (refine @Exists.intro I _ (I.d D.nil) ?_; simp only [go_sem, Nat.reduceBEq, Nat.reduceLT, Nat.reduceLeDiff, Nat.reduceEqDiff, Nat.reduceAdd, Nat.reduceSub, Nat.reduceMul, ↓reduceIte, Int.reduceLE, Int.reduceLT, Int.reduceNeg, Int.reduceToNat, Int.reduceAdd, Int.reduceSub, Int.reduceMul, reduceCtorEq, Try.results88]) | ((with_reducible (show Region.lexB _ _ = true)); kernel_rfl) | ((try rw [inK_i64]); omega)
      · exact fin1 _ _ (by omega) (by omega) (by omega)
      · exact fin1 _ _ (by omega) (by omega) (by omega)
      · exact fin2 _ _ _ _ (by omega) (by omega) (by omega)
      · exact fin s _ [] (by omega) (by omega) (by omega)
theorem Try.bools_at1 {b : List Int} (hb : Try.Bytes b) {p n : Int} (hp : 0 ≤ p ∧ p ≤ 100000000) (hn : n ≤ 1000) {A : R} {T : List R} {K : I → List R → Prop} (hk : ∀ l : List Bool, l.length = n.toNat → K (.d (dBs l)) (A :: Try.rd b (p + (n.toNat : Int)) :: T)) :
    ICall Try.prog 105 [.ptr 1 0, .d (dI n)] (A :: Try.rd b p :: T) K := by
  refine call_icall (Try.c_l20Bools b p n hb hp hn) [1] (by simp only [go_sem, Nat.reduceBEq, Nat.reduceLT, Nat.reduceLeDiff, Nat.reduceEqDiff, Nat.reduceAdd, Nat.reduceSub, Nat.reduceMul, ↓reduceIte, Int.reduceLE, Int.reduceLT, Int.reduceNeg, Int.reduceToNat, Int.reduceAdd, Int.reduceSub, Int.reduceMul, reduceCtorEq]) ?_
  rintro r0 H1 ⟨l, hl, rfl, rfl⟩
  have := hk l hl
  simp only [go_sem, Nat.reduceBEq, Nat.reduceLT, Nat.reduceLeDiff, Nat.reduceEqDiff, Nat.reduceAdd, Nat.reduceSub, Nat.reduceMul, ↓reduceIte, Int.reduceLE, Int.reduceLT, Int.reduceNeg, Int.reduceToNat, Int.reduceAdd, Int.reduceSub, Int.reduceMul, reduceCtorEq]
  simpa using this
theorem Try.circ_at1 {b : List Int} (hb : Try.Bytes b) {p n : Int} (hp : 0 ≤ p ∧ p ≤ 100000000) (hn : 0 ≤ n ∧ n ≤ 1000) {A : R} {T : List R} {K : I → List R → Prop} (hk : ∀ (c : Circ) (q : Int), (p ≤ q ∧ q ≤ p + 200) → (c.next.length ≤ 40 ∧ c.gates.length ≤ 40 ∧ c.outs.length ≤ 40 ∧ -1 ≤ c.inputs ∧ c.inputs ≤ 5) → K (.d (dC c)) (A :: Try.rd b q :: T)) :
    ICall Try.prog 87 [.ptr 1 0, .d (dI n)] (A :: Try.rd b p :: T) K := by
  refine call_icall (Try.c_l20Circuit b p n hb hp hn) [1] (by simp only [go_sem, Nat.reduceBEq, Nat.reduceLT, Nat.reduceLeDiff, Nat.reduceEqDiff, Nat.reduceAdd, Nat.reduceSub, Nat.reduceMul, ↓reduceIte, Int.reduceLE, Int.reduceLT, Int.reduceNeg, Int.reduceToNat, Int.reduceAdd, Int.reduceSub, Int.reduceMul, reduceCtorEq]) ?_
  rintro r0 H1 ⟨c, q, hq, hl, rfl, rfl⟩
  have := hk c q hq hl
  simp only [go_sem, Nat.reduceBEq, Nat.reduceLT, Nat.reduceLeDiff, Nat.reduceEqDiff, Nat.reduceAdd, Nat.reduceSub, Nat.reduceMul, ↓reduceIte, Int.reduceLE, Int.reduceLT, Int.reduceNeg, Int.reduceToNat, Int.reduceAdd, Int.reduceSub, Int.reduceMul, reduceCtorEq]
  simpa using this
theorem Try.odd_at1 {b : List Int} (hb : Try.Bytes b) {p n : Int} (hp : 0 ≤ p ∧ p ≤ 1000000000) (hn : 0 ≤ n ∧ n ≤ 1000) {A : R} {T : List R} {K : I → List R → Prop} (hk : ∀ x q, p ≤ q ∧ q ≤ p + 1 → (n = 0 → x = false) → K (.d (.bool x)) (A :: Try.rd b q :: T)) :
    ICall Try.prog 106 [.ptr 1 0, .d (dI n)] (A :: Try.rd b p :: T) K := by
  refine call_icall (Try.c_odd b p n hb hp hn) [1] (by simp only [go_sem, Nat.reduceBEq, Nat.reduceLT, Nat.reduceLeDiff, Nat.reduceEqDiff, Nat.reduceAdd, Nat.reduceSub, Nat.reduceMul, ↓reduceIte, Int.reduceLE, Int.reduceLT, Int.reduceNeg, Int.reduceToNat, Int.reduceAdd, Int.reduceSub, Int.reduceMul, reduceCtorEq]) ?_
  rintro r0 H1 ⟨x, q, hq, hx, rfl, rfl⟩
  have := hk x q hq hx
  simp only [go_sem, Nat.reduceBEq, Nat.reduceLT, Nat.reduceLeDiff, Nat.reduceEqDiff, Nat.reduceAdd, Nat.reduceSub, Nat.reduceMul, ↓reduceIte, Int.reduceLE, Int.reduceLT, Int.reduceNeg, Int.reduceToNat, Int.reduceAdd, Int.reduceSub, Int.reduceMul, reduceCtorEq]
  simpa using this
theorem Try.rows_at1 {b : List Int} (hb : Try.Bytes b) {p n : Int} (hp : 0 ≤ p ∧ p ≤ 10000000) (hn : 0 ≤ n ∧ n ≤ 8) {A : R} {T : List R} {K : I → List R → Prop} (hk : ∀ (l : List (List Bool)) (q : Int), (p ≤ q ∧ q ≤ p + 100) → l.length ≤ 11 → (∀ x ∈ l, x.length ≤ 8) → K (.sl (T.length + 2) l.length 1 0 l.length) (A :: Try.rd b q :: (T ++ [.row l.length 1 false (l.map fun x => dBs x)]))) :
    ICall Try.prog 119 [.ptr 1 0, .d (dI n)] (A :: Try.rd b p :: T) K := by
  refine call_icall (Try.c_l20Rows b p n hb hp hn) [1] (by simp only [go_sem, Nat.reduceBEq, Nat.reduceLT, Nat.reduceLeDiff, Nat.reduceEqDiff, Nat.reduceAdd, Nat.reduceSub, Nat.reduceMul, ↓reduceIte, Int.reduceLE, Int.reduceLT, Int.reduceNeg, Int.reduceToNat, Int.reduceAdd, Int.reduceSub, Int.reduceMul, reduceCtorEq]) ?_
  rintro r0 H1 ⟨l, q, hq, ⟨hl, hx⟩, rfl, rfl⟩
  have := hk l q hq hl hx
  simp only [go_sem, Nat.reduceBEq, Nat.reduceLT, Nat.reduceLeDiff, Nat.reduceEqDiff, Nat.reduceAdd, Nat.reduceSub, Nat.reduceMul, ↓reduceIte, Int.reduceLE, Int.reduceLT, Int.reduceNeg, Int.reduceToNat, Int.reduceAdd, Int.reduceSub, Int.reduceMul, reduceCtorEq]
  simpa using this
theorem Try.terns_at1 {b : List Int} (hb : Try.Bytes b) {p many n : Int} (hp : 0 ≤ p ∧ p ≤ 10000000) (hn : 0 ≤ n ∧ n ≤ 1000) (hm : 0 ≤ many ∧ many ≤ 100) {A : R} {T : List R} {K : I → List R → Prop} (hk : ∀ (l : List Int) (q : Int), (p ≤ q ∧ q ≤ p + many + 4) → l.length ≤ 101 → K (.d (dIs l)) (A :: Try.rd b q :: T)) :
    ICall Try.prog 88 [.ptr 1 0, .d (dI many), .d (dI n)] (A :: Try.rd b p :: T) K := by
  refine call_icall (Try.c_l20Terns b p many n hb hp hn hm) [1] (by simp only [go_sem, Nat.reduceBEq, Nat.reduceLT, Nat.reduceLeDiff, Nat.reduceEqDiff, Nat.reduceAdd, Nat.reduceSub, Nat.reduceMul, ↓reduceIte, Int.reduceLE, Int.reduceLT, Int.reduceNeg, Int.reduceToNat, Int.reduceAdd, Int.reduceSub, Int.reduceMul, reduceCtorEq]) ?_
  rintro r0 H1 ⟨l, q, hq, hl, rfl, rfl⟩
  have := hk l q hq hl
  simp only [go_sem, Nat.reduceBEq, Nat.reduceLT, Nat.reduceLeDiff, Nat.reduceEqDiff, Nat.reduceAdd, Nat.reduceSub, Nat.reduceMul, ↓reduceIte, Int.reduceLE, Int.reduceLT, Int.reduceNeg, Int.reduceToNat, Int.reduceAdd, Int.reduceSub, Int.reduceMul, reduceCtorEq]
  simpa using this
theorem Try.c_DrawSimulate (code : List Int) : PureFE Try.prog 66 [dUs code] (fun x => ∃ (c : Circ) (l : List (List Bool)), x = .tup [dC c, dBss l]) := by
  refine pureFE_of' (E := Try.env 0) Try.tok rfl 1000 Try.func66 rfl rfl Try.ntmps66 (by simp) fun ok => ?_
  simp only [go_sem, Nat.reduceBEq, Nat.reduceLT, Nat.reduceLeDiff, Nat.reduceEqDiff, Nat.reduceAdd, Nat.reduceSub, Nat.reduceMul, ↓reduceIte, Int.reduceLE, Int.reduceLT, Int.reduceNeg, Int.reduceToNat, Int.reduceAdd, Int.reduceSub, Int.reduceMul, reduceCtorEq] at ok
  simp only [go_sem, Nat.reduceBEq, Nat.reduceLT, Nat.reduceLeDiff, Nat.reduceEqDiff, Nat.reduceAdd, Nat.reduceSub, Nat.reduceMul, ↓reduceIte, Int.reduceLE, Int.reduceLT, Int.reduceNeg, Int.reduceToNat, Int.reduceAdd, Int.reduceSub, Int.reduceMul, reduceCtorEq, Try.results66]
  refine call_proc (Try.c_l20Open code) [] (by simp only [go_sem, Nat.reduceBEq, Nat.reduceLT, Nat.reduceLeDiff, Nat.reduceEqDiff, Nat.reduceAdd, Nat.reduceSub, Nat.reduceMul, ↓reduceIte, Int.reduceLE, Int.reduceLT, Int.reduceNeg, Int.reduceToNat, Int.reduceAdd, Int.reduceSub, Int.reduceMul, reduceCtorEq]) ?_
  simp only [go_sem, Nat.reduceBEq, Nat.reduceLT, Nat.reduceLeDiff, Nat.reduceEqDiff, Nat.reduceAdd, Nat.reduceSub, Nat.reduceMul, ↓reduceIte, Int.reduceLE, Int.reduceLT, Int.reduceNeg, Int.reduceToNat, Int.reduceAdd, Int.reduceSub, Int.reduceMul, reduceCtorEq, Try.results66]
  refine Try.circ_at1 (p := 0) (n := 12) (Try.bytes_of ok.2 2000) (by omega) (by omega) fun c q hq hc => ?_
  simp only [go_sem, Nat.reduceBEq, Nat.reduceLT, Nat.reduceLeDiff, Nat.reduceEqDiff, Nat.reduceAdd, Nat.reduceSub, Nat.reduceMul, ↓reduceIte, Int.reduceLE, Int.reduceLT, Int.reduceNeg, Int.reduceToNat, Int.reduceAdd, Int.reduceSub, Int.reduceMul, reduceCtorEq, Try.results66]
  refine Try.rows_at1 (Try.bytes_of ok.2 2000) (by omega) (by omega) fun l q2 hq2 hl hx => ?_
  simp only [go_sem, Nat.reduceBEq, Nat.reduceLT, Nat.reduceLeDiff, Nat.reduceEqDiff, Nat.reduceAdd, Nat.reduceSub, Nat.reduceMul, ↓reduceIte, Int.reduceLE, Int.reduceLT, Int.reduceNeg, Int.reduceToNat, Int.reduceAdd, Int.reduceSub, Int.reduceMul, reduceCtorEq, Try.results66]
  refine Try.odd_at1 (Try.bytes_of ok.2 2000) (by omega) (by omega) fun y q3 hq3 _ => ?_
  simp only [go_sem, Nat.reduceBEq, Nat.reduceLT, Nat.reduceLeDiff, Nat.reduceEqDiff, Nat.reduceAdd, Nat.reduceSub, Nat.reduceMul, ↓reduceIte, Int.reduceLE, Int.reduceLT, Int.reduceNeg, Int.reduceToNat, Int.reduceAdd, Int.reduceSub, Int.reduceMul, reduceCtorEq, Try.results66]
  have hrv := remV_bd c.inputs (y := 4) (by omega)
  repeat' first | assumption | (simp (disch := first | assumption | omega | (simp; done) | (simp; omega)) only [getD_bss, getD_iss, List.take_of_length_le, remV_pos]; try simp only [go_sem, Nat.reduceBEq, Nat.reduceLT, Nat.reduceLeDiff, Nat.reduceEqDiff, Nat.reduceAdd, Nat.reduceSub, Nat.reduceMul, ↓reduceIte, Int.reduceLE, Int.reduceLT, Int.reduceNeg, Int.reduceToNat, Int.reduceAdd, Int.reduceSub, Int.reduceMul, reduceCtorEq, Try.results66]) | (with_reducible refine And.intro ?_ ?_) | (with_reducible intro _) | (refine Try.bools_at1 (Try.bytes_of ok.2 2000) (by omega) (by omega) ?_; simp only [go_sem, Nat.reduceBEq, Nat.reduceLT, Nat.reduceLeDiff, Nat.reduceEqDiff, Nat.reduceAdd, Nat.reduceSub, Nat.reduceMul, ↓reduceIte, Int.reduceLE, Int.reduceLT, Int.reduceNeg, Int.reduceToNat, Int.reduceAdd, Int.reduceSub, Int.reduceMul, reduceCtorEq, Try.results66]) | (refine Try.odd_at1 (Try.bytes_of ok.2 2000) (by omega) (by omega) ?_; simp only [go_sem, Nat.reduceBEq, Nat.reduceLT, Nat.reduceLeDiff, Nat.reduceEqDiff, Nat.reduceAdd, Nat.reduceSub, Nat.reduceMul, ↓reduceIte, Int.reduceLE, Int.reduceLT, Int.reduceNeg, Int.reduceToNat, Int.reduceAdd, Int.reduceSub, Int.reduceMul, reduceCtorEq, Try.results66]) | (refine @Exists.intro I _ (I.d D.nil) ?_; simp only [go_sem, Nat.reduceBEq, Nat.reduceLT, Nat.reduceLeDiff, Nat.reduceEqDiff, Nat.reduceAdd, Nat.reduceSub, Nat.reduceMul, ↓reduceIte, Int.reduceLE, Int.reduceLT, Int.reduceNeg, Int.reduceToNat, Int.reduceAdd, Int.reduceSub, Int.reduceMul, reduceCtorEq, Try.results66]) | ((with_reducible (show Region.lexB _ _ = true)); kernel_rfl) | ((try rw [inK_i64]); omega)
  all_goals first
    | exact ⟨_, of_eq_true wk_self, c, _, rfl⟩
    | skip
  all_goals (
    rename_i q4 _ hq4 _ _
    refine loop_of (E := Try.env 0) Try.tok (σ := List (List Bool) × Int) (fun s => [(2, .ptr 0 0), (3, .d .nil), (4, .ptr 1 0), (5, .ptr 2 0), (6, .sl 3 s.1.length 1 0 s.1.length)])
      (fun s => [.box [.d (dI 0), .d .nil, .d .nil, .d .nil], Try.rd (code.take 2000) s.2, .box [.d (dI c.inputs), .d (dIs c.next), .d (dPs c.gates), .d (dIs c.outs)], .row s.1.length 1 false (s.1.map fun x => dBs x)])
      (fun s => s.1.length ≤ 41 ∧ 0 ≤ s.2 ∧ s.2 ≤ 400 + 8 * s.1.length) (fun s => 41 - s.1.length) [] 1000 1000 ?_ ?_ ?_
    · simp only [go_sem, Nat.reduceBEq, Nat.reduceLT, Nat.reduceLeDiff, Nat.reduceEqDiff, Nat.reduceAdd, Nat.reduceSub, Nat.reduceMul, ↓reduceIte, Int.reduceLE, Int.reduceLT, Int.reduceNeg, Int.reduceToNat, Int.reduceAdd, Int.reduceSub, Int.reduceMul, reduceCtorEq]
    · simp only [go_sem, Nat.reduceBEq, Nat.reduceLT, Nat.reduceLeDiff, Nat.reduceEqDiff, Nat.reduceAdd, Nat.reduceSub, Nat.reduceMul, ↓reduceIte, Int.reduceLE, Int.reduceLT, Int.reduceNeg, Int.reduceToNat, Int.reduceAdd, Int.reduceSub, Int.reduceMul, reduceCtorEq]
      first
        | exact ⟨(l, _), by simp only; omega, rfl, rfl, rfl, rfl⟩
        | exact ⟨(l ++ [_], _), by simp only [List.length_append, List.length_cons, List.length_nil]; omega, by simp, rfl, by simp, rfl⟩
    · rintro ⟨l, q⟩ hi
      simp only at hi
      simp only [go_sem, Nat.reduceBEq, Nat.reduceLT, Nat.reduceLeDiff, Nat.reduceEqDiff, Nat.reduceAdd, Nat.reduceSub, Nat.reduceMul, ↓reduceIte, Int.reduceLE, Int.reduceLT, Int.reduceNeg, Int.reduceToNat, Int.reduceAdd, Int.reduceSub, Int.reduceMul, reduceCtorEq, Try.results66]
      repeat' first | assumption | (simp (disch := first | assumption | omega | (simp; done) | (simp; omega)) only [getD_bss, getD_iss, List.take_of_length_le, remV_pos]; try simp only [go_sem, Nat.reduceBEq, Nat.reduceLT, Nat.reduceLeDiff, Nat.reduceEqDiff, Nat.reduceAdd, Nat.reduceSub, Nat.reduceMul, ↓reduceIte, Int.reduceLE, Int.reduceLT, Int.reduceNeg, Int.reduceToNat, Int.reduceAdd, Int.reduceSub, Int.reduceMul, reduceCtorEq, Try.results66]) | (with_reducible refine And.intro ?_ ?_) | (with_reducible intro _) | (refine Try.bools_at1 (Try.bytes_of ok.2 2000) (by omega) (by omega) ?_; simp only [go_sem, Nat.reduceBEq, Nat.reduceLT, Nat.reduceLeDiff, Nat.reduceEqDiff, Nat.reduceAdd, Nat.reduceSub, Nat.reduceMul, ↓reduceIte, Int.reduceLE, Int.reduceLT, Int.reduceNeg, Int.reduceToNat, Int.reduceAdd, Int.reduceSub, Int.reduceMul, reduceCtorEq, Try.results66]) | (refine @Exists.intro I _ (I.d D.nil) ?_; simp only [go_sem, Nat.reduceBEq, Nat.reduceLT, Nat.reduceLeDiff, Nat.reduceEqDiff, Nat.reduceAdd, Nat.reduceSub, Nat.reduceMul, ↓reduceIte, Int.reduceLE, Int.reduceLT, Int.reduceNeg, Int.reduceToNat, Int.reduceAdd, Int.reduceSub, Int.reduceMul, reduceCtorEq, Try.results66]) | ((with_reducible (show Region.lexB _ _ = true)); kernel_rfl) | ((try rw [inK_i64]); omega)
      all_goals first
        | exact ⟨(l ++ [_], _), by simp only [List.length_append, List.length_cons, List.length_nil]; omega, by simp; omega, by simp, rfl, by simp, rfl⟩
        | exact ⟨_, of_eq_true wk_self, c, _, rfl⟩)
theorem Try.c_DrawEvalTernary (code : List Int) : PureFE Try.prog 35 [dUs code] (fun x => ∃ (c : Circ) (a b : List Int), x = .tup [dC c, dIs a, dIs b]) := by
  refine pureFE_of' (E := Try.env 0) Try.tok rfl 1000 Try.func35 rfl rfl Try.ntmps35 (by simp) fun ok => ?_
  simp only [go_sem, Nat.reduceBEq, Nat.reduceLT, Nat.reduceLeDiff, Nat.reduceEqDiff, Nat.reduceAdd, Nat.reduceSub, Nat.reduceMul, ↓reduceIte, Int.reduceLE, Int.reduceLT, Int.reduceNeg, Int.reduceToNat, Int.reduceAdd, Int.reduceSub, Int.reduceMul, reduceCtorEq] at ok
  simp only [go_sem, Nat.reduceBEq, Nat.reduceLT, Nat.reduceLeDiff, Nat.reduceEqDiff, Nat.reduceAdd, Nat.reduceSub, Nat.reduceMul, ↓reduceIte, Int.reduceLE, Int.reduceLT, Int.reduceNeg, Int.reduceToNat, Int.reduceAdd, Int.reduceSub, Int.reduceMul, reduceCtorEq, Try.results35]
  refine call_proc (Try.c_l20Open code) [] (by simp only [go_sem, Nat.reduceBEq, Nat.reduceLT, Nat.reduceLeDiff, Nat.reduceEqDiff, Nat.reduceAdd, Nat.reduceSub, Nat.reduceMul, ↓reduceIte, Int.reduceLE, Int.reduceLT, Int.reduceNeg, Int.reduceToNat, Int.reduceAdd, Int.reduceSub, Int.reduceMul, reduceCtorEq]) ?_
  simp only [go_sem, Nat.reduceBEq, Nat.reduceLT, Nat.reduceLeDiff, Nat.reduceEqDiff, Nat.reduceAdd, Nat.reduceSub, Nat.reduceMul, ↓reduceIte, Int.reduceLE, Int.reduceLT, Int.reduceNeg, Int.reduceToNat, Int.reduceAdd, Int.reduceSub, Int.reduceMul, reduceCtorEq, Try.results35]
  refine Try.circ_at1 (p := 0) (n := 12) (Try.bytes_of ok.2 2000) (by omega) (by omega) fun c q hq hc => ?_
  simp only [go_sem, Nat.reduceBEq, Nat.reduceLT, Nat.reduceLeDiff, Nat.reduceEqDiff, Nat.reduceAdd, Nat.reduceSub, Nat.reduceMul, ↓reduceIte, Int.reduceLE, Int.reduceLT, Int.reduceNeg, Int.reduceToNat, Int.reduceAdd, Int.reduceSub, Int.reduceMul, reduceCtorEq, Try.results35]
  refine drawn_of (E := Try.env 0) Try.tok Try.follows 1000 1000 [5, 11, 12] (.fst 1 (.fst 2 (.fst 6 (.fst 7 (.fst 3 (.fst 4 (.three 0 (.two 5 (.one 8 (.fst 9 (.fst 10 (.one 11 (.one 12 (.fst 13 (.fst 14 (.done)))))))) 8 (.fst 9 (.fst 10 (.one 5 (.one 11 (.one 12 (.fst 13 (.fst 14 (.done))))))))) 5 (.two 0 (.one 8 (.fst 9 (.fst 10 (.one 11 (.one 12 (.fst 13 (.fst 14 (.done)))))))) 8 (.fst 9 (.fst 10 (.two 0 (.one 11 (.one 12 (.fst 13 (.fst 14 (.done))))) 11 (.one 0 (.one 12 (.fst 13 (.fst 14 (.done))))))))) 8 (.fst 9 (.fst 10 (.two 0 (.one 5 (.one 11 (.one 12 (.fst 13 (.fst 14 (.done)))))) 5 (.two 0 (.one 11 (.one 12 (.fst 13 (.fst 14 (.done))))) 11 (.one 0 (.one 12 (.fst 13 (.fst 14 (.done)))))))))))))))) (by kernel_rfl) ?_
  simp only [go_sem, Nat.reduceBEq, Nat.reduceLT, Nat.reduceLeDiff, Nat.reduceEqDiff, Nat.reduceAdd, Nat.reduceSub, Nat.reduceMul, ↓reduceIte, Int.reduceLE, Int.reduceLT, Int.reduceNeg, Int.reduceToNat, Int.reduceAdd, Int.reduceSub, Int.reduceMul, reduceCtorEq, Try.results35]
  repeat' first | assumption | (simp (disch := first | assumption | omega | (simp; done) | (simp; omega)) only [getD_bss, getD_iss, List.take_of_length_le, remV_pos]; try simp only [go_sem, Nat.reduceBEq, Nat.reduceLT, Nat.reduceLeDiff, Nat.reduceEqDiff, Nat.reduceAdd, Nat.reduceSub, Nat.reduceMul, ↓reduceIte, Int.reduceLE, Int.reduceLT, Int.reduceNeg, Int.reduceToNat, Int.reduceAdd, Int.reduceSub, Int.reduceMul, reduceCtorEq, Try.results35]) | (with_reducible refine And.intro ?_ ?_) | (with_reducible intro _) | (refine Try.terns_at1 (Try.bytes_of ok.2 2000) (by omega) (by omega) (by omega) ?_; simp only [go_sem, Nat.reduceBEq, Nat.reduceLT, Nat.reduceLeDiff, Nat.reduceEqDiff, Nat.reduceAdd, Nat.reduceSub, Nat.reduceMul, ↓reduceIte, Int.reduceLE, Int.reduceLT, Int.reduceNeg, Int.reduceToNat, Int.reduceAdd, Int.reduceSub, Int.reduceMul, reduceCtorEq, Try.results35]) | (refine @Exists.intro I _ (I.d D.nil) ?_; simp only [go_sem, Nat.reduceBEq, Nat.reduceLT, Nat.reduceLeDiff, Nat.reduceEqDiff, Nat.reduceAdd, Nat.reduceSub, Nat.reduceMul, ↓reduceIte, Int.reduceLE, Int.reduceLT, Int.reduceNeg, Int.reduceToNat, Int.reduceAdd, Int.reduceSub, Int.reduceMul, reduceCtorEq, Try.results35]) | ((with_reducible (show Region.lexB _ _ = true)); kernel_rfl) | ((try rw [inK_i64]); omega)
  all_goals exact ⟨_, of_eq_true wk_self, c, _, _, rfl⟩
theorem Try.c_DrawToggles (code : List Int) : PureFE Try.prog 15 [dUs code] (fun x => ∃ (c : Circ) (l : List (List Bool)), x = .tup [dC c, dBss l]) := by
  refine pureFE_of' (E := Try.env 0) Try.tok rfl 1000 Try.func15 rfl rfl Try.ntmps15 (by simp) fun ok => ?_
  simp only [go_sem, Nat.reduceBEq, Nat.reduceLT, Nat.reduceLeDiff, Nat.reduceEqDiff, Nat.reduceAdd, Nat.reduceSub, Nat.reduceMul, ↓reduceIte, Int.reduceLE, Int.reduceLT, Int.reduceNeg, Int.reduceToNat, Int.reduceAdd, Int.reduceSub, Int.reduceMul, reduceCtorEq] at ok
  simp only [go_sem, Nat.reduceBEq, Nat.reduceLT, Nat.reduceLeDiff, Nat.reduceEqDiff, Nat.reduceAdd, Nat.reduceSub, Nat.reduceMul, ↓reduceIte, Int.reduceLE, Int.reduceLT, Int.reduceNeg, Int.reduceToNat, Int.reduceAdd, Int.reduceSub, Int.reduceMul, reduceCtorEq, Try.results15]
  refine fcallE_of (Try.c_DrawSimulate code) ?_
  rintro x ⟨c, l, rfl⟩
  simp only [go_sem, Nat.reduceBEq, Nat.reduceLT, Nat.reduceLeDiff, Nat.reduceEqDiff, Nat.reduceAdd, Nat.reduceSub, Nat.reduceMul, ↓reduceIte, Int.reduceLE, Int.reduceLT, Int.reduceNeg, Int.reduceToNat, Int.reduceAdd, Int.reduceSub, Int.reduceMul, reduceCtorEq, Try.results15]
  exact ⟨_, of_eq_true wk_self, c, _, rfl⟩
theorem Try.c_DrawActivity (code : List Int) : PureFE Try.prog 21 [dUs code] (fun x => ∃ (c : Circ) (l : List (List Bool)), x = .tup [dC c, dBss l]) := by
  refine pureFE_of' (E := Try.env 0) Try.tok rfl 1000 Try.func21 rfl rfl Try.ntmps21 (by simp) fun ok => ?_
  simp only [go_sem, Nat.reduceBEq, Nat.reduceLT, Nat.reduceLeDiff, Nat.reduceEqDiff, Nat.reduceAdd, Nat.reduceSub, Nat.reduceMul, ↓reduceIte, Int.reduceLE, Int.reduceLT, Int.reduceNeg, Int.reduceToNat, Int.reduceAdd, Int.reduceSub, Int.reduceMul, reduceCtorEq] at ok
  simp only [go_sem, Nat.reduceBEq, Nat.reduceLT, Nat.reduceLeDiff, Nat.reduceEqDiff, Nat.reduceAdd, Nat.reduceSub, Nat.reduceMul, ↓reduceIte, Int.reduceLE, Int.reduceLT, Int.reduceNeg, Int.reduceToNat, Int.reduceAdd, Int.reduceSub, Int.reduceMul, reduceCtorEq, Try.results21]
  refine fcallE_of (Try.c_DrawSimulate code) ?_
  rintro x ⟨c, l, rfl⟩
  simp only [go_sem, Nat.reduceBEq, Nat.reduceLT, Nat.reduceLeDiff, Nat.reduceEqDiff, Nat.reduceAdd, Nat.reduceSub, Nat.reduceMul, ↓reduceIte, Int.reduceLE, Int.reduceLT, Int.reduceNeg, Int.reduceToNat, Int.reduceAdd, Int.reduceSub, Int.reduceMul, reduceCtorEq, Try.results21]
  exact ⟨_, of_eq_true wk_self, c, _, rfl⟩
end Go.Proofs

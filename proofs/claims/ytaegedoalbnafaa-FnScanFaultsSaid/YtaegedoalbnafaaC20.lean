/- Contracts: scan chains, the specification's. Conditions: none; lemmas. -/
import Derived.Test.YtaegedoalbnafaaC18
import Derived.Test.YtaegedoalbnafaaC13
set_option maxRecDepth 20000
set_option linter.unusedVariables false
set_option linter.unusedSimpArgs false
namespace Go.Proofs
open Go Go.VL

theorem even_xor1 : ∀ m : Nat, m ≤ 500 → (2 * m) ^^^ 1 = 2 * m + 1 := by decide +kernel
theorem even_xor {a l : Int} (h0 : 0 ≤ a) (h1 : a ≤ 1000) (h2 : a % 2 = 0) : ((a.toNat ^^^ (l % 2).toNat : Nat) : Int) = a + l % 2 := by
  rcases (show l % 2 = 0 ∨ l % 2 = 1 by omega) with h | h
  · rw [h]; simp; omega
  · rw [h, show a.toNat = 2 * (a / 2).toNat by omega, show (1 : Int).toNat = 1 from rfl, even_xor1 _ (by omega)]; omega
theorem Try.c_l3Map (m : List Int) (l : Int) (h : 0 ≤ l ∧ l < 2 * m.length) (hm : ∀ v, v < m.length → 0 ≤ m.getD v 0 ∧ m.getD v 0 ≤ 1000 ∧ m.getD v 0 % 2 = 0) : Pure Try.prog 74 [dIs m, dI l] (dI (m.getD (l / 2).toNat 0 + l % 2)) := by
  refine pure_of' (E := Try.env 0) Try.tok rfl 1000 Try.func74 rfl rfl Try.ntmps74 (by simp) fun ok => ?_
  simp only [go_sem, Nat.reduceBEq, Nat.reduceLT, Nat.reduceLeDiff, Nat.reduceEqDiff, Nat.reduceAdd, Nat.reduceSub, Nat.reduceMul, ↓reduceIte, Int.reduceLE, Int.reduceLT, Int.reduceNeg, Int.reduceToNat, Int.reduceAdd, Int.reduceSub, Int.reduceMul, reduceCtorEq] at ok
  simp only [go_sem, Nat.reduceBEq, Nat.reduceLT, Nat.reduceLeDiff, Nat.reduceEqDiff, Nat.reduceAdd, Nat.reduceSub, Nat.reduceMul, ↓reduceIte, Int.reduceLE, Int.reduceLT, Int.reduceNeg, Int.reduceToNat, Int.reduceAdd, Int.reduceSub, Int.reduceMul, reduceCtorEq, Try.results74]
  have := hm (l / 2).toNat (by omega)
  repeat' first | assumption | (simp (disch := first | assumption | omega | (simp; done) | (simp; omega)) only [getD_bss, getD_iss, List.take_of_length_le, remV_pos]; try simp only [go_sem, Nat.reduceBEq, Nat.reduceLT, Nat.reduceLeDiff, Nat.reduceEqDiff, Nat.reduceAdd, Nat.reduceSub, Nat.reduceMul, ↓reduceIte, Int.reduceLE, Int.reduceLT, Int.reduceNeg, Int.reduceToNat, Int.reduceAdd, Int.reduceSub, Int.reduceMul, reduceCtorEq, Try.results74]) | (with_reducible refine And.intro ?_ ?_) | (with_reducible intro _) | (refine @Exists.intro I _ (I.d D.nil) ?_; simp only [go_sem, Nat.reduceBEq, Nat.reduceLT, Nat.reduceLeDiff, Nat.reduceEqDiff, Nat.reduceAdd, Nat.reduceSub, Nat.reduceMul, ↓reduceIte, Int.reduceLE, Int.reduceLT, Int.reduceNeg, Int.reduceToNat, Int.reduceAdd, Int.reduceSub, Int.reduceMul, reduceCtorEq, Try.results74]) | ((with_reducible (show Region.lexB _ _ = true)); kernel_rfl) | ((try rw [inK_i64]); omega)
  exact even_xor (by omega) (by omega) this.2.2
def scanMap (c : Circ) (n : Nat) : List Int := (List.range n).map fun (v : Nat) => if (v : Int) ≤ c.inputs then 2 * (v : Int) else 2 * (v : Int) + 4
theorem scanMap_len (c : Circ) (n : Nat) : (scanMap c n).length = n := by simp [scanMap]
theorem scanMap_get (c : Circ) {n v : Nat} (h : v < n) : (scanMap c n).getD v 0 = if (v : Int) ≤ c.inputs then 2 * (v : Int) else 2 * (v : Int) + 4 := by simp [scanMap, List.getD, h]
theorem scanMap_succ (c : Circ) (n : Nat) : scanMap c (n + 1) = scanMap c n ++ [if (n : Int) ≤ c.inputs then 2 * (n : Int) else 2 * (n : Int) + 4] := by simp [scanMap, List.range_succ]
theorem scanMap_lit (c : Circ) {n : Nat} {l : Int} (h0 : 0 ≤ l) (h1 : l < 2 * n) : (scanMap c n).getD (l / 2).toNat 0 + l % 2 = scanLit (2 * (1 + c.inputs)) l := by
  rw [scanMap_get c (by omega), scanLit]
  split <;> split <;> omega
theorem scanMap_ok (c : Circ) {n : Nat} (hn : n ≤ 400) (v : Nat) (h : v < (scanMap c n).length) : 0 ≤ (scanMap c n).getD v 0 ∧ (scanMap c n).getD v 0 ≤ 1000 ∧ (scanMap c n).getD v 0 % 2 = 0 := by
  rw [scanMap_len] at h
  rw [scanMap_get c h]
  split <;> omega
set_option maxHeartbeats 1000000 in
theorem Try.c_sInsertScan (c : Circ) (hc : canScan c) : Pure Try.prog 18 [dC c] (dC (scanned c)) := by
  refine pure_of' (E := Try.env 0) Try.tok rfl 1000 Try.func18 rfl rfl Try.ntmps18 (by simp) fun ok => ?_
  simp only [go_sem, Nat.reduceBEq, Nat.reduceLT, Nat.reduceLeDiff, Nat.reduceEqDiff, Nat.reduceAdd, Nat.reduceSub, Nat.reduceMul, ↓reduceIte, Int.reduceLE, Int.reduceLT, Int.reduceNeg, Int.reduceToNat, Int.reduceAdd, Int.reduceSub, Int.reduceMul, reduceCtorEq] at ok
  simp only [go_sem, Nat.reduceBEq, Nat.reduceLT, Nat.reduceLeDiff, Nat.reduceEqDiff, Nat.reduceAdd, Nat.reduceSub, Nat.reduceMul, ↓reduceIte, Int.reduceLE, Int.reduceLT, Int.reduceNeg, Int.reduceToNat, Int.reduceAdd, Int.reduceSub, Int.reduceMul, reduceCtorEq, Try.results18]
  refine pcall_fz (Try.c_sCanScan c) ?_
  simp only [hc, decide_true]
  simp only [go_sem, Nat.reduceBEq, Nat.reduceLT, Nat.reduceLeDiff, Nat.reduceEqDiff, Nat.reduceAdd, Nat.reduceSub, Nat.reduceMul, ↓reduceIte, Int.reduceLE, Int.reduceLT, Int.reduceNeg, Int.reduceToNat, Int.reduceAdd, Int.reduceSub, Int.reduceMul, reduceCtorEq, Try.results18]
  obtain ⟨hv, hc1, hc2, hc3, hc4⟩ := hc
  have hb := hv.vars_bd
  have hf := hv.first_bd
  have hi0 := hv.i0
  have hi1 := hv.i1
  have hve : c.vars = c.first + c.gates.length := rfl
  refine loop_of (E := Try.env 0) Try.tok (σ := Nat) (fun i => [(1, .ptr 0 0), (2, .ptr 1 0), (3, .sl 2 i 1 0 i), (4, .d (dI i))])
    (fun i => [.box [.d (dI c.inputs), .d (dIs c.next), .d (dPs c.gates), .d (dIs c.outs)], .box [.d (dI 0), .d .nil, .d .nil, .d .nil], .row i 1 true ((scanMap c i).map (D.int .i64))]) (fun i => i ≤ c.vars) (fun i => c.vars.toNat - i) [] 1000 1000 ?_ ?_ ?_
  · simp only [go_sem, Nat.reduceBEq, Nat.reduceLT, Nat.reduceLeDiff, Nat.reduceEqDiff, Nat.reduceAdd, Nat.reduceSub, Nat.reduceMul, ↓reduceIte, Int.reduceLE, Int.reduceLT, Int.reduceNeg, Int.reduceToNat, Int.reduceAdd, Int.reduceSub, Int.reduceMul, reduceCtorEq]
  · simp only [go_sem, Nat.reduceBEq, Nat.reduceLT, Nat.reduceLeDiff, Nat.reduceEqDiff, Nat.reduceAdd, Nat.reduceSub, Nat.reduceMul, ↓reduceIte, Int.reduceLE, Int.reduceLT, Int.reduceNeg, Int.reduceToNat, Int.reduceAdd, Int.reduceSub, Int.reduceMul, reduceCtorEq]
    exact ⟨0, by omega, ⟨rfl, rfl⟩, rfl, rfl⟩
  · intro i hi
    have hml := scanMap_len c i
    simp only [go_sem, Nat.reduceBEq, Nat.reduceLT, Nat.reduceLeDiff, Nat.reduceEqDiff, Nat.reduceAdd, Nat.reduceSub, Nat.reduceMul, ↓reduceIte, Int.reduceLE, Int.reduceLT, Int.reduceNeg, Int.reduceToNat, Int.reduceAdd, Int.reduceSub, Int.reduceMul, reduceCtorEq, Try.results18]
    repeat' first | assumption | (simp (disch := first | assumption | omega | (simp; done) | (simp; omega)) only [getD_bss, getD_iss, List.take_of_length_le, remV_pos]; try simp only [go_sem, Nat.reduceBEq, Nat.reduceLT, Nat.reduceLeDiff, Nat.reduceEqDiff, Nat.reduceAdd, Nat.reduceSub, Nat.reduceMul, ↓reduceIte, Int.reduceLE, Int.reduceLT, Int.reduceNeg, Int.reduceToNat, Int.reduceAdd, Int.reduceSub, Int.reduceMul, reduceCtorEq, Try.results18]) | (with_reducible refine And.intro ?_ ?_) | (with_reducible intro _) | (refine qcall_of (fun _ => ⟨Try.c_l1First c (by omega), by simp only [scal, inK_i64]; omega⟩) ?_; simp only [go_sem, Nat.reduceBEq, Nat.reduceLT, Nat.reduceLeDiff, Nat.reduceEqDiff, Nat.reduceAdd, Nat.reduceSub, Nat.reduceMul, ↓reduceIte, Int.reduceLE, Int.reduceLT, Int.reduceNeg, Int.reduceToNat, Int.reduceAdd, Int.reduceSub, Int.reduceMul, reduceCtorEq, Try.results18]) | (refine @Exists.intro I _ (I.d D.nil) ?_; simp only [go_sem, Nat.reduceBEq, Nat.reduceLT, Nat.reduceLeDiff, Nat.reduceEqDiff, Nat.reduceAdd, Nat.reduceSub, Nat.reduceMul, ↓reduceIte, Int.reduceLE, Int.reduceLT, Int.reduceNeg, Int.reduceToNat, Int.reduceAdd, Int.reduceSub, Int.reduceMul, reduceCtorEq, Try.results18]) | ((with_reducible (show Region.lexB _ _ = true)); kernel_rfl) | ((try rw [inK_i64]); omega)
    · exact ⟨i + 1, by omega, by omega, rfl, rfl, by rw [scanMap_succ, if_pos (by assumption)]⟩
    · exact ⟨i + 1, by omega, by omega, rfl, rfl, by rw [scanMap_succ, if_neg (by assumption)]⟩
    rename_i hge
    have hmo := scanMap_ok c (n := i) (by omega)
    have hgl : ∀ {l : Int}, 0 ≤ l → l < 2 * (i : Int) → Pure Try.prog 74 [dIs (scanMap c i), dI l] (dI (scanLit (2 * (1 + c.inputs)) l)) := by
      intro l q1 q2
      have := Try.c_l3Map (scanMap c i) l (by omega) hmo
      rwa [scanMap_lit c q1 q2] at this
    refine loop_of2 (E := Try.env 0) Try.tok (σ := Nat) (fun k => [(1, .ptr 0 0), (2, .ptr 1 0), (3, .sl 2 i 1 0 i), (5, .ptr 3 0), (6, .d (dI k))])
      (fun k => [.box [.d (dI c.inputs), .d (dIs c.next), .d (dPs c.gates), .d (dIs c.outs)], .box [.d (dI 0), .d .nil, .d .nil, .d .nil], .row i 1 true ((scanMap c i).map (D.int .i64)),
        .box [.d (dI (c.inputs + 2)), .d .nil, .sl 4 k 2 0 k, .d .nil], .row k 2 true (((c.gates.take k).map (fun p => (scanLit (2 * (1 + c.inputs)) p.1, scanLit (2 * (1 + c.inputs)) p.2))).map dP)])
      (fun k => k ≤ c.gates.length) (fun k => c.gates.length - k) [(3, 2, 2, true)] [] 1000 1000 ?_ ?_ ?_ ?_
    · simp only [go_sem, Nat.reduceBEq, Nat.reduceLT, Nat.reduceLeDiff, Nat.reduceEqDiff, Nat.reduceAdd, Nat.reduceSub, Nat.reduceMul, ↓reduceIte, Int.reduceLE, Int.reduceLT, Int.reduceNeg, Int.reduceToNat, Int.reduceAdd, Int.reduceSub, Int.reduceMul, reduceCtorEq]
    · simp only [go_sem, Nat.reduceBEq, Nat.reduceLT, Nat.reduceLeDiff, Nat.reduceEqDiff, Nat.reduceAdd, Nat.reduceSub, Nat.reduceMul, ↓reduceIte, Int.reduceLE, Int.reduceLT, Int.reduceNeg, Int.reduceToNat, Int.reduceAdd, Int.reduceSub, Int.reduceMul, reduceCtorEq]
    · simp only [go_sem, Nat.reduceBEq, Nat.reduceLT, Nat.reduceLeDiff, Nat.reduceEqDiff, Nat.reduceAdd, Nat.reduceSub, Nat.reduceMul, ↓reduceIte, Int.reduceLE, Int.reduceLT, Int.reduceNeg, Int.reduceToNat, Int.reduceAdd, Int.reduceSub, Int.reduceMul, reduceCtorEq]
      exact ⟨0, by omega, rfl, rfl, by simp⟩
    · intro k hk
      have hkl : (c.gates.take k).length = k := by simp; omega
      by_cases hlt : k < c.gates.length
      · obtain ⟨g1, g2⟩ := hv.g k hlt
        unfold litOk at g1 g2
        simp only [go_sem, Nat.reduceBEq, Nat.reduceLT, Nat.reduceLeDiff, Nat.reduceEqDiff, Nat.reduceAdd, Nat.reduceSub, Nat.reduceMul, ↓reduceIte, Int.reduceLE, Int.reduceLT, Int.reduceNeg, Int.reduceToNat, Int.reduceAdd, Int.reduceSub, Int.reduceMul, reduceCtorEq, Try.results18]
        repeat' first | assumption | (simp (disch := first | assumption | omega | (simp; done) | (simp; omega)) only [getD_bss, getD_iss, List.take_of_length_le, remV_pos]; try simp only [go_sem, Nat.reduceBEq, Nat.reduceLT, Nat.reduceLeDiff, Nat.reduceEqDiff, Nat.reduceAdd, Nat.reduceSub, Nat.reduceMul, ↓reduceIte, Int.reduceLE, Int.reduceLT, Int.reduceNeg, Int.reduceToNat, Int.reduceAdd, Int.reduceSub, Int.reduceMul, reduceCtorEq, Try.results18]) | (with_reducible refine And.intro ?_ ?_) | (with_reducible intro _) | (refine @Exists.intro I _ (I.d D.nil) ?_; simp only [go_sem, Nat.reduceBEq, Nat.reduceLT, Nat.reduceLeDiff, Nat.reduceEqDiff, Nat.reduceAdd, Nat.reduceSub, Nat.reduceMul, ↓reduceIte, Int.reduceLE, Int.reduceLT, Int.reduceNeg, Int.reduceToNat, Int.reduceAdd, Int.reduceSub, Int.reduceMul, reduceCtorEq, Try.results18]) | ((with_reducible (show Region.lexB _ _ = true)); kernel_rfl) | ((try rw [inK_i64]); omega)
        refine drawn_of (E := Try.env 0) Try.tok Try.follows 1000 1000 [20, 22] (.fst 0 (.fst 2 (.fst 3 (.fst 5 (.fst 10 (.fst 11 (.fst 13 (.fst 1 (.fst 4 (.fst 6 (.fst 7 (.fst 8 (.fst 12 (.fst 14 (.fst 15 (.fst 16 (.one 9 (.one 17 (.fst 18 (.one 19 (.one 20 (.fst 21 (.one 22 (.done)))))))))))))))))))))))) (by kernel_rfl) ?_
        simp only [go_sem, Nat.reduceBEq, Nat.reduceLT, Nat.reduceLeDiff, Nat.reduceEqDiff, Nat.reduceAdd, Nat.reduceSub, Nat.reduceMul, ↓reduceIte, Int.reduceLE, Int.reduceLT, Int.reduceNeg, Int.reduceToNat, Int.reduceAdd, Int.reduceSub, Int.reduceMul, reduceCtorEq, Try.results18]
        repeat' first | assumption | (simp (disch := first | assumption | omega | (simp; done) | (simp; omega)) only [getD_bss, getD_iss, List.take_of_length_le, remV_pos]; try simp only [go_sem, Nat.reduceBEq, Nat.reduceLT, Nat.reduceLeDiff, Nat.reduceEqDiff, Nat.reduceAdd, Nat.reduceSub, Nat.reduceMul, ↓reduceIte, Int.reduceLE, Int.reduceLT, Int.reduceNeg, Int.reduceToNat, Int.reduceAdd, Int.reduceSub, Int.reduceMul, reduceCtorEq, Try.results18]) | (with_reducible refine And.intro ?_ ?_) | (with_reducible intro _) | (refine pcall_fz (hgl (l := (c.gates.getD k (0, 0)).1) (by omega) (by omega)) ?_; simp only [go_sem, Nat.reduceBEq, Nat.reduceLT, Nat.reduceLeDiff, Nat.reduceEqDiff, Nat.reduceAdd, Nat.reduceSub, Nat.reduceMul, ↓reduceIte, Int.reduceLE, Int.reduceLT, Int.reduceNeg, Int.reduceToNat, Int.reduceAdd, Int.reduceSub, Int.reduceMul, reduceCtorEq, Try.results18]) | (refine pcall_fz (hgl (l := (c.gates.getD k (0, 0)).2) (by omega) (by omega)) ?_; simp only [go_sem, Nat.reduceBEq, Nat.reduceLT, Nat.reduceLeDiff, Nat.reduceEqDiff, Nat.reduceAdd, Nat.reduceSub, Nat.reduceMul, ↓reduceIte, Int.reduceLE, Int.reduceLT, Int.reduceNeg, Int.reduceToNat, Int.reduceAdd, Int.reduceSub, Int.reduceMul, reduceCtorEq, Try.results18]) | (refine @Exists.intro I _ (I.d D.nil) ?_; simp only [go_sem, Nat.reduceBEq, Nat.reduceLT, Nat.reduceLeDiff, Nat.reduceEqDiff, Nat.reduceAdd, Nat.reduceSub, Nat.reduceMul, ↓reduceIte, Int.reduceLE, Int.reduceLT, Int.reduceNeg, Int.reduceToNat, Int.reduceAdd, Int.reduceSub, Int.reduceMul, reduceCtorEq, Try.results18]) | ((with_reducible (show Region.lexB _ _ = true)); kernel_rfl) | ((try rw [inK_i64]); omega)
        all_goals exact ⟨k + 1, by omega, by omega, rfl, rfl, rfl, (take_map_succ (fun p : Int × Int => (scanLit (2 * (1 + c.inputs)) p.1, scanLit (2 * (1 + c.inputs)) p.2)) (0, 0) hlt).symm⟩
      · simp only [go_sem, Nat.reduceBEq, Nat.reduceLT, Nat.reduceLeDiff, Nat.reduceEqDiff, Nat.reduceAdd, Nat.reduceSub, Nat.reduceMul, ↓reduceIte, Int.reduceLE, Int.reduceLT, Int.reduceNeg, Int.reduceToNat, Int.reduceAdd, Int.reduceSub, Int.reduceMul, reduceCtorEq, Try.results18]
        repeat' first | assumption | (simp (disch := first | assumption | omega | (simp; done) | (simp; omega)) only [getD_bss, getD_iss, List.take_of_length_le, remV_pos]; try simp only [go_sem, Nat.reduceBEq, Nat.reduceLT, Nat.reduceLeDiff, Nat.reduceEqDiff, Nat.reduceAdd, Nat.reduceSub, Nat.reduceMul, ↓reduceIte, Int.reduceLE, Int.reduceLT, Int.reduceNeg, Int.reduceToNat, Int.reduceAdd, Int.reduceSub, Int.reduceMul, reduceCtorEq, Try.results18]) | (with_reducible refine And.intro ?_ ?_) | (with_reducible intro _) | (refine pcall_fz (Try.c_l1First c (by omega)) ?_; simp only [go_sem, Nat.reduceBEq, Nat.reduceLT, Nat.reduceLeDiff, Nat.reduceEqDiff, Nat.reduceAdd, Nat.reduceSub, Nat.reduceMul, ↓reduceIte, Int.reduceLE, Int.reduceLT, Int.reduceNeg, Int.reduceToNat, Int.reduceAdd, Int.reduceSub, Int.reduceMul, reduceCtorEq, Try.results18]) | (refine @Exists.intro I _ (I.d D.nil) ?_; simp only [go_sem, Nat.reduceBEq, Nat.reduceLT, Nat.reduceLeDiff, Nat.reduceEqDiff, Nat.reduceAdd, Nat.reduceSub, Nat.reduceMul, ↓reduceIte, Int.reduceLE, Int.reduceLT, Int.reduceNeg, Int.reduceToNat, Int.reduceAdd, Int.reduceSub, Int.reduceMul, reduceCtorEq, Try.results18]) | ((with_reducible (show Region.lexB _ _ = true)); kernel_rfl) | ((try rw [inK_i64]); omega)
        obtain rfl : k = c.gates.length := by omega
        generalize hG : c.gates.map (fun p => (scanLit (2 * (1 + c.inputs)) p.1, scanLit (2 * (1 + c.inputs)) p.2)) = G at *
        have lG : G.length = c.gates.length := by rw [← hG]; simp
        refine loop_of2 (E := Try.env 0) Try.tok (σ := Nat) (fun j => [(1, .ptr 0 0), (2, .ptr 1 0), (3, .sl 2 i 1 0 i), (5, .ptr 3 0), (7, .d (dI (2 * (c.inputs + 1)))), (8, .d (dI (c.inputs + 3 + (c.next.length : Int)))), (9, .d (dI j))])
          (fun j => [.box [.d (dI c.inputs), .d (dIs c.next), .d (dPs c.gates), .d (dIs c.outs)], .box [.d (dI 0), .d .nil, .d .nil, .d .nil], .row i 1 true ((scanMap c i).map (D.int .i64)),
            .box [.d (dI (c.inputs + 2)), .sl 5 j 1 0 j, .sl 4 (c.gates.length + j) 2 0 (c.gates.length + 3 * j), .d .nil], .row (c.gates.length + j) 2 true ((G ++ (List.range j).flatMap (scanGates c)).map dP), .row j 1 true (((List.range j).map (scanNext c)).map (D.int .i64))])
          (fun j => j ≤ c.next.length) (fun j => c.next.length - j) [(3, 1, 1, true)] [] 1000 1000 ?_ ?_ ?_ ?_
        · simp only [go_sem, Nat.reduceBEq, Nat.reduceLT, Nat.reduceLeDiff, Nat.reduceEqDiff, Nat.reduceAdd, Nat.reduceSub, Nat.reduceMul, ↓reduceIte, Int.reduceLE, Int.reduceLT, Int.reduceNeg, Int.reduceToNat, Int.reduceAdd, Int.reduceSub, Int.reduceMul, reduceCtorEq]
        · simp only [go_sem, Nat.reduceBEq, Nat.reduceLT, Nat.reduceLeDiff, Nat.reduceEqDiff, Nat.reduceAdd, Nat.reduceSub, Nat.reduceMul, ↓reduceIte, Int.reduceLE, Int.reduceLT, Int.reduceNeg, Int.reduceToNat, Int.reduceAdd, Int.reduceSub, Int.reduceMul, reduceCtorEq]
        · simp only [go_sem, Nat.reduceBEq, Nat.reduceLT, Nat.reduceLeDiff, Nat.reduceEqDiff, Nat.reduceAdd, Nat.reduceSub, Nat.reduceMul, ↓reduceIte, Int.reduceLE, Int.reduceLT, Int.reduceNeg, Int.reduceToNat, Int.reduceAdd, Int.reduceSub, Int.reduceMul, reduceCtorEq]
          exact ⟨0, by omega, rfl, rfl, by simp, by simp⟩
        · intro j hj
          have hgj := scanGates_len c j
          have hlg : (G ++ (List.range j).flatMap (scanGates c)).length = c.gates.length + 3 * j := by rw [List.length_append, scanGates_len, lG]
          by_cases hlt : j < c.next.length
          · have hn := hv.n _ (getD_mem' (z := 0) hlt)
            unfold litOk at hn
            have hfr : scanFrom c j = if 0 < j then 2 * (c.inputs + 2 + j) else 2 * (c.inputs + 1) + 2 := by unfold scanFrom; split <;> split <;> omega
            simp only [go_sem, Nat.reduceBEq, Nat.reduceLT, Nat.reduceLeDiff, Nat.reduceEqDiff, Nat.reduceAdd, Nat.reduceSub, Nat.reduceMul, ↓reduceIte, Int.reduceLE, Int.reduceLT, Int.reduceNeg, Int.reduceToNat, Int.reduceAdd, Int.reduceSub, Int.reduceMul, reduceCtorEq, Try.results18]
            repeat' first | assumption | (simp (disch := first | assumption | omega | (simp; done) | (simp; omega)) only [getD_bss, getD_iss, List.take_of_length_le, remV_pos]; try simp only [go_sem, Nat.reduceBEq, Nat.reduceLT, Nat.reduceLeDiff, Nat.reduceEqDiff, Nat.reduceAdd, Nat.reduceSub, Nat.reduceMul, ↓reduceIte, Int.reduceLE, Int.reduceLT, Int.reduceNeg, Int.reduceToNat, Int.reduceAdd, Int.reduceSub, Int.reduceMul, reduceCtorEq, Try.results18]) | (with_reducible refine And.intro ?_ ?_) | (with_reducible intro _) | (refine @Exists.intro I _ (I.d D.nil) ?_; simp only [go_sem, Nat.reduceBEq, Nat.reduceLT, Nat.reduceLeDiff, Nat.reduceEqDiff, Nat.reduceAdd, Nat.reduceSub, Nat.reduceMul, ↓reduceIte, Int.reduceLE, Int.reduceLT, Int.reduceNeg, Int.reduceToNat, Int.reduceAdd, Int.reduceSub, Int.reduceMul, reduceCtorEq, Try.results18]) | ((with_reducible (show Region.lexB _ _ = true)); kernel_rfl) | ((try rw [inK_i64]); omega)
            all_goals (
              refine drawn_of (E := Try.env 0) Try.tok Try.follows 1000 1000 [23, 25] (.fst 0 (.fst 2 (.fst 3 (.fst 4 (.fst 5 (.fst 6 (.fst 7 (.fst 8 (.fst 10 (.fst 15 (.fst 16 (.fst 17 (.fst 18 (.fst 19 (.fst 20 (.fst 21 (.fst 1 (.fst 9 (.fst 11 (.fst 12 (.one 13 (.fst 14 (.one 22 (.one 23 (.fst 24 (.one 25 (.done))))))))))))))))))))))))))) (by kernel_rfl) ?_
              simp only [go_sem, Nat.reduceBEq, Nat.reduceLT, Nat.reduceLeDiff, Nat.reduceEqDiff, Nat.reduceAdd, Nat.reduceSub, Nat.reduceMul, ↓reduceIte, Int.reduceLE, Int.reduceLT, Int.reduceNeg, Int.reduceToNat, Int.reduceAdd, Int.reduceSub, Int.reduceMul, reduceCtorEq, Try.results18]
              repeat' first | assumption | (simp (disch := first | assumption | omega | (simp; done) | (simp; omega)) only [getD_bss, getD_iss, List.take_of_length_le, remV_pos]; try simp only [go_sem, Nat.reduceBEq, Nat.reduceLT, Nat.reduceLeDiff, Nat.reduceEqDiff, Nat.reduceAdd, Nat.reduceSub, Nat.reduceMul, ↓reduceIte, Int.reduceLE, Int.reduceLT, Int.reduceNeg, Int.reduceToNat, Int.reduceAdd, Int.reduceSub, Int.reduceMul, reduceCtorEq, Try.results18]) | (with_reducible refine And.intro ?_ ?_) | (with_reducible intro _) | (refine pcall_fz (hgl (l := c.next.getD j 0) (by omega) (by omega)) ?_; simp only [go_sem, Nat.reduceBEq, Nat.reduceLT, Nat.reduceLeDiff, Nat.reduceEqDiff, Nat.reduceAdd, Nat.reduceSub, Nat.reduceMul, ↓reduceIte, Int.reduceLE, Int.reduceLT, Int.reduceNeg, Int.reduceToNat, Int.reduceAdd, Int.reduceSub, Int.reduceMul, reduceCtorEq, Try.results18]) | (refine @Exists.intro I _ (I.d D.nil) ?_; simp only [go_sem, Nat.reduceBEq, Nat.reduceLT, Nat.reduceLeDiff, Nat.reduceEqDiff, Nat.reduceAdd, Nat.reduceSub, Nat.reduceMul, ↓reduceIte, Int.reduceLE, Int.reduceLT, Int.reduceNeg, Int.reduceToNat, Int.reduceAdd, Int.reduceSub, Int.reduceMul, reduceCtorEq, Try.results18]) | ((with_reducible (show Region.lexB _ _ = true)); kernel_rfl) | ((try rw [inK_i64]); omega))
            all_goals first
              | (simp; done)
              | (refine ⟨j + 1, by omega, by omega, rfl, by rw [show c.gates.length + j + 1 = c.gates.length + (j + 1) by omega, show c.gates.length + 3 * j + 3 = c.gates.length + 3 * (j + 1) by omega], ⟨by omega, ?_⟩, rfl, ?_⟩
                 · have eA : scanAt c j = c.inputs + 3 + (c.next.length : Int) + ((c.gates.length + 3 * j : Nat) : Int) := by unfold scanAt; omega
                   rw [List.range_succ, List.flatMap_append, ← List.append_assoc]
                   conv => rhs; rw [List.map_append]
                   congr 1
                   simp only [List.flatMap_cons, List.flatMap_nil, List.append_nil, scanGates, List.map_cons, List.map_nil]
                   rename_i hj0
                   first
                     | rw [eA, hfr, if_pos (by omega), show 2 * (c.inputs + 1) = 2 * (1 + c.inputs) by omega]
                     | rw [eA, hfr, if_neg (by omega), show 2 * (c.inputs + 1) = 2 * (1 + c.inputs) by omega]
                 · rw [List.range_succ, List.map_append]
                   congr 1
                   simp only [List.map_cons, List.map_nil, scanNext, scanAt]
                   congr 1
                   omega)
          · simp only [go_sem, Nat.reduceBEq, Nat.reduceLT, Nat.reduceLeDiff, Nat.reduceEqDiff, Nat.reduceAdd, Nat.reduceSub, Nat.reduceMul, ↓reduceIte, Int.reduceLE, Int.reduceLT, Int.reduceNeg, Int.reduceToNat, Int.reduceAdd, Int.reduceSub, Int.reduceMul, reduceCtorEq, Try.results18]
            repeat' first | assumption | (simp (disch := first | assumption | omega | (simp; done) | (simp; omega)) only [getD_bss, getD_iss, List.take_of_length_le, remV_pos]; try simp only [go_sem, Nat.reduceBEq, Nat.reduceLT, Nat.reduceLeDiff, Nat.reduceEqDiff, Nat.reduceAdd, Nat.reduceSub, Nat.reduceMul, ↓reduceIte, Int.reduceLE, Int.reduceLT, Int.reduceNeg, Int.reduceToNat, Int.reduceAdd, Int.reduceSub, Int.reduceMul, reduceCtorEq, Try.results18]) | (with_reducible refine And.intro ?_ ?_) | (with_reducible intro _) | (refine @Exists.intro I _ (I.d D.nil) ?_; simp only [go_sem, Nat.reduceBEq, Nat.reduceLT, Nat.reduceLeDiff, Nat.reduceEqDiff, Nat.reduceAdd, Nat.reduceSub, Nat.reduceMul, ↓reduceIte, Int.reduceLE, Int.reduceLT, Int.reduceNeg, Int.reduceToNat, Int.reduceAdd, Int.reduceSub, Int.reduceMul, reduceCtorEq, Try.results18]) | ((with_reducible (show Region.lexB _ _ = true)); kernel_rfl) | ((try rw [inK_i64]); omega)
            obtain rfl : j = c.next.length := by omega
            refine loop_of2 (E := Try.env 0) Try.tok (σ := Nat) (fun m => [(1, .ptr 0 0), (2, .ptr 1 0), (3, .sl 2 i 1 0 i), (5, .ptr 3 0), (12, .d (dI m))])
              (fun m => [.box [.d (dI c.inputs), .d (dIs c.next), .d (dPs c.gates), .d (dIs c.outs)], .box [.d (dI 0), .d .nil, .d .nil, .d .nil], .row i 1 true ((scanMap c i).map (D.int .i64)),
                .box [.d (dI (c.inputs + 2)), .sl 5 c.next.length 1 0 c.next.length, .sl 4 (c.gates.length + c.next.length) 2 0 (c.gates.length + 3 * c.next.length), .sl 6 m 1 0 m], .row (c.gates.length + c.next.length) 2 true ((G ++ (List.range c.next.length).flatMap (scanGates c)).map dP), .row c.next.length 1 true (((List.range c.next.length).map (scanNext c)).map (D.int .i64)), .row m 1 true (((c.outs.take m).map (scanLit (2 * (1 + c.inputs)))).map (D.int .i64))])
              (fun m => m ≤ c.outs.length) (fun m => c.outs.length - m) [(3, 3, 1, true)] [] 1000 1000 ?_ ?_ ?_ ?_
            · simp only [go_sem, Nat.reduceBEq, Nat.reduceLT, Nat.reduceLeDiff, Nat.reduceEqDiff, Nat.reduceAdd, Nat.reduceSub, Nat.reduceMul, ↓reduceIte, Int.reduceLE, Int.reduceLT, Int.reduceNeg, Int.reduceToNat, Int.reduceAdd, Int.reduceSub, Int.reduceMul, reduceCtorEq]
            · simp only [go_sem, Nat.reduceBEq, Nat.reduceLT, Nat.reduceLeDiff, Nat.reduceEqDiff, Nat.reduceAdd, Nat.reduceSub, Nat.reduceMul, ↓reduceIte, Int.reduceLE, Int.reduceLT, Int.reduceNeg, Int.reduceToNat, Int.reduceAdd, Int.reduceSub, Int.reduceMul, reduceCtorEq]
            · simp only [go_sem, Nat.reduceBEq, Nat.reduceLT, Nat.reduceLeDiff, Nat.reduceEqDiff, Nat.reduceAdd, Nat.reduceSub, Nat.reduceMul, ↓reduceIte, Int.reduceLE, Int.reduceLT, Int.reduceNeg, Int.reduceToNat, Int.reduceAdd, Int.reduceSub, Int.reduceMul, reduceCtorEq]
              exact ⟨0, by omega, rfl, rfl, by simp⟩
            · intro m hm
              have hml2 : (c.outs.take m).length = m := by simp; omega
              by_cases hlt2 : m < c.outs.length
              · have ho := hv.o _ (getD_mem' (z := 0) hlt2)
                unfold litOk at ho
                simp only [go_sem, Nat.reduceBEq, Nat.reduceLT, Nat.reduceLeDiff, Nat.reduceEqDiff, Nat.reduceAdd, Nat.reduceSub, Nat.reduceMul, ↓reduceIte, Int.reduceLE, Int.reduceLT, Int.reduceNeg, Int.reduceToNat, Int.reduceAdd, Int.reduceSub, Int.reduceMul, reduceCtorEq, Try.results18]
                repeat' first | assumption | (simp (disch := first | assumption | omega | (simp; done) | (simp; omega)) only [getD_bss, getD_iss, List.take_of_length_le, remV_pos]; try simp only [go_sem, Nat.reduceBEq, Nat.reduceLT, Nat.reduceLeDiff, Nat.reduceEqDiff, Nat.reduceAdd, Nat.reduceSub, Nat.reduceMul, ↓reduceIte, Int.reduceLE, Int.reduceLT, Int.reduceNeg, Int.reduceToNat, Int.reduceAdd, Int.reduceSub, Int.reduceMul, reduceCtorEq, Try.results18]) | (with_reducible refine And.intro ?_ ?_) | (with_reducible intro _) | (refine @Exists.intro I _ (I.d D.nil) ?_; simp only [go_sem, Nat.reduceBEq, Nat.reduceLT, Nat.reduceLeDiff, Nat.reduceEqDiff, Nat.reduceAdd, Nat.reduceSub, Nat.reduceMul, ↓reduceIte, Int.reduceLE, Int.reduceLT, Int.reduceNeg, Int.reduceToNat, Int.reduceAdd, Int.reduceSub, Int.reduceMul, reduceCtorEq, Try.results18]) | ((with_reducible (show Region.lexB _ _ = true)); kernel_rfl) | ((try rw [inK_i64]); omega)
                refine drawn_of (E := Try.env 0) Try.tok Try.follows 1000 1000 [10, 12] (.fst 0 (.fst 2 (.fst 3 (.fst 5 (.fst 1 (.fst 4 (.fst 6 (.fst 7 (.one 8 (.one 9 (.one 10 (.fst 11 (.one 12 (.done)))))))))))))) (by kernel_rfl) ?_
                simp only [go_sem, Nat.reduceBEq, Nat.reduceLT, Nat.reduceLeDiff, Nat.reduceEqDiff, Nat.reduceAdd, Nat.reduceSub, Nat.reduceMul, ↓reduceIte, Int.reduceLE, Int.reduceLT, Int.reduceNeg, Int.reduceToNat, Int.reduceAdd, Int.reduceSub, Int.reduceMul, reduceCtorEq, Try.results18]
                repeat' first | assumption | (simp (disch := first | assumption | omega | (simp; done) | (simp; omega)) only [getD_bss, getD_iss, List.take_of_length_le, remV_pos]; try simp only [go_sem, Nat.reduceBEq, Nat.reduceLT, Nat.reduceLeDiff, Nat.reduceEqDiff, Nat.reduceAdd, Nat.reduceSub, Nat.reduceMul, ↓reduceIte, Int.reduceLE, Int.reduceLT, Int.reduceNeg, Int.reduceToNat, Int.reduceAdd, Int.reduceSub, Int.reduceMul, reduceCtorEq, Try.results18]) | (with_reducible refine And.intro ?_ ?_) | (with_reducible intro _) | (refine pcall_fz (hgl (l := c.outs.getD m 0) (by omega) (by omega)) ?_; simp only [go_sem, Nat.reduceBEq, Nat.reduceLT, Nat.reduceLeDiff, Nat.reduceEqDiff, Nat.reduceAdd, Nat.reduceSub, Nat.reduceMul, ↓reduceIte, Int.reduceLE, Int.reduceLT, Int.reduceNeg, Int.reduceToNat, Int.reduceAdd, Int.reduceSub, Int.reduceMul, reduceCtorEq, Try.results18]) | (refine @Exists.intro I _ (I.d D.nil) ?_; simp only [go_sem, Nat.reduceBEq, Nat.reduceLT, Nat.reduceLeDiff, Nat.reduceEqDiff, Nat.reduceAdd, Nat.reduceSub, Nat.reduceMul, ↓reduceIte, Int.reduceLE, Int.reduceLT, Int.reduceNeg, Int.reduceToNat, Int.reduceAdd, Int.reduceSub, Int.reduceMul, reduceCtorEq, Try.results18]) | ((with_reducible (show Region.lexB _ _ = true)); kernel_rfl) | ((try rw [inK_i64]); omega)
                all_goals exact ⟨m + 1, by omega, by omega, rfl, rfl, rfl, (take_map_succ (scanLit (2 * (1 + c.inputs))) 0 hlt2).symm⟩
              · simp only [go_sem, Nat.reduceBEq, Nat.reduceLT, Nat.reduceLeDiff, Nat.reduceEqDiff, Nat.reduceAdd, Nat.reduceSub, Nat.reduceMul, ↓reduceIte, Int.reduceLE, Int.reduceLT, Int.reduceNeg, Int.reduceToNat, Int.reduceAdd, Int.reduceSub, Int.reduceMul, reduceCtorEq, Try.results18]
                repeat' first | assumption | (simp (disch := first | assumption | omega | (simp; done) | (simp; omega)) only [getD_bss, getD_iss, List.take_of_length_le, remV_pos]; try simp only [go_sem, Nat.reduceBEq, Nat.reduceLT, Nat.reduceLeDiff, Nat.reduceEqDiff, Nat.reduceAdd, Nat.reduceSub, Nat.reduceMul, ↓reduceIte, Int.reduceLE, Int.reduceLT, Int.reduceNeg, Int.reduceToNat, Int.reduceAdd, Int.reduceSub, Int.reduceMul, reduceCtorEq, Try.results18]) | (with_reducible refine And.intro ?_ ?_) | (with_reducible intro _) | (refine @Exists.intro I _ (I.d D.nil) ?_; simp only [go_sem, Nat.reduceBEq, Nat.reduceLT, Nat.reduceLeDiff, Nat.reduceEqDiff, Nat.reduceAdd, Nat.reduceSub, Nat.reduceMul, ↓reduceIte, Int.reduceLE, Int.reduceLT, Int.reduceNeg, Int.reduceToNat, Int.reduceAdd, Int.reduceSub, Int.reduceMul, reduceCtorEq, Try.results18]) | ((with_reducible (show Region.lexB _ _ = true)); kernel_rfl) | ((try rw [inK_i64]); omega)
                · simp
                · rfl
                · rfl
                · rw [← hG]; rfl
                · rfl
theorem Try.c_sInsertScan_no (c : Circ) (hc : ¬ canScan c) : Pure Try.prog 18 [dC c] (dC Circ.zero) := by
  refine pure_of' (E := Try.env 0) Try.tok rfl 1000 Try.func18 rfl rfl Try.ntmps18 (by simp) fun ok => ?_
  simp only [go_sem, Nat.reduceBEq, Nat.reduceLT, Nat.reduceLeDiff, Nat.reduceEqDiff, Nat.reduceAdd, Nat.reduceSub, Nat.reduceMul, ↓reduceIte, Int.reduceLE, Int.reduceLT, Int.reduceNeg, Int.reduceToNat, Int.reduceAdd, Int.reduceSub, Int.reduceMul, reduceCtorEq] at ok
  simp only [go_sem, Nat.reduceBEq, Nat.reduceLT, Nat.reduceLeDiff, Nat.reduceEqDiff, Nat.reduceAdd, Nat.reduceSub, Nat.reduceMul, ↓reduceIte, Int.reduceLE, Int.reduceLT, Int.reduceNeg, Int.reduceToNat, Int.reduceAdd, Int.reduceSub, Int.reduceMul, reduceCtorEq, Try.results18]
  refine pcall_fz (Try.c_sCanScan c) ?_
  simp only [hc, decide_false]
  simp only [go_sem, Nat.reduceBEq, Nat.reduceLT, Nat.reduceLeDiff, Nat.reduceEqDiff, Nat.reduceAdd, Nat.reduceSub, Nat.reduceMul, ↓reduceIte, Int.reduceLE, Int.reduceLT, Int.reduceNeg, Int.reduceToNat, Int.reduceAdd, Int.reduceSub, Int.reduceMul, reduceCtorEq, Try.results18]
  exact ⟨rfl, rfl, rfl, rfl⟩
noncomputable def scanAll (c : Circ) : Circ := if canScan c then scanned c else Circ.zero
theorem Try.c_InsertScanA (c : Circ) : Pure Try.prog 16 [dC c] (dC (scanAll c)) := by
  unfold scanAll
  split
  · exact Try.c_InsertScan c (by assumption)
  · exact Try.c_InsertScan_no c (by assumption)
theorem Try.c_sInsertScanA (c : Circ) : Pure Try.prog 18 [dC c] (dC (scanAll c)) := by
  unfold scanAll
  split
  · exact Try.c_sInsertScan c (by assumption)
  · exact Try.c_sInsertScan_no c (by assumption)
end Go.Proofs

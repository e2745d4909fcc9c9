/- Contracts: the builder of circuits. Conditions: none; lemmas. -/
import Derived.Test.YtaegedoalbnafaaC21
import Derived.Test.YtaegedoalbnafaaVM8
set_option maxRecDepth 20000
set_option linter.unusedVariables false
set_option linter.unusedSimpArgs false
namespace Go.Proofs
open Go Go.VL

/-! ### Gates without repetitions -/
/-- The last bit turned. -/
def flip (x : Int) : Int := if x % 2 = 0 then x + 1 else x - 1
theorem xor1_nat : ∀ m : Nat, m ^^^ 1 = if m % 2 = 0 then m + 1 else m - 1 := by
  intro m
  have h := Nat.div_add_mod m 2
  have hm : m % 2 < 2 := Nat.mod_lt _ (by omega)
  apply Nat.eq_of_testBit_eq
  intro i
  rw [Nat.testBit_xor]
  cases i with
  | zero =>
    simp only [Nat.testBit_zero]
    rcases Nat.mod_two_eq_zero_or_one m with h2 | h2
    · rw [if_pos h2, show (m + 1) % 2 = 1 by omega, h2]; rfl
    · rw [if_neg (by omega), show (m - 1) % 2 = 0 by omega, h2]; rfl
  | succ i =>
    have e1 : Nat.testBit 1 (i + 1) = false := by simp [Nat.testBit_succ]
    rw [e1, Bool.xor_false, Nat.testBit_succ, Nat.testBit_succ]
    congr 1
    split <;> omega
theorem xor1 {x : Int} (h : 0 ≤ x) : ((x.toNat ^^^ (1 : Int).toNat : Nat) : Int) = flip x := by
  rw [show (1 : Int).toNat = 1 from rfl, xor1_nat, flip]
  split <;> split <;> omega
def idx2 (l : List (Int × Int)) (p : Int × Int) : Nat := l.findIdx (fun q => decide (q = p))
theorem idx2_lt {l : List (Int × Int)} {p : Int × Int} (h : p ∈ l) : idx2 l p < l.length := List.findIdx_lt_length_of_exists ⟨p, h, by simp⟩
structure Bld where
  first : Nat
  gates : List (Int × Int)
  levels : List Int
def lo2 (x y : Int) : Int := if x > y then y else x
def hi2 (x y : Int) : Int := if x > y then x else y
def andG (first : Nat) (gates : List (Int × Int)) (x y : Int) : List (Int × Int) × Int :=
  if lo2 x y = 0 ∨ lo2 x y = flip (hi2 x y) then (gates, 0)
  else if lo2 x y = 1 ∨ lo2 x y = hi2 x y then (gates, hi2 x y)
  else if (lo2 x y, hi2 x y) ∈ gates then (gates, 2 * ((first : Int) + (idx2 gates (lo2 x y, hi2 x y) : Nat)))
  else (gates ++ [(lo2 x y, hi2 x y)], 2 * ((first : Int) + (gates.length : Nat)))
def Bld.and (b : Bld) (x y : Int) : Bld × Int :=
  (⟨b.first, (andG b.first b.gates x y).1, if (andG b.first b.gates x y).1.length = b.gates.length then b.levels else b.levels ++ [1 + max (b.levels.getD (lo2 x y / 2).toNat 0) (b.levels.getD (hi2 x y / 2).toNat 0)]⟩, (andG b.first b.gates x y).2)
structure Bld.Ok (b : Bld) : Prop where
  fst : 1 ≤ b.first
  len : b.levels.length = b.first + b.gates.length
  lev : ∀ l ∈ b.levels, 0 ≤ l ∧ l < b.levels.length
  lim : b.first + b.gates.length ≤ 1000000
def knownOf (first : Nat) : Nat → List (Int × Int) → List (D × D)
  | _, [] => []
  | i, g :: r => (dP g, dI (2 * ((first : Int) + (i : Int)))) :: knownOf first (i + 1) r
theorem knownOf_append (first : Nat) (g : Int × Int) : ∀ (l : List (Int × Int)) (i : Nat), knownOf first i (l ++ [g]) = knownOf first i l ++ [(dP g, dI (2 * ((first : Int) + ((i + l.length : Nat) : Int))))]
  | [], i => by simp [knownOf]
  | x :: r, i => by
    simp only [List.cons_append, knownOf, knownOf_append first g r (i + 1), List.length_cons]
    congr 5
    omega
theorem findD_known (first : Nat) (p : Int × Int) : ∀ (l : List (Int × Int)) (i : Nat), findD (knownOf first i l) (dP p) = if p ∈ l then some (dI (2 * ((first : Int) + ((i + idx2 l p : Nat) : Int)))) else none
  | [], i => rfl
  | x :: r, i => by
    have ih := findD_known first p r (i + 1)
    simp only [knownOf, findD, ih]
    obtain ⟨p1, p2⟩ := p
    obtain ⟨x1, x2⟩ := x
    simp only [dP, keyEq_two]
    by_cases h : p1 = x1 ∧ p2 = x2
    · obtain ⟨rfl, rfl⟩ := h
      simp [idx2, List.findIdx_cons]
    · have h' : ¬ (x1, x2) = (p1, p2) := fun e => h (by simp at e; exact ⟨e.1.symm, e.2.symm⟩)
      have h2 : ¬ (p1, p2) = (x1, x2) := fun e => h' e.symm
      simp only [decide_eq_true_eq, h, if_false, List.mem_cons, h2, false_or]
      split
      · congr 4
        simp only [idx2, List.findIdx_cons, h', decide_false, cond_false]
        omega
      · rfl
theorem keys_known (first : Nat) {fs : List (Nat × Nat)} (hf : fs.length = 2) : ∀ (l : List (Int × Int)) (i : Nat), keysAre (.struct fs) (knownOf first i l)
  | [], i => trivial
  | x :: r, i => ⟨⟨by simp [hf], rfl, rfl, trivial⟩, keys_known first hf r (i + 1)⟩
theorem knownOf_upd {first : Nat} {gates : List (Int × Int)} {p : Int × Int} (h : findD (knownOf first 0 gates) (.agg [dI p.1, dI p.2]) = none) :
    updD (knownOf first 0 gates) (.agg [dI p.1, dI p.2]) (dI (2 * ((first : Int) + (gates.length : Nat)))) = knownOf first 0 (gates ++ [p]) := by
  rw [updD_new h, knownOf_append]
  simp [dP]
def bH (b : Bld) : List R := [.box [.d (dI b.first), .sl 1 b.gates.length 2 0 b.gates.length, .sl 2 b.gates.length 1 0 (b.first + b.gates.length), .map 3], .row b.gates.length 2 true (b.gates.map dP), .row b.gates.length 1 true (b.levels.map (D.int .i64)), .map (knownOf b.first 0 b.gates)]
def Bld.new (n : Nat) : Bld := ⟨n, [], List.replicate n 0⟩
theorem Bld.and_cases (b : Bld) (x y : Int) : ((lo2 x y = 0 ∨ lo2 x y = flip (hi2 x y)) ∧ b.and x y = (b, 0)) ∨
    (¬ (lo2 x y = 0 ∨ lo2 x y = flip (hi2 x y)) ∧ (lo2 x y = 1 ∨ lo2 x y = hi2 x y) ∧ b.and x y = (b, hi2 x y)) ∨
    (¬ (lo2 x y = 0 ∨ lo2 x y = flip (hi2 x y)) ∧ ¬ (lo2 x y = 1 ∨ lo2 x y = hi2 x y) ∧ (lo2 x y, hi2 x y) ∈ b.gates ∧ b.and x y = (b, 2 * ((b.first : Int) + (idx2 b.gates (lo2 x y, hi2 x y) : Nat)))) ∨
    (¬ (lo2 x y = 0 ∨ lo2 x y = flip (hi2 x y)) ∧ ¬ (lo2 x y = 1 ∨ lo2 x y = hi2 x y) ∧ (lo2 x y, hi2 x y) ∉ b.gates ∧
      b.and x y = (⟨b.first, b.gates ++ [(lo2 x y, hi2 x y)], b.levels ++ [1 + max (b.levels.getD (lo2 x y / 2).toNat 0) (b.levels.getD (hi2 x y / 2).toNat 0)]⟩, 2 * ((b.first : Int) + (b.gates.length : Nat)))) := by
  unfold Bld.and andG
  by_cases h1 : lo2 x y = 0 ∨ lo2 x y = flip (hi2 x y)
  · left; simp only [if_pos h1, if_true]; exact ⟨h1, trivial⟩
  · right
    by_cases h2 : lo2 x y = 1 ∨ lo2 x y = hi2 x y
    · left; simp only [if_neg h1, if_pos h2, if_true]; exact ⟨h1, h2, trivial⟩
    · right
      by_cases h3 : (lo2 x y, hi2 x y) ∈ b.gates
      · left; simp only [if_neg h1, if_neg h2, if_pos h3, if_true]; exact ⟨h1, h2, h3, trivial⟩
      · right; simp only [if_neg h1, if_neg h2, if_neg h3, List.length_append, List.length_singleton]
        exact ⟨h1, h2, h3, by rw [if_neg (by omega)]⟩
theorem Bld.lev_bd (b : Bld) (hb : b.Ok) (x y : Int) : 0 ≤ max (b.levels.getD (x / 2).toNat 0) (b.levels.getD (y / 2).toNat 0) ∧ max (b.levels.getD (x / 2).toNat 0) (b.levels.getD (y / 2).toNat 0) ≤ 1000000 := by
  have hg : ∀ k, 0 ≤ b.levels.getD k 0 ∧ b.levels.getD k 0 ≤ 1000000 := by
    intro k
    have := hb.len
    have := hb.lim
    by_cases hk : k < b.levels.length
    · have := hb.lev _ (getD_mem' (z := 0) hk)
      omega
    · rw [List.getD_eq_getElem?_getD, List.getElem?_eq_none (by omega)]
      simp
  have h1 := hg (x / 2).toNat
  have h2 := hg (y / 2).toNat
  omega
theorem Bld.and_ok {b : Bld} (hb : b.Ok) (x y : Int) (hl : b.first + b.gates.length + 1 ≤ 1000000) : (b.and x y).1.Ok ∧ b.gates.length ≤ (b.and x y).1.gates.length ∧ (b.and x y).1.gates.length ≤ b.gates.length + 1 ∧ (b.and x y).1.first = b.first := by
  rcases b.and_cases x y with ⟨_, h⟩ | ⟨_, _, h⟩ | ⟨_, _, _, h⟩ | ⟨_, _, _, h⟩
  · rw [h]; exact ⟨hb, by simp, by simp, rfl⟩
  · rw [h]; exact ⟨hb, by simp, by simp, rfl⟩
  · rw [h]; exact ⟨hb, by simp, by simp, rfl⟩
  · rw [h]
    refine ⟨⟨hb.fst, by simp [hb.len]; omega, ?_, by simp; omega⟩, by simp, by simp, rfl⟩
    have hg : ∀ k, 0 ≤ b.levels.getD k 0 ∧ (b.levels.getD k 0 < b.levels.length ∨ b.levels.getD k 0 = 0) := by
      intro k
      by_cases hk : k < b.levels.length
      · have := hb.lev _ (getD_mem' (z := 0) hk)
        exact ⟨this.1, .inl this.2⟩
      · rw [List.getD_eq_getElem?_getD, List.getElem?_eq_none (by omega)]
        exact ⟨by simp, .inr rfl⟩
    intro l hl
    simp only [List.mem_append, List.mem_singleton] at hl
    simp only [List.length_append, List.length_singleton]
    have := hb.len
    have := hb.fst
    rcases hl with hl | rfl
    · have := hb.lev l hl; omega
    · have h1 := hg (lo2 x y / 2).toNat
      have h2 := hg (hi2 x y / 2).toNat
      omega
def bN (b : Bld) : List R := [.row b.gates.length 1 true (b.levels.map (D.int .i64)), .map (knownOf b.first 0 b.gates), .box [.d (dI b.first), .sl 3 b.gates.length 2 0 b.gates.length, .sl 0 b.gates.length 1 0 (b.first + b.gates.length), .map 1], .row b.gates.length 2 true (b.gates.map dP)]
theorem Bld.new_ok {n : Nat} (h : 1 ≤ n ∧ n ≤ 100000) : (Bld.new n).Ok := by
  refine ⟨h.1, by simp [Bld.new], ?_, by simp [Bld.new]; omega⟩
  intro l hl
  simp only [Bld.new, List.mem_replicate] at hl
  simp only [Bld.new, List.length_replicate]
  omega
theorem Try.c_newBuilder (i l : Nat) (h : i + l ≤ 1000) : Proc Try.prog 78 [.d (dI i), .d (dI l)] [] (.ptr 2 0) (bN (Bld.new (1 + i + l))) := by
  refine icall_of' (E := Try.env 0) Try.tok rfl 1000 Try.func78 rfl rfl Try.ntmps78 (by simp) ?_
  simp only [go_sem, Nat.reduceBEq, Nat.reduceLT, Nat.reduceLeDiff, Nat.reduceEqDiff, Nat.reduceAdd, Nat.reduceSub, Nat.reduceMul, ↓reduceIte, Int.reduceLE, Int.reduceLT, Int.reduceNeg, Int.reduceToNat, Int.reduceAdd, Int.reduceSub, Int.reduceMul, reduceCtorEq, Try.results78]
  have e : (1 + (i : Int) + (l : Int)).toNat = 1 + i + l := by omega
  refine ⟨by rw [inK_i64]; omega, by rw [inK_i64]; omega, ⟨by omega, by omega⟩, endI_ownB [(2, 1, 2, true)] (by simp only [go_sem, Nat.reduceBEq, Nat.reduceLT, Nat.reduceLeDiff, Nat.reduceEqDiff, Nat.reduceAdd, Nat.reduceSub, Nat.reduceMul, ↓reduceIte, Int.reduceLE, Int.reduceLT, Int.reduceNeg, Int.reduceToNat, Int.reduceAdd, Int.reduceSub, Int.reduceMul, reduceCtorEq]) (endI_same ⟨rfl, ?_⟩)⟩
  have e2 : ((1 + i + l : Nat) : Int) = 1 + (i : Int) + (l : Int) := by omega
  rw [e]
  simp only [go_sem, Nat.reduceBEq, Nat.reduceLT, Nat.reduceLeDiff, Nat.reduceEqDiff, Nat.reduceAdd, Nat.reduceSub, Nat.reduceMul, ↓reduceIte, Int.reduceLE, Int.reduceLT, Int.reduceNeg, Int.reduceToNat, Int.reduceAdd, Int.reduceSub, Int.reduceMul, reduceCtorEq, Try.results78, e2, bN, Bld.new, knownOf, List.length_nil, List.length_replicate, Nat.add_zero]
theorem Try.c_and (b : Bld) (hb : b.Ok) (x y : Int) (hx : 0 ≤ x ∧ x < 2 * ((b.first + b.gates.length : Nat) : Int)) (hy : 0 ≤ y ∧ y < 2 * ((b.first + b.gates.length : Nat) : Int)) :
    Proc Try.prog 80 [.ptr 0 0, .d (dI x), .d (dI y)] (bH b) (.d (dI (b.and x y).2)) (bH (b.and x y).1) := by
  refine proc_of (E := Try.env 4) Try.tok rfl 1000 Try.func80 rfl rfl Try.ntmps80 (by simp) ?_
  have hks : keysAre (.struct [(0, 3), (1, 3)]) (knownOf b.first 0 b.gates) := keys_known b.first rfl b.gates 0
  have hlim := hb.lim
  have hll := hb.len
  have hx1 : ((x.toNat ^^^ 1 : Nat) : Int) = flip x := xor1 hx.1
  have hy1 : ((y.toNat ^^^ 1 : Nat) : Int) = flip y := xor1 hy.1
  have hf : ∀ p : Int × Int, findD (knownOf b.first 0 b.gates) (.agg [dI p.1, dI p.2]) = if p ∈ b.gates then some (dI (2 * ((b.first : Int) + (idx2 b.gates p : Nat)))) else none := by
    intro p
    have := findD_known b.first p b.gates 0
    simpa [dP] using this
  have hfx := hf (x, y)
  have hfy := hf (y, x)
  have hix := idx2_lt (l := b.gates) (p := (x, y))
  have hiy := idx2_lt (l := b.gates) (p := (y, x))
  unfold bH
  by_cases hxy : y < x
  · have e1 : lo2 x y = y := if_pos hxy
    have e2 : hi2 x y = x := if_pos hxy
    have hc := b.and_cases x y
    rw [e1, e2] at hc
    rcases hc with ⟨hc, hq⟩ | ⟨hc, hc2, hq⟩ | ⟨hc, hc2, hc3, hq⟩ | ⟨hc, hc2, hc3, hq⟩
    · rw [hq]; simp only [go_sem, Nat.reduceBEq, Nat.reduceLT, Nat.reduceLeDiff, Nat.reduceEqDiff, Nat.reduceAdd, Nat.reduceSub, Nat.reduceMul, ↓reduceIte, Int.reduceLE, Int.reduceLT, Int.reduceNeg, Int.reduceToNat, Int.reduceAdd, Int.reduceSub, Int.reduceMul, reduceCtorEq, Try.results80, hxy, hx1, hy1]
      repeat' first | assumption | (simp (disch := first | assumption | omega | (simp; done) | (simp; omega)) only [getD_bss, getD_iss, List.take_of_length_le, remV_pos]; try simp only [go_sem, Nat.reduceBEq, Nat.reduceLT, Nat.reduceLeDiff, Nat.reduceEqDiff, Nat.reduceAdd, Nat.reduceSub, Nat.reduceMul, ↓reduceIte, Int.reduceLE, Int.reduceLT, Int.reduceNeg, Int.reduceToNat, Int.reduceAdd, Int.reduceSub, Int.reduceMul, reduceCtorEq, Try.results80, hx1, hy1]) | (with_reducible refine And.intro ?_ ?_) | (with_reducible intro _) | (refine @Exists.intro I _ (I.d D.nil) ?_; simp only [go_sem, Nat.reduceBEq, Nat.reduceLT, Nat.reduceLeDiff, Nat.reduceEqDiff, Nat.reduceAdd, Nat.reduceSub, Nat.reduceMul, ↓reduceIte, Int.reduceLE, Int.reduceLT, Int.reduceNeg, Int.reduceToNat, Int.reduceAdd, Int.reduceSub, Int.reduceMul, reduceCtorEq, Try.results80, hx1, hy1]) | ((with_reducible (show Region.lexB _ _ = true)); kernel_rfl) | ((try rw [inK_i64]); omega)
    · rw [hq]; simp only [go_sem, Nat.reduceBEq, Nat.reduceLT, Nat.reduceLeDiff, Nat.reduceEqDiff, Nat.reduceAdd, Nat.reduceSub, Nat.reduceMul, ↓reduceIte, Int.reduceLE, Int.reduceLT, Int.reduceNeg, Int.reduceToNat, Int.reduceAdd, Int.reduceSub, Int.reduceMul, reduceCtorEq, Try.results80, hxy, hx1, hy1]
      repeat' first | assumption | (simp (disch := first | assumption | omega | (simp; done) | (simp; omega)) only [getD_bss, getD_iss, List.take_of_length_le, remV_pos]; try simp only [go_sem, Nat.reduceBEq, Nat.reduceLT, Nat.reduceLeDiff, Nat.reduceEqDiff, Nat.reduceAdd, Nat.reduceSub, Nat.reduceMul, ↓reduceIte, Int.reduceLE, Int.reduceLT, Int.reduceNeg, Int.reduceToNat, Int.reduceAdd, Int.reduceSub, Int.reduceMul, reduceCtorEq, Try.results80, hx1, hy1]) | (with_reducible refine And.intro ?_ ?_) | (with_reducible intro _) | (refine @Exists.intro I _ (I.d D.nil) ?_; simp only [go_sem, Nat.reduceBEq, Nat.reduceLT, Nat.reduceLeDiff, Nat.reduceEqDiff, Nat.reduceAdd, Nat.reduceSub, Nat.reduceMul, ↓reduceIte, Int.reduceLE, Int.reduceLT, Int.reduceNeg, Int.reduceToNat, Int.reduceAdd, Int.reduceSub, Int.reduceMul, reduceCtorEq, Try.results80, hx1, hy1]) | ((with_reducible (show Region.lexB _ _ = true)); kernel_rfl) | ((try rw [inK_i64]); omega)
    · rw [hq, if_pos hc3] at *; simp only [go_sem, Nat.reduceBEq, Nat.reduceLT, Nat.reduceLeDiff, Nat.reduceEqDiff, Nat.reduceAdd, Nat.reduceSub, Nat.reduceMul, ↓reduceIte, Int.reduceLE, Int.reduceLT, Int.reduceNeg, Int.reduceToNat, Int.reduceAdd, Int.reduceSub, Int.reduceMul, reduceCtorEq, Try.results80, hxy, hx1, hy1, hfy]
      repeat' first | assumption | (simp (disch := first | assumption | omega | (simp; done) | (simp; omega)) only [getD_bss, getD_iss, List.take_of_length_le, remV_pos]; try simp only [go_sem, Nat.reduceBEq, Nat.reduceLT, Nat.reduceLeDiff, Nat.reduceEqDiff, Nat.reduceAdd, Nat.reduceSub, Nat.reduceMul, ↓reduceIte, Int.reduceLE, Int.reduceLT, Int.reduceNeg, Int.reduceToNat, Int.reduceAdd, Int.reduceSub, Int.reduceMul, reduceCtorEq, Try.results80, hx1, hy1, hfy]) | (with_reducible refine And.intro ?_ ?_) | (with_reducible intro _) | (refine @Exists.intro I _ (I.d D.nil) ?_; simp only [go_sem, Nat.reduceBEq, Nat.reduceLT, Nat.reduceLeDiff, Nat.reduceEqDiff, Nat.reduceAdd, Nat.reduceSub, Nat.reduceMul, ↓reduceIte, Int.reduceLE, Int.reduceLT, Int.reduceNeg, Int.reduceToNat, Int.reduceAdd, Int.reduceSub, Int.reduceMul, reduceCtorEq, Try.results80, hx1, hy1, hfy]) | ((with_reducible (show Region.lexB _ _ = true)); kernel_rfl) | ((try rw [inK_i64]); omega)
    · rw [hq, if_neg hc3] at *
      have hup := knownOf_upd hfy
      have hlv := b.lev_bd hb y x
      simp only [go_sem, Nat.reduceBEq, Nat.reduceLT, Nat.reduceLeDiff, Nat.reduceEqDiff, Nat.reduceAdd, Nat.reduceSub, Nat.reduceMul, ↓reduceIte, Int.reduceLE, Int.reduceLT, Int.reduceNeg, Int.reduceToNat, Int.reduceAdd, Int.reduceSub, Int.reduceMul, reduceCtorEq, Try.results80, hxy, hx1, hy1, hfy]
      repeat' first | assumption | (simp (disch := first | assumption | omega | (simp; done) | (simp; omega)) only [getD_bss, getD_iss, List.take_of_length_le, remV_pos]; try simp only [go_sem, Nat.reduceBEq, Nat.reduceLT, Nat.reduceLeDiff, Nat.reduceEqDiff, Nat.reduceAdd, Nat.reduceSub, Nat.reduceMul, ↓reduceIte, Int.reduceLE, Int.reduceLT, Int.reduceNeg, Int.reduceToNat, Int.reduceAdd, Int.reduceSub, Int.reduceMul, reduceCtorEq, Try.results80, hx1, hy1, hfy]) | (with_reducible refine And.intro ?_ ?_) | (with_reducible intro _) | (refine @Exists.intro I _ (I.d D.nil) ?_; simp only [go_sem, Nat.reduceBEq, Nat.reduceLT, Nat.reduceLeDiff, Nat.reduceEqDiff, Nat.reduceAdd, Nat.reduceSub, Nat.reduceMul, ↓reduceIte, Int.reduceLE, Int.reduceLT, Int.reduceNeg, Int.reduceToNat, Int.reduceAdd, Int.reduceSub, Int.reduceMul, reduceCtorEq, Try.results80, hx1, hy1, hfy]) | ((with_reducible (show Region.lexB _ _ = true)); kernel_rfl) | ((try rw [inK_i64]); omega)
      refine drawn_of (E := Try.env 4) Try.tok Try.follows 1000 1000 [6] (.fst 0 (.fst 1 (.fst 2 (.fst 5 (.fst 3 (.fst 4 (.one 6 (.done)))))))) (by kernel_rfl) ?_
      simp only [go_sem, Nat.reduceBEq, Nat.reduceLT, Nat.reduceLeDiff, Nat.reduceEqDiff, Nat.reduceAdd, Nat.reduceSub, Nat.reduceMul, ↓reduceIte, Int.reduceLE, Int.reduceLT, Int.reduceNeg, Int.reduceToNat, Int.reduceAdd, Int.reduceSub, Int.reduceMul, reduceCtorEq, Try.results80, hup]
      repeat' first | assumption | (simp (disch := first | assumption | omega | (simp; done) | (simp; omega)) only [getD_bss, getD_iss, List.take_of_length_le, remV_pos]; try simp only [go_sem, Nat.reduceBEq, Nat.reduceLT, Nat.reduceLeDiff, Nat.reduceEqDiff, Nat.reduceAdd, Nat.reduceSub, Nat.reduceMul, ↓reduceIte, Int.reduceLE, Int.reduceLT, Int.reduceNeg, Int.reduceToNat, Int.reduceAdd, Int.reduceSub, Int.reduceMul, reduceCtorEq, Try.results80, hup]) | (with_reducible refine And.intro ?_ ?_) | (with_reducible intro _) | (refine @Exists.intro I _ (I.d D.nil) ?_; simp only [go_sem, Nat.reduceBEq, Nat.reduceLT, Nat.reduceLeDiff, Nat.reduceEqDiff, Nat.reduceAdd, Nat.reduceSub, Nat.reduceMul, ↓reduceIte, Int.reduceLE, Int.reduceLT, Int.reduceNeg, Int.reduceToNat, Int.reduceAdd, Int.reduceSub, Int.reduceMul, reduceCtorEq, Try.results80, hup]) | ((with_reducible (show Region.lexB _ _ = true)); kernel_rfl) | ((try rw [inK_i64]); omega)
      refine drawn_of (E := Try.env 4) Try.tok Try.follows 1000 1000 [7, 10] (.fst 0 (.fst 1 (.fst 2 (.fst 3 (.fst 4 (.fst 5 (.one 6 (.one 7 (.fst 8 (.fst 9 (.one 10 (.done)))))))))))) (by kernel_rfl) ?_
      simp only [go_sem, Nat.reduceBEq, Nat.reduceLT, Nat.reduceLeDiff, Nat.reduceEqDiff, Nat.reduceAdd, Nat.reduceSub, Nat.reduceMul, ↓reduceIte, Int.reduceLE, Int.reduceLT, Int.reduceNeg, Int.reduceToNat, Int.reduceAdd, Int.reduceSub, Int.reduceMul, reduceCtorEq, Try.results80, hup]
      repeat' first | assumption | (simp (disch := first | assumption | omega | (simp; done) | (simp; omega)) only [getD_bss, getD_iss, List.take_of_length_le, remV_pos]; try simp only [go_sem, Nat.reduceBEq, Nat.reduceLT, Nat.reduceLeDiff, Nat.reduceEqDiff, Nat.reduceAdd, Nat.reduceSub, Nat.reduceMul, ↓reduceIte, Int.reduceLE, Int.reduceLT, Int.reduceNeg, Int.reduceToNat, Int.reduceAdd, Int.reduceSub, Int.reduceMul, reduceCtorEq, Try.results80, hup]) | (with_reducible refine And.intro ?_ ?_) | (with_reducible intro _) | (refine @Exists.intro I _ (I.d D.nil) ?_; simp only [go_sem, Nat.reduceBEq, Nat.reduceLT, Nat.reduceLeDiff, Nat.reduceEqDiff, Nat.reduceAdd, Nat.reduceSub, Nat.reduceMul, ↓reduceIte, Int.reduceLE, Int.reduceLT, Int.reduceNeg, Int.reduceToNat, Int.reduceAdd, Int.reduceSub, Int.reduceMul, reduceCtorEq, Try.results80, hup]) | ((with_reducible (show Region.lexB _ _ = true)); kernel_rfl) | ((try rw [inK_i64]); omega)
      refine drawn_of (E := Try.env 4) Try.tok Try.follows 1000 1000 [24, 27] (.fst 0 (.fst 1 (.fst 2 (.fst 3 (.fst 5 (.fst 6 (.fst 7 (.fst 9 (.fst 10 (.fst 13 (.fst 14 (.fst 15 (.fst 17 (.fst 18 (.fst 4 (.fst 8 (.fst 11 (.fst 12 (.fst 16 (.fst 19 (.fst 20 (.fst 21 (.fst 22 (.one 23 (.one 24 (.fst 25 (.fst 26 (.one 27 (.done))))))))))))))))))))))))))))) (by kernel_rfl) ?_
      simp only [go_sem, Nat.reduceBEq, Nat.reduceLT, Nat.reduceLeDiff, Nat.reduceEqDiff, Nat.reduceAdd, Nat.reduceSub, Nat.reduceMul, ↓reduceIte, Int.reduceLE, Int.reduceLT, Int.reduceNeg, Int.reduceToNat, Int.reduceAdd, Int.reduceSub, Int.reduceMul, reduceCtorEq, Try.results80, hup]
      repeat' first | assumption | (simp (disch := first | assumption | omega | (simp; done) | (simp; omega)) only [getD_bss, getD_iss, List.take_of_length_le, remV_pos]; try simp only [go_sem, Nat.reduceBEq, Nat.reduceLT, Nat.reduceLeDiff, Nat.reduceEqDiff, Nat.reduceAdd, Nat.reduceSub, Nat.reduceMul, ↓reduceIte, Int.reduceLE, Int.reduceLT, Int.reduceNeg, Int.reduceToNat, Int.reduceAdd, Int.reduceSub, Int.reduceMul, reduceCtorEq, Try.results80, hup]) | (with_reducible refine And.intro ?_ ?_) | (with_reducible intro _) | (refine @Exists.intro I _ (I.d D.nil) ?_; simp only [go_sem, Nat.reduceBEq, Nat.reduceLT, Nat.reduceLeDiff, Nat.reduceEqDiff, Nat.reduceAdd, Nat.reduceSub, Nat.reduceMul, ↓reduceIte, Int.reduceLE, Int.reduceLT, Int.reduceNeg, Int.reduceToNat, Int.reduceAdd, Int.reduceSub, Int.reduceMul, reduceCtorEq, Try.results80, hup]) | ((with_reducible (show Region.lexB _ _ = true)); kernel_rfl) | ((try rw [inK_i64]); omega)
      rw [Nat.add_assoc]
  · have e1 : lo2 x y = x := if_neg hxy
    have e2 : hi2 x y = y := if_neg hxy
    have hc := b.and_cases x y
    rw [e1, e2] at hc
    rcases hc with ⟨hc, hq⟩ | ⟨hc, hc2, hq⟩ | ⟨hc, hc2, hc3, hq⟩ | ⟨hc, hc2, hc3, hq⟩
    · rw [hq]; simp only [go_sem, Nat.reduceBEq, Nat.reduceLT, Nat.reduceLeDiff, Nat.reduceEqDiff, Nat.reduceAdd, Nat.reduceSub, Nat.reduceMul, ↓reduceIte, Int.reduceLE, Int.reduceLT, Int.reduceNeg, Int.reduceToNat, Int.reduceAdd, Int.reduceSub, Int.reduceMul, reduceCtorEq, Try.results80, hxy, hx1, hy1]
      repeat' first | assumption | (simp (disch := first | assumption | omega | (simp; done) | (simp; omega)) only [getD_bss, getD_iss, List.take_of_length_le, remV_pos]; try simp only [go_sem, Nat.reduceBEq, Nat.reduceLT, Nat.reduceLeDiff, Nat.reduceEqDiff, Nat.reduceAdd, Nat.reduceSub, Nat.reduceMul, ↓reduceIte, Int.reduceLE, Int.reduceLT, Int.reduceNeg, Int.reduceToNat, Int.reduceAdd, Int.reduceSub, Int.reduceMul, reduceCtorEq, Try.results80, hx1, hy1]) | (with_reducible refine And.intro ?_ ?_) | (with_reducible intro _) | (refine @Exists.intro I _ (I.d D.nil) ?_; simp only [go_sem, Nat.reduceBEq, Nat.reduceLT, Nat.reduceLeDiff, Nat.reduceEqDiff, Nat.reduceAdd, Nat.reduceSub, Nat.reduceMul, ↓reduceIte, Int.reduceLE, Int.reduceLT, Int.reduceNeg, Int.reduceToNat, Int.reduceAdd, Int.reduceSub, Int.reduceMul, reduceCtorEq, Try.results80, hx1, hy1]) | ((with_reducible (show Region.lexB _ _ = true)); kernel_rfl) | ((try rw [inK_i64]); omega)
    · rw [hq]; simp only [go_sem, Nat.reduceBEq, Nat.reduceLT, Nat.reduceLeDiff, Nat.reduceEqDiff, Nat.reduceAdd, Nat.reduceSub, Nat.reduceMul, ↓reduceIte, Int.reduceLE, Int.reduceLT, Int.reduceNeg, Int.reduceToNat, Int.reduceAdd, Int.reduceSub, Int.reduceMul, reduceCtorEq, Try.results80, hxy, hx1, hy1]
      repeat' first | assumption | (simp (disch := first | assumption | omega | (simp; done) | (simp; omega)) only [getD_bss, getD_iss, List.take_of_length_le, remV_pos]; try simp only [go_sem, Nat.reduceBEq, Nat.reduceLT, Nat.reduceLeDiff, Nat.reduceEqDiff, Nat.reduceAdd, Nat.reduceSub, Nat.reduceMul, ↓reduceIte, Int.reduceLE, Int.reduceLT, Int.reduceNeg, Int.reduceToNat, Int.reduceAdd, Int.reduceSub, Int.reduceMul, reduceCtorEq, Try.results80, hx1, hy1]) | (with_reducible refine And.intro ?_ ?_) | (with_reducible intro _) | (refine @Exists.intro I _ (I.d D.nil) ?_; simp only [go_sem, Nat.reduceBEq, Nat.reduceLT, Nat.reduceLeDiff, Nat.reduceEqDiff, Nat.reduceAdd, Nat.reduceSub, Nat.reduceMul, ↓reduceIte, Int.reduceLE, Int.reduceLT, Int.reduceNeg, Int.reduceToNat, Int.reduceAdd, Int.reduceSub, Int.reduceMul, reduceCtorEq, Try.results80, hx1, hy1]) | ((with_reducible (show Region.lexB _ _ = true)); kernel_rfl) | ((try rw [inK_i64]); omega)
    · rw [hq, if_pos hc3] at *; simp only [go_sem, Nat.reduceBEq, Nat.reduceLT, Nat.reduceLeDiff, Nat.reduceEqDiff, Nat.reduceAdd, Nat.reduceSub, Nat.reduceMul, ↓reduceIte, Int.reduceLE, Int.reduceLT, Int.reduceNeg, Int.reduceToNat, Int.reduceAdd, Int.reduceSub, Int.reduceMul, reduceCtorEq, Try.results80, hxy, hx1, hy1, hfx]
      repeat' first | assumption | (simp (disch := first | assumption | omega | (simp; done) | (simp; omega)) only [getD_bss, getD_iss, List.take_of_length_le, remV_pos]; try simp only [go_sem, Nat.reduceBEq, Nat.reduceLT, Nat.reduceLeDiff, Nat.reduceEqDiff, Nat.reduceAdd, Nat.reduceSub, Nat.reduceMul, ↓reduceIte, Int.reduceLE, Int.reduceLT, Int.reduceNeg, Int.reduceToNat, Int.reduceAdd, Int.reduceSub, Int.reduceMul, reduceCtorEq, Try.results80, hx1, hy1, hfx]) | (with_reducible refine And.intro ?_ ?_) | (with_reducible intro _) | (refine @Exists.intro I _ (I.d D.nil) ?_; simp only [go_sem, Nat.reduceBEq, Nat.reduceLT, Nat.reduceLeDiff, Nat.reduceEqDiff, Nat.reduceAdd, Nat.reduceSub, Nat.reduceMul, ↓reduceIte, Int.reduceLE, Int.reduceLT, Int.reduceNeg, Int.reduceToNat, Int.reduceAdd, Int.reduceSub, Int.reduceMul, reduceCtorEq, Try.results80, hx1, hy1, hfx]) | ((with_reducible (show Region.lexB _ _ = true)); kernel_rfl) | ((try rw [inK_i64]); omega)
    · rw [hq, if_neg hc3] at *
      have hup := knownOf_upd hfx
      have hlv := b.lev_bd hb x y
      simp only [go_sem, Nat.reduceBEq, Nat.reduceLT, Nat.reduceLeDiff, Nat.reduceEqDiff, Nat.reduceAdd, Nat.reduceSub, Nat.reduceMul, ↓reduceIte, Int.reduceLE, Int.reduceLT, Int.reduceNeg, Int.reduceToNat, Int.reduceAdd, Int.reduceSub, Int.reduceMul, reduceCtorEq, Try.results80, hxy, hx1, hy1, hfx]
      repeat' first | assumption | (simp (disch := first | assumption | omega | (simp; done) | (simp; omega)) only [getD_bss, getD_iss, List.take_of_length_le, remV_pos]; try simp only [go_sem, Nat.reduceBEq, Nat.reduceLT, Nat.reduceLeDiff, Nat.reduceEqDiff, Nat.reduceAdd, Nat.reduceSub, Nat.reduceMul, ↓reduceIte, Int.reduceLE, Int.reduceLT, Int.reduceNeg, Int.reduceToNat, Int.reduceAdd, Int.reduceSub, Int.reduceMul, reduceCtorEq, Try.results80, hx1, hy1, hfx]) | (with_reducible refine And.intro ?_ ?_) | (with_reducible intro _) | (refine @Exists.intro I _ (I.d D.nil) ?_; simp only [go_sem, Nat.reduceBEq, Nat.reduceLT, Nat.reduceLeDiff, Nat.reduceEqDiff, Nat.reduceAdd, Nat.reduceSub, Nat.reduceMul, ↓reduceIte, Int.reduceLE, Int.reduceLT, Int.reduceNeg, Int.reduceToNat, Int.reduceAdd, Int.reduceSub, Int.reduceMul, reduceCtorEq, Try.results80, hx1, hy1, hfx]) | ((with_reducible (show Region.lexB _ _ = true)); kernel_rfl) | ((try rw [inK_i64]); omega)
      refine drawn_of (E := Try.env 4) Try.tok Try.follows 1000 1000 [6] (.fst 0 (.fst 1 (.fst 2 (.fst 5 (.fst 3 (.fst 4 (.one 6 (.done)))))))) (by kernel_rfl) ?_
      simp only [go_sem, Nat.reduceBEq, Nat.reduceLT, Nat.reduceLeDiff, Nat.reduceEqDiff, Nat.reduceAdd, Nat.reduceSub, Nat.reduceMul, ↓reduceIte, Int.reduceLE, Int.reduceLT, Int.reduceNeg, Int.reduceToNat, Int.reduceAdd, Int.reduceSub, Int.reduceMul, reduceCtorEq, Try.results80, hup]
      repeat' first | assumption | (simp (disch := first | assumption | omega | (simp; done) | (simp; omega)) only [getD_bss, getD_iss, List.take_of_length_le, remV_pos]; try simp only [go_sem, Nat.reduceBEq, Nat.reduceLT, Nat.reduceLeDiff, Nat.reduceEqDiff, Nat.reduceAdd, Nat.reduceSub, Nat.reduceMul, ↓reduceIte, Int.reduceLE, Int.reduceLT, Int.reduceNeg, Int.reduceToNat, Int.reduceAdd, Int.reduceSub, Int.reduceMul, reduceCtorEq, Try.results80, hup]) | (with_reducible refine And.intro ?_ ?_) | (with_reducible intro _) | (refine @Exists.intro I _ (I.d D.nil) ?_; simp only [go_sem, Nat.reduceBEq, Nat.reduceLT, Nat.reduceLeDiff, Nat.reduceEqDiff, Nat.reduceAdd, Nat.reduceSub, Nat.reduceMul, ↓reduceIte, Int.reduceLE, Int.reduceLT, Int.reduceNeg, Int.reduceToNat, Int.reduceAdd, Int.reduceSub, Int.reduceMul, reduceCtorEq, Try.results80, hup]) | ((with_reducible (show Region.lexB _ _ = true)); kernel_rfl) | ((try rw [inK_i64]); omega)
      refine drawn_of (E := Try.env 4) Try.tok Try.follows 1000 1000 [7, 10] (.fst 0 (.fst 1 (.fst 2 (.fst 3 (.fst 4 (.fst 5 (.one 6 (.one 7 (.fst 8 (.fst 9 (.one 10 (.done)))))))))))) (by kernel_rfl) ?_
      simp only [go_sem, Nat.reduceBEq, Nat.reduceLT, Nat.reduceLeDiff, Nat.reduceEqDiff, Nat.reduceAdd, Nat.reduceSub, Nat.reduceMul, ↓reduceIte, Int.reduceLE, Int.reduceLT, Int.reduceNeg, Int.reduceToNat, Int.reduceAdd, Int.reduceSub, Int.reduceMul, reduceCtorEq, Try.results80, hup]
      repeat' first | assumption | (simp (disch := first | assumption | omega | (simp; done) | (simp; omega)) only [getD_bss, getD_iss, List.take_of_length_le, remV_pos]; try simp only [go_sem, Nat.reduceBEq, Nat.reduceLT, Nat.reduceLeDiff, Nat.reduceEqDiff, Nat.reduceAdd, Nat.reduceSub, Nat.reduceMul, ↓reduceIte, Int.reduceLE, Int.reduceLT, Int.reduceNeg, Int.reduceToNat, Int.reduceAdd, Int.reduceSub, Int.reduceMul, reduceCtorEq, Try.results80, hup]) | (with_reducible refine And.intro ?_ ?_) | (with_reducible intro _) | (refine @Exists.intro I _ (I.d D.nil) ?_; simp only [go_sem, Nat.reduceBEq, Nat.reduceLT, Nat.reduceLeDiff, Nat.reduceEqDiff, Nat.reduceAdd, Nat.reduceSub, Nat.reduceMul, ↓reduceIte, Int.reduceLE, Int.reduceLT, Int.reduceNeg, Int.reduceToNat, Int.reduceAdd, Int.reduceSub, Int.reduceMul, reduceCtorEq, Try.results80, hup]) | ((with_reducible (show Region.lexB _ _ = true)); kernel_rfl) | ((try rw [inK_i64]); omega)
      refine drawn_of (E := Try.env 4) Try.tok Try.follows 1000 1000 [24, 27] (.fst 0 (.fst 1 (.fst 2 (.fst 3 (.fst 5 (.fst 6 (.fst 7 (.fst 9 (.fst 10 (.fst 13 (.fst 14 (.fst 15 (.fst 17 (.fst 18 (.fst 4 (.fst 8 (.fst 11 (.fst 12 (.fst 16 (.fst 19 (.fst 20 (.fst 21 (.fst 22 (.one 23 (.one 24 (.fst 25 (.fst 26 (.one 27 (.done))))))))))))))))))))))))))))) (by kernel_rfl) ?_
      simp only [go_sem, Nat.reduceBEq, Nat.reduceLT, Nat.reduceLeDiff, Nat.reduceEqDiff, Nat.reduceAdd, Nat.reduceSub, Nat.reduceMul, ↓reduceIte, Int.reduceLE, Int.reduceLT, Int.reduceNeg, Int.reduceToNat, Int.reduceAdd, Int.reduceSub, Int.reduceMul, reduceCtorEq, Try.results80, hup]
      repeat' first | assumption | (simp (disch := first | assumption | omega | (simp; done) | (simp; omega)) only [getD_bss, getD_iss, List.take_of_length_le, remV_pos]; try simp only [go_sem, Nat.reduceBEq, Nat.reduceLT, Nat.reduceLeDiff, Nat.reduceEqDiff, Nat.reduceAdd, Nat.reduceSub, Nat.reduceMul, ↓reduceIte, Int.reduceLE, Int.reduceLT, Int.reduceNeg, Int.reduceToNat, Int.reduceAdd, Int.reduceSub, Int.reduceMul, reduceCtorEq, Try.results80, hup]) | (with_reducible refine And.intro ?_ ?_) | (with_reducible intro _) | (refine @Exists.intro I _ (I.d D.nil) ?_; simp only [go_sem, Nat.reduceBEq, Nat.reduceLT, Nat.reduceLeDiff, Nat.reduceEqDiff, Nat.reduceAdd, Nat.reduceSub, Nat.reduceMul, ↓reduceIte, Int.reduceLE, Int.reduceLT, Int.reduceNeg, Int.reduceToNat, Int.reduceAdd, Int.reduceSub, Int.reduceMul, reduceCtorEq, Try.results80, hup]) | ((with_reducible (show Region.lexB _ _ = true)); kernel_rfl) | ((try rw [inK_i64]); omega)
      rw [Nat.add_assoc]
theorem Bld.and_res {b : Bld} (hb : b.Ok) {x y : Int} (hx : 0 ≤ x ∧ x < 2 * ((b.first + b.gates.length : Nat) : Int)) (hy : 0 ≤ y ∧ y < 2 * ((b.first + b.gates.length : Nat) : Int)) :
    0 ≤ (b.and x y).2 ∧ (b.and x y).2 < 2 * (((b.and x y).1.first + (b.and x y).1.gates.length : Nat) : Int) := by
  have := hb.fst
  have hh : 0 ≤ hi2 x y ∧ hi2 x y < 2 * ((b.first + b.gates.length : Nat) : Int) := by unfold hi2; split <;> assumption
  rcases b.and_cases x y with ⟨_, h⟩ | ⟨_, _, h⟩ | ⟨_, _, h3, h⟩ | ⟨_, _, _, h⟩
  · rw [h]; simp only; omega
  · rw [h]; simp only; omega
  · rw [h]
    have := idx2_lt h3
    simp only; omega
  · rw [h]; simp only [List.length_append, List.length_singleton]; omega
end Go.Proofs

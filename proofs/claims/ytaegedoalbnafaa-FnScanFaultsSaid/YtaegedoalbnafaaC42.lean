/- Contracts: circuits with a stuck gate, and what tests see of it. Conditions: none; lemmas. -/
import Derived.Test.YtaegedoalbnafaaC40
import Derived.Test.YtaegedoalbnafaaC27
set_option maxRecDepth 20000
set_option linter.unusedVariables false
set_option linter.unusedSimpArgs false
namespace Go.Proofs
open Go Go.VL

def forceLit (v : Int) (b : Bool) (l : Int) : Int := if l / 2 = v then (if b then 1 - l % 2 else l % 2) else l
def forced (c : Circ) (v : Int) (b : Bool) : Circ := cmap (forceLit v b) c
/-- The values of the first variables where one gate is stuck. -/
def evS (c : Circ) (st ins : List Bool) (v : Int) (b : Bool) : Nat → List Bool
  | 0 => false :: (ins ++ st)
  | i + 1 => evS c st ins v b i ++ [if ((evS c st ins v b i).length : Int) = v then b else litV (evS c st ins v b i) (c.gates.getD i (0, 0)).1 && litV (evS c st ins v b i) (c.gates.getD i (0, 0)).2]
def valS (c : Circ) (st ins : List Bool) (v : Int) (b : Bool) : List Bool := evS c st ins v b c.gates.length
theorem evS_len (c : Circ) (st ins : List Bool) (v : Int) (b : Bool) : ∀ i, (evS c st ins v b i).length = 1 + ins.length + st.length + i
  | 0 => by simp [evS]; omega
  | i + 1 => by simp [evS, evS_len c st ins v b i]; omega
theorem evalN_zero (c : Circ) (st ins : List Bool) : ∀ i, (evalN c st ins i).getD 0 false = false
  | 0 => rfl
  | i + 1 => by rw [evalN, getD_append_lt (by rw [evalN_len]; omega)]; exact evalN_zero c st ins i
theorem force_lit {V W : List Bool} {v : Int} {b : Bool} {n : Nat} (h0 : V.getD 0 false = false) (hu : ∀ u : Nat, u < n → W.getD u false = if (u : Int) = v then b else V.getD u false) {l : Int} (hl : 0 ≤ l ∧ l < 2 * (n : Int)) : litV V (forceLit v b l) = litV W l := by
  have hw := hu (l / 2).toNat (by omega)
  have hm := Int.emod_two_eq l
  unfold forceLit
  by_cases h : l / 2 = v
  · rw [if_pos h]
    have hw2 : W.getD (l / 2).toNat false = b := by rw [hw, if_pos (by omega)]
    unfold litV
    rw [hw2]
    cases b with
    | true =>
      rcases hm with e | e
      · rw [e]; simp only [if_true]; rw [show ((1 - 0 : Int) / 2).toNat = 0 from rfl, h0]; rfl
      · rw [e]; simp only [if_true]; rw [show ((1 - 1 : Int) / 2).toNat = 0 from rfl, h0]; rfl
    | false =>
      rcases hm with e | e
      · rw [e]; simp only [Bool.false_eq_true, if_false]; rw [show ((0 : Int) / 2).toNat = 0 from rfl, h0]; rfl
      · rw [e]; simp only [Bool.false_eq_true, if_false]; rw [show ((1 : Int) / 2).toNat = 0 from rfl, h0]; rfl
  · rw [if_neg h]
    unfold litV
    rw [hw, if_neg (by omega)]
theorem forced_pre {c : Circ} (hv : c.Valid) {st ins : List Bool} (h1 : st.length = c.next.length) (h2 : (ins.length : Int) = c.inputs) {v : Int} (hvf : c.first ≤ v) (b : Bool) : ∀ i, i ≤ c.gates.length → ∀ u : Nat, u < 1 + ins.length + st.length + i →
    (evS c st ins v b i).getD u false = if (u : Int) = v then b else (evalN (forced c v b) st ins i).getD u false
  | 0, _, u, hu => by
    have hf : c.first = 1 + ins.length + st.length := by unfold Circ.first; omega
    rw [if_neg (by omega)]; rfl
  | i + 1, hi, u, hu => by
    have hf : c.first = 1 + ins.length + st.length := by unfold Circ.first; omega
    have ih := forced_pre hv h1 h2 hvf b i (by omega)
    have l1 := evS_len c st ins v b i
    have l2 := evalN_len (forced c v b) st ins i
    rw [evS, evalN]
    by_cases hlt : u < 1 + ins.length + st.length + i
    · rw [getD_append_lt (by omega), getD_append_lt (by omega)]
      exact ih u hlt
    · obtain rfl : u = 1 + ins.length + st.length + i := by omega
      have e1 : ∀ (l : List Bool) (y : Bool), l.length = 1 + ins.length + st.length + i → (l ++ [y]).getD (1 + ins.length + st.length + i) false = y := fun l y hl => by
        rw [← hl, List.getD_eq_getElem?_getD, List.getElem?_append_right (Nat.le_refl _), Nat.sub_self]; rfl
      rw [e1 _ _ l1, e1 _ _ l2, l1]
      by_cases hvv : ((1 + ins.length + st.length + i : Nat) : Int) = v
      · rw [if_pos hvv, if_pos hvv]
      · rw [if_neg hvv, if_neg hvv]
        have hg := hv.g i (by omega)
        unfold litOk at hg
        have eg : (forced c v b).gates.getD i (0, 0) = (forceLit v b (c.gates.getD i (0, 0)).1, forceLit v b (c.gates.getD i (0, 0)).2) := by
          have hl : i < c.gates.length := by omega
          simp [forced, cmap, List.getD, hl]
        rw [eg, force_lit (evalN_zero _ _ _ _) ih (by omega), force_lit (evalN_zero _ _ _ _) ih (by omega)]
theorem forced_lits {c : Circ} (hv : c.Valid) {st ins : List Bool} (h1 : st.length = c.next.length) (h2 : (ins.length : Int) = c.inputs) {v : Int} (hvf : c.first ≤ v) (b : Bool) {ls : List Int} (hl : ∀ l ∈ ls, litOk l c.vars) : litVs (values (forced c v b) st ins) (ls.map (forceLit v b)) = litVs (valS c st ins v b) ls := by
  have hf : c.first = 1 + ins.length + st.length := by unfold Circ.first; omega
  have hgl : (forced c v b).gates.length = c.gates.length := by simp [forced, cmap]
  unfold litVs
  rw [List.map_map]
  refine List.map_congr_left fun l hm => ?_
  have := hl l hm
  unfold litOk Circ.vars at this
  rw [Function.comp, values, hgl]
  exact force_lit (evalN_zero _ _ _ _) (forced_pre hv h1 h2 hvf b c.gates.length (Nat.le_refl _)) (by omega)
theorem forceLit_ok {v : Int} {b : Bool} {l n : Int} (hn : 1 ≤ n) (h : litOk l n) : litOk (forceLit v b l) n := by
  unfold litOk forceLit at *
  have := Int.emod_two_eq l
  split
  · split <;> omega
  · exact h
theorem forced_valid {c : Circ} (hv : c.Valid) (v : Int) (b : Bool) : (forced c v b).Valid := by
  have hfb := hv.first_bd
  have hvb := hv.vars_bd
  have hf : (forced c v b).first = c.first := by simp [forced, cmap, Circ.first]
  have hvv : (forced c v b).vars = c.vars := by simp [forced, cmap, Circ.vars, Circ.first]
  refine ⟨hv.i0, hv.i1, by simpa [forced, cmap] using hv.ln, by simpa [forced, cmap] using hv.lg, by simpa [forced, cmap] using hv.lo, ?_, ?_, ?_⟩
  · intro i hi
    have hi2 : i < c.gates.length := by simpa [forced, cmap] using hi
    have eg : (forced c v b).gates.getD i (0, 0) = (forceLit v b (c.gates.getD i (0, 0)).1, forceLit v b (c.gates.getD i (0, 0)).2) := by simp [forced, cmap, List.getD, hi2]
    rw [eg, hf]
    have := hv.g i hi2
    exact ⟨forceLit_ok (by omega) this.1, forceLit_ok (by omega) this.2⟩
  · intro x hx
    obtain ⟨y, hy, rfl⟩ := List.mem_map.1 hx
    rw [hvv]
    exact forceLit_ok (by omega) (hv.n y hy)
  · intro x hx
    obtain ⟨y, hy, rfl⟩ := List.mem_map.1 hx
    rw [hvv]
    exact forceLit_ok (by omega) (hv.o y hy)
theorem forced_scan {c : Circ} (hc : canScan c) (v : Int) (b : Bool) : canScan (forced c v b) := by
  obtain ⟨q1, q2, q3, q4, q5⟩ := hc
  exact ⟨forced_valid q1 v b, by simpa [forced, cmap] using q2, q3, by simpa [forced, cmap] using q4, by simpa [forced, cmap] using q5⟩
/-! ### Bits of numbers -/
theorem numN_bit (l : List Bool) : ∀ i j, j < i → numN l i / 2 ^ j % 2 = if l.getD j false then 1 else 0
  | 0, j, h => absurd h (by omega)
  | i + 1, j, h => by
    have hb := numN_bd l i
    have hp : ∀ k : Nat, (0 : Int) < 2 ^ k := fun k => Int.pow_pos (by omega)
    rw [numN]
    by_cases hj : j < i
    · have ih := numN_bit l i j hj
      obtain ⟨d, rfl⟩ : ∃ d, i = j + (d + 1) := ⟨i - j - 1, by omega⟩
      split
      · have e : (2 : Int) ^ (j + (d + 1)) = 2 ^ j * (2 * 2 ^ d) := by rw [Int.pow_add, Int.pow_succ]; congr 1; exact Int.mul_comm _ _
        rw [e, Int.add_mul_ediv_left _ _ (by have := hp j; omega), Int.add_mul_emod_self_left]
        exact ih
      · rw [Int.add_zero]; exact ih
    · obtain rfl : j = i := by omega
      split
      · rename_i h1
        have : (numN l j + 2 ^ j) / 2 ^ j = 1 := by
          have e := Int.add_mul_ediv_left (numN l j) 1 (show (2 : Int) ^ j ≠ 0 by have := hp j; omega)
          rw [Int.mul_one] at e
          rw [e, Int.ediv_eq_zero_of_lt hb.1 hb.2]
          rfl
        rw [this]; rfl
      · rw [Int.add_zero, Int.ediv_eq_zero_of_lt hb.1 hb.2]; rfl
theorem bits_num (l : List Bool) (y : Int) (hy : 0 ≤ y) : bitsOf (numN l l.length + 2 ^ l.length * y) l.length = l := by
  refine List.ext_getElem (by simp [bitsOf]) fun j h1 h2 => ?_
  simp only [bitsOf, List.getElem_map, List.getElem_range]
  obtain ⟨d, hd⟩ : ∃ d, l.length = j + (d + 1) := ⟨l.length - j - 1, by omega⟩
  have e : (2 : Int) ^ l.length * y = 2 ^ j * (2 * (2 ^ d * y)) := by rw [hd, Int.pow_add, Int.pow_succ, Int.mul_assoc, Int.mul_comm (2 ^ d) 2, Int.mul_assoc]
  have hpj : (0 : Int) < 2 ^ j := Int.pow_pos (by omega)
  rw [e, Int.add_mul_ediv_left _ _ (by omega), Int.add_mul_emod_self_left, numN_bit l l.length j h2]
  have eg : l.getD j false = l[j] := by simp [List.getD, h2]
  rw [eg]
  cases l[j] <;> rfl
theorem num_div (l : List Bool) (y : Int) : (numN l l.length + 2 ^ l.length * y) / 2 ^ l.length = y := by
  have hb := numN_bd l l.length
  have hp : (0 : Int) < 2 ^ l.length := Int.pow_pos (by omega)
  rw [Int.add_mul_ediv_left _ _ (by omega), Int.ediv_eq_zero_of_lt hb.1 hb.2, Int.zero_add]
end Go.Proofs

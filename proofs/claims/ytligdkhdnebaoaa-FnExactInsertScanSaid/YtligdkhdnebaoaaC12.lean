/- Contracts: ternary simulation. Conditions: none; lemmas. -/
import Derived.Test.YtligdkhdnebaoaaC11
set_option maxRecDepth 20000
set_option linter.unusedVariables false
set_option linter.unusedSimpArgs false
namespace Go.Proofs
open Go Go.VL

/-! ### The values -/
def tLit (v : List Int) (l : Int) : Int := if l % 2 = 0 ∨ v.getD (l / 2).toNat 0 = 2 then v.getD (l / 2).toNat 0 else 1 - v.getD (l / 2).toNat 0
def tAnd (a b : Int) : Int := if a = 0 ∨ b = 0 then 0 else if a = 1 ∧ b = 1 then 1 else 2
def tEvalN (c : Circ) (st ins : List Int) : Nat → List Int
  | 0 => 0 :: (ins ++ st)
  | i + 1 => tEvalN c st ins i ++ [tAnd (tLit (tEvalN c st ins i) (c.gates.getD i (0, 0)).1) (tLit (tEvalN c st ins i) (c.gates.getD i (0, 0)).2)]
theorem tEvalN_len (c : Circ) (st ins : List Int) : ∀ i, (tEvalN c st ins i).length = 1 + ins.length + st.length + i
  | 0 => by simp [tEvalN]; omega
  | i + 1 => by simp [tEvalN, tEvalN_len c st ins i]; omega
def tValues (c : Circ) (st ins : List Int) : List Int := tEvalN c st ins c.gates.length
def tern (x : Int) : Prop := 0 ≤ x ∧ x ≤ 2
instance (x : Int) : Decidable (tern x) := by unfold tern; infer_instance
theorem tAnd_tern (a b : Int) : tern (tAnd a b) := by
  unfold tAnd tern
  split
  · omega
  · split <;> omega
theorem tern_scal {x : Int} (h : tern x) : scal (dI x) := by
  simp only [scal, inK_i64]
  unfold tern at h
  omega
def ternL (l : List Int) : Prop := ∀ x ∈ l, tern x
noncomputable instance (l : List Int) : Decidable (ternL l) := Classical.propDecidable _
theorem ternL.get {l : List Int} (h : ternL l) (i : Nat) : tern (l.getD i 0) := by
  by_cases hi : i < l.length
  · exact h _ (getD_mem' hi)
  · rw [List.getD_eq_getElem?_getD, List.getElem?_eq_none (by omega)]
    exact ⟨by simp, by simp⟩
theorem tLit_tern {v : List Int} (h : ternL v) (l : Int) : tern (tLit v l) := by
  have := h.get (l / 2).toNat
  unfold tLit tern at *
  split <;> omega
theorem tEvalN_tern {c : Circ} {st ins : List Int} (h1 : ternL st) (h2 : ternL ins) : ∀ i, ternL (tEvalN c st ins i)
  | 0 => by
    intro x hx
    simp only [tEvalN, List.mem_cons, List.mem_append] at hx
    rcases hx with rfl | hx | hx
    · exact ⟨by simp, by simp⟩
    · exact h2 x hx
    · exact h1 x hx
  | i + 1 => by
    intro x hx
    rw [tEvalN, List.mem_append, List.mem_singleton] at hx
    rcases hx with hx | rfl
    · exact tEvalN_tern h1 h2 i x hx
    · exact tAnd_tern _ _
/-- Less is known. -/
def tLe (a b : Int) : Prop := a = 2 ∨ a = b
def tLes (a b : List Int) : Prop := ∀ j, tLe (a.getD j 0) (b.getD j 0)
theorem tLit_mono {a b : List Int} (h : tLes a b) (l : Int) : tLe (tLit a l) (tLit b l) := by
  have := h (l / 2).toNat
  unfold tLit tLe at *
  repeat' split
  all_goals omega
theorem tAnd_mono {a a' b b' : Int} (h1 : tLe a a') (h2 : tLe b b') : tLe (tAnd a b) (tAnd a' b') := by
  unfold tAnd tLe at *
  repeat' split
  all_goals omega
theorem getD_app_one {α : Type} {l : List α} {x z : α} {j : Nat} : (l ++ [x]).getD j z = if j < l.length then l.getD j z else if j = l.length then x else z := by
  by_cases h : j < l.length
  · rw [if_pos h, getD_append_lt h]
  · rw [if_neg h]
    by_cases h2 : j = l.length
    · rw [if_pos h2]; subst h2; simp [List.getD]
    · rw [if_neg h2, List.getD_eq_getElem?_getD, List.getElem?_eq_none (by simp; omega)]; rfl
theorem tEvalN_mono {c : Circ} {st a b : List Int} (hl : a.length = b.length) (h : tLes a b) : ∀ i, tLes (tEvalN c st a i) (tEvalN c st b i)
  | 0 => by
    intro j
    simp only [tEvalN]
    rcases j with _ | j
    · exact .inr rfl
    · simp only [List.getD_cons_succ]
      by_cases hj : j < a.length
      · rw [getD_append_lt hj, getD_append_lt (by omega)]; exact h j
      · rw [List.getD_eq_getElem?_getD, List.getD_eq_getElem?_getD, List.getElem?_append_right (by omega), List.getElem?_append_right (by omega), hl]
        exact .inr rfl
  | i + 1 => by
    intro j
    have ih := tEvalN_mono (c := c) (st := st) hl h i
    rw [tEvalN, tEvalN, getD_app_one, getD_app_one, tEvalN_len, tEvalN_len, hl]
    split
    · exact ih j
    · split
      · exact tAnd_mono (tLit_mono ih _) (tLit_mono ih _)
      · exact .inr rfl
def tKn (l : List Int) : Prop := ∀ j, l.getD j 0 ≠ 2
theorem tEvalN_known {c : Circ} {st a : List Int} (h1 : tKn st) (h2 : tKn a) (q1 : ternL st) (q2 : ternL a) : ∀ i, tKn (tEvalN c st a i)
  | 0 => by
    intro j
    simp only [tEvalN]
    rcases j with _ | j
    · simp
    · simp only [List.getD_cons_succ]
      by_cases hj : j < a.length
      · rw [getD_append_lt hj]; exact h2 j
      · rw [List.getD_eq_getElem?_getD, List.getElem?_append_right (by omega)]
        exact h1 _
  | i + 1 => by
    intro j
    have ih := tEvalN_known h1 h2 q1 q2 (c := c) i
    have tl : ∀ l, tLit (tEvalN c st a i) l ≠ 2 := fun l => by
      have e1 := (tEvalN_tern (c := c) q1 q2 i).get (l / 2).toNat
      have e2 := ih (l / 2).toNat
      unfold tLit tern at *
      split <;> omega
    have tr : ∀ l, tern (tLit (tEvalN c st a i) l) := fun l => tLit_tern (tEvalN_tern q1 q2 i) l
    rw [tEvalN, getD_app_one]
    split
    · exact ih j
    · split
      · have e1 := tl (c.gates.getD i (0, 0)).1
        have e2 := tl (c.gates.getD i (0, 0)).2
        have e3 := tr (c.gates.getD i (0, 0)).1
        have e4 := tr (c.gates.getD i (0, 0)).2
        unfold tAnd tern at *
        repeat' split
        all_goals omega
      · simp
theorem tLes_set {l : List Int} (k : Nat) : tLes (l.set k 2) l := by
  intro j
  by_cases h : j = k
  · subst h
    by_cases hj : j < l.length
    · rw [lget_set_eq _ hj]; exact .inl rfl
    · rw [List.set_eq_of_length_le (by omega)]; exact .inr rfl
  · rw [lget_set_ne _ (Ne.symm h)]; exact .inr rfl
theorem tLes_set2 {l : List Int} (k : Nat) (x : Int) : tLes (l.set k 2) (l.set k x) := by
  intro j
  by_cases h : j = k
  · subst h
    by_cases hj : j < l.length
    · rw [lget_set_eq _ hj]; exact .inl rfl
    · rw [List.set_eq_of_length_le (by omega), List.set_eq_of_length_le (by omega)]; exact .inr rfl
  · rw [lget_set_ne _ (Ne.symm h), lget_set_ne _ (Ne.symm h)]; exact .inr rfl
def evOk (c : Circ) (st ins : List Int) : Prop := c.Valid ∧ st.length = c.next.length ∧ (ins.length : Int) = c.inputs ∧ ternL st ∧ ternL ins
noncomputable instance (c : Circ) (st ins : List Int) : Decidable (evOk c st ins) := Classical.propDecidable _

end Go.Proofs

/- Part 35: what a circuit computes. Conditions: none; plain definitions and lemmas. -/
import Derived.Test.YtfinoodiofghkaaVL34
set_option linter.unusedVariables false
set_option linter.unusedSimpArgs false
namespace Go.VL

theorem and_one (n : Nat) : n &&& 1 = n % 2 := Nat.and_one_is_mod n
theorem land1 {l : Int} (h : 0 ≤ l) : (((l.toNat &&& 1 : Nat) : Int) = 1) = (l % 2 = 1) := by
  rw [and_one]
  simp only [eq_iff_iff]
  omega
theorem land1z {l : Int} (h : 0 ≤ l) : (((l.toNat &&& 1 : Nat) : Int) = 0) = (l % 2 = 0) := by
  rw [and_one]
  simp only [eq_iff_iff]
  omega
theorem land1v {l : Int} (h : 0 ≤ l) : ((l.toNat &&& 1 : Nat) : Int) = l % 2 := by
  rw [and_one]
  omega

/-- The value of a literal. -/
def litV (v : List Bool) (l : Int) : Bool := v.getD (l / 2).toNat false != decide (l % 2 = 1)
def litVs (v : List Bool) (ls : List Int) : List Bool := ls.map (litV v)
theorem litVs_len {v : List Bool} {ls : List Int} : (litVs v ls).length = ls.length := by simp [litVs]
/-- The values of the first variables. -/
def evalN (c : Circ) (st ins : List Bool) : Nat → List Bool
  | 0 => false :: (ins ++ st)
  | i + 1 => evalN c st ins i ++ [litV (evalN c st ins i) (c.gates.getD i (0, 0)).1 && litV (evalN c st ins i) (c.gates.getD i (0, 0)).2]
theorem evalN_len (c : Circ) (st ins : List Bool) : ∀ i, (evalN c st ins i).length = 1 + ins.length + st.length + i
  | 0 => by simp [evalN]; omega
  | i + 1 => by simp [evalN, evalN_len c st ins i]; omega
def values (c : Circ) (st ins : List Bool) : List Bool := evalN c st ins c.gates.length
theorem evalN_pre (c : Circ) (st ins : List Bool) {i : Nat} : ∀ k, ∃ r, evalN c st ins (i + k) = evalN c st ins i ++ r
  | 0 => ⟨[], by simp⟩
  | k + 1 => by
    obtain ⟨r, h⟩ := evalN_pre c st ins (i := i) k
    exact ⟨r ++ [_], by rw [← Nat.add_assoc, evalN, h, List.append_assoc]⟩
theorem getD_append_lt {α : Type} {l r : List α} {i : Nat} {z : α} (h : i < l.length) : (l ++ r).getD i z = l.getD i z := by
  simp [List.getD, List.getElem?_append_left h]
theorem litV_app {v r : List Bool} {l : Int} (h0 : 0 ≤ l) (h : l < 2 * v.length) : litV (v ++ r) l = litV v l := by
  unfold litV
  rw [getD_append_lt (by omega)]
theorem bne_and_ne {a b : Bool} : (a != b) = !(a == b) := rfl

@[go_sem] theorem all_bools {l : List Bool} : (l.map D.bool).all D.scalar = true := by simp [D.scalar]
@[go_sem] theorem all_ints {k : IntKind} {l : List Int} : (l.map (D.int k)).all D.scalar = true := by simp [D.scalar]
attribute [go_sem] List.length_replicate
def splice {α : Type} (l : List α) (lo : Nat) (xs : List α) : List α := l.take lo ++ xs ++ l.drop (lo + xs.length)
@[go_sem] theorem splice_bools {l xs : List Bool} {lo : Nat} : spliceD (l.map D.bool) lo (xs.map D.bool) = (splice l lo xs).map D.bool := by simp [spliceD, splice]
@[go_sem] theorem splice_ints {k : IntKind} {l xs : List Int} {lo : Nat} : spliceD (l.map (D.int k)) lo (xs.map (D.int k)) = (splice l lo xs).map (D.int k) := by simp [spliceD, splice]
theorem splice_len {α : Type} {l xs : List α} {lo : Nat} (h : lo + xs.length ≤ l.length) : (splice l lo xs).length = l.length := by simp [splice]; omega
/-- Inputs and state laid into zeros. -/
theorem splice_two {α : Type} (z : α) (ins st : List α) (n : Nat) (hn : 1 + ins.length + st.length ≤ n) :
    splice (splice (List.replicate n z) 1 ins) (1 + ins.length) st = z :: (ins ++ st) ++ List.replicate (n - (1 + ins.length + st.length)) z := by
  obtain ⟨m, rfl⟩ : ∃ m, n = m + 1 := ⟨n - 1, by omega⟩
  have e1 : splice (List.replicate (m + 1) z) 1 ins = z :: (ins ++ List.replicate (m - ins.length) z) := by
    simp [splice, List.replicate_succ, List.take_replicate, List.drop_replicate, Nat.add_comm 1 ins.length]
  rw [e1]
  simp only [splice, Nat.add_comm 1 ins.length, List.take_succ_cons, List.take_left', show ins.length + 1 + st.length = ins.length + st.length + 1 by omega, List.drop_succ_cons, List.cons_append, List.append_assoc]
  simp [List.drop_append, List.drop_replicate]
  rw [List.drop_eq_nil_of_le (by omega), Nat.sub_sub]
  rfl
theorem splice_len0 {α : Type} {l xs : List α} : splice l 0 xs = xs ++ l.drop xs.length := by simp [splice]

theorem set_app_replicate {α : Type} {v : List α} {z x : α} {g i : Nat} (h : v.length = i) (hg : 0 < g) : (v ++ List.replicate g z).set i x = v ++ [x] ++ List.replicate (g - 1) z := by
  obtain ⟨m, rfl⟩ : ∃ m, g = m + 1 := ⟨g - 1, by omega⟩
  rw [List.set_append_right _ _ (by omega)]
  simp [h, List.replicate_succ]
theorem wk1_self {x : D} : wk1 x x := by unfold wk1; split <;> simp_all
theorem wkL_self : ∀ {l : List D}, wkL l l
  | [] => trivial
  | x :: r => ⟨wk1_self, wkL_self⟩
theorem wk2_self {x : D} : wk2 x x := by
  cases x with
  | agg cs => exact wkL_self
  | _ => simp only [wk2]; exact wk1_self
theorem wkT_self : ∀ {l : List D}, wkT l l
  | [] => trivial
  | x :: r => ⟨wk2_self, wkT_self⟩
@[go_sem] theorem wk_self {x : D} : wk x x = True := by
  refine eq_true ?_
  cases x with
  | tup cs => exact wkT_self
  | _ => simp only [wk]; exact wk2_self
theorem getD_bss {rows : List (List Bool)} {i : Nat} (h : i < rows.length) : (rows.map fun x => dBs x).getD i .nil = dBs (rows.getD i []) := getD_lt _ _ _ _ _ h
theorem getD_iss {rows : List (List Int)} {i : Nat} (h : i < rows.length) : (rows.map fun x => dIs x).getD i .nil = dIs (rows.getD i []) := getD_lt _ _ _ _ _ h
@[go_sem] theorem bss_inj {l l' : List (List Bool)} : (l.map (fun x => dBs x) = l'.map fun x => dBs x) = (l = l') := map_inj fun x y h => by simpa [go_sem] using h
@[go_sem] theorem bss_push {l : List (List Bool)} {x : List Bool} : l.map (fun x => dBs x) ++ [D.lst 1 (x.map D.bool)] = (l ++ [x]).map fun x => dBs x := by simp
@[go_sem] theorem bss_none {l : List (List Bool)} : (([] : List D) = l.map fun x => dBs x) = (l = []) := propext ⟨fun h => by cases l with | nil => rfl | cons x r => simp at h, fun h => by rw [h]; rfl⟩
@[go_sem] theorem bss_take {l : List (List Bool)} {n : Nat} : (l.map fun x => dBs x).take n = (l.take n).map fun x => dBs x := by simp
@[go_sem] theorem bss_drop {l : List (List Bool)} {n : Nat} : (l.map fun x => dBs x).drop n = (l.drop n).map fun x => dBs x := by simp
theorem evalN_init {c : Circ} {st ins : List Bool} : evalN c st ins 0 = false :: (ins ++ st) := rfl

end Go.VL

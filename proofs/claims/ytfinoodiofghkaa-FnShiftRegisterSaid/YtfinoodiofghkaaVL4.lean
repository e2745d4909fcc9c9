/- Part 4: operations that only read: what they yield, symbolically. Conditions: none; lemmas. -/
import Derived.Test.YtfinoodiofghkaaVL3
import Derived.Laws.StructEq
import Derived.Laws.Slices
set_option linter.unusedVariables false
set_option linter.unusedSimpArgs false
namespace Go.VL

/-! ### What the types of a program are -/
inductive Ty where
  | int (k : IntKind)
  | bool
  | slice (e : Nat)
  | struct (fs : List (Nat × Nat))
  | array (n e : Nat)
  | ptr (e : Nat)
  | map (k e : Nat)
  | func
  | string
  | other

structure TI where
  ty : Ty
  size : Nat
  bytes : Nat
  zero : D

def Ty.agg : Ty → Bool
  | .struct _ => true
  | .array _ _ => true
  | _ => false

def tyOf : TypeDesc → Ty
  | .int k => .int k
  | .bool => .bool
  | .slice e => .slice e
  | .struct fs => .struct (fs.toList.map fun f => (f.offset, f.type))
  | .array n e => .array n e
  | .pointer e => .ptr e
  | .map k e => .map k e
  | .func _ _ _ => .func
  | .string => .string
  | _ => .other

def val1 : D → Value
  | .int k n => .int k n
  | .bool b => .bool b
  | .raw v => v
  | .nil => .slice none 0 0
  | _ => undef
def zeroVal : D → Value
  | .agg cs => .agg (cs.map val1).toArray
  | x => val1 x
def const1 : D → Bool
  | .int k n => decide (k.min ≤ n) && decide (n ≤ k.max)
  | .bool _ => true
  | .raw v => rawOk v
  | .nil => true
  | _ => false
def constD : D → Bool
  | .agg cs => cs.all const1
  | x => const1 x

/-- The fields of a struct are numbers, one a cell. -/
def flatI (P : Program) : List Field → Nat → Bool
  | [], _ => true
  | f :: r, j => (f.offset == j && (match P.underlying f.type with | some (.int .i64) => true | _ => false)) && flatI P r (j + 1)
/-- Two of a type can be compared cell by cell, if all its cells are numbers. -/
def eqChk (P : Program) (t : Nat) : Bool :=
  match P.underlying t with
  | some (.struct fs) => !flatI P fs.toList 0 || (!P.stoodInHeld t && (!P.eqGuardType P.depth t && fs.toList.all fun f => decide (f.name ≠ "_")))
  | _ => true
structure TIOK (P : Program) (t : Nat) (ti : TI) : Prop where
  ex : ∃ i d, P.info? t = some i ∧ i.size = ti.size ∧ i.bytes = ti.bytes ∧ i.zero = some (zeroVal ti.zero) ∧ P.underlying t = some d ∧ tyOf d = ti.ty
  const : constD ti.zero = true
  size : ti.zero.cells.length = ti.size
  agg : (match ti.zero with | .agg _ => true | _ => false) = ti.ty.agg
  eqs : eqChk P t = true

def TOK (P : Program) (T : Nat → Option TI) : Prop := ∀ t ti, T t = some ti → TIOK P t ti

theorem fz_const1 {S : Nat → Prop} {w : World} {x : D} (h : const1 x = true) : FZ S w x (val1 x) := by
  cases x <;> simp [const1] at h
  · exact .int h
  · exact .bool
  · exact .raw h
  · exact .nil

theorem one_const1 {x : D} (h : const1 x = true) : x.one = true := by cases x <;> simp [const1] at h <;> rfl

theorem fz_zero {S : Nat → Prop} {w : World} {x : D} (h : constD x = true) : FZ S w x (zeroVal x) := by
  cases x with
  | agg cs =>
    simp only [constD, List.all_eq_true] at h
    refine .agg (by simp) (fun c hc => one_const1 (h c hc)) ?_
    intro j hj
    have : (cs.map val1).toArray.getD j undef = val1 (cs.getD j .nil) := by simp [Array.getD, hj, List.getD]
    rw [this]
    refine fz_const1 (h _ ?_)
    simp [List.getD, hj]
  | _ => exact fz_const1 h

/-! ### Reading off a value what its data is -/
section
variable {S : Nat → Prop} {φ : List (List Nat)} {H : List R} {w : World} {v : Value} {x : D}

theorem V.fz (h : V S φ H w (.d x) v) : FZ S w x v := by cases h; assumption

theorem FZ.int_inv {k : IntKind} (h : FZ S w x v) (hx : x.isInt k) : x = .int k x.toInt ∧ v = .int k x.toInt ∧ InK k x.toInt := by
  cases h <;> simp [D.isInt] at hx
  subst hx
  exact ⟨rfl, rfl, by assumption⟩

theorem FZ.bool_inv (h : FZ S w x v) (hx : x.isBool) : x = .bool x.toBool ∧ v = .bool x.toBool := by
  cases h <;> simp [D.isBool] at hx
  exact ⟨rfl, rfl⟩

theorem FZ.one (h : FZ S w x v) (hx : x.one = true) : v.oneCell' = true := by
  cases h <;> first | rfl | (simp [D.one] at hx; done) | skip
  rename_i hr
  cases v <;> simp_all [rawOk, Value.oneCell']

theorem FZ.slice_inv (h : FZ S w x v) (hx : x.isSl) : ∃ a cap, v = .slice a x.elems.length cap ∧ x.elems.length ≤ lim := by
  cases h <;> simp [D.isSl] at hx
  · exact ⟨_, _, rfl, Nat.zero_le _⟩
  · exact ⟨_, _, rfl, Nat.zero_le _⟩
  · exact ⟨_, _, rfl, by assumption⟩

theorem isSl_of_isLst {k : Nat} (h : x.isLst k) : x.isSl := by cases x <;> simp_all [D.isLst, D.isSl]

theorem getD_flat {k : Nat} {l : List D} (he : ∀ x ∈ l, x.cells.length = k) {i j : Nat} (hi : i < l.length) (hj : j < k) (z : D) :
    (flat l).getD (i * k + j) .nil = (l.getD i z).cells.getD j .nil := by
  induction l generalizing i with
  | nil => simp at hi
  | cons x r ih =>
    have hx : x.cells.length = k := he x (by simp)
    cases i with
    | zero =>
      simp only [flat, List.flatMap_cons, List.getD, Nat.zero_mul, Nat.zero_add]
      rw [List.getElem?_append_left (by omega)]
      simp
    | succ i =>
      have := ih (fun y hy => he y (List.mem_cons_of_mem _ hy)) (i := i) (by simpa using hi)
      simp only [flat, List.flatMap_cons, List.getD] at this ⊢
      rw [List.getElem?_append_right (by rw [hx, Nat.add_mul]; omega), hx, show (i + 1) * k + j - k = i * k + j by rw [Nat.add_mul]; omega, this]
      simp

theorem cellsFrom_length (x : D) (j n : Nat) : (cellsFrom x j n).length = n := by
  induction n generalizing j with
  | zero => rfl
  | succ n ih => simp [cellsFrom, ih]

theorem cellsFrom_getD (x : D) (j n m : Nat) (h : m < n) : (cellsFrom x j n).getD m .nil = x.cellAt (j + m) := by
  induction n generalizing j m with
  | zero => omega
  | succ n ih =>
    cases m with
    | zero => simp [cellsFrom]
    | succ m =>
      have := ih (j + 1) m (by omega)
      simp only [cellsFrom, List.getD, List.getElem?_cons_succ] at this ⊢
      rw [this]
      congr 1
      omega

theorem cellAt_eq (x : D) (j : Nat) (h : j < x.cells.length) : x.cellAt j = x.cells.getD j .nil := by
  cases x <;> first
    | rfl
    | (simp [D.cells] at h; subst h; rfl)

theorem getElem_eq_getD {α : Type} (l : List α) (m : Nat) (h : m < l.length) (d : α) : l[m] = l.getD m d := by simp [List.getD, h]

theorem mem_flat {l : List D} {c : D} : c ∈ flat l ↔ ∃ x ∈ l, c ∈ x.cells := by simp [flat, List.mem_flatMap]

theorem cells_getD_mem {x : D} {j : Nat} (h : j < x.cells.length) : x.cells.getD j .nil ∈ x.cells := by
  simp [List.getD, h]

/-- An element of a read-only list: where it lies, and its cells. -/
theorem FZ.elem {k : Nat} (h : FZ S w x v) (hx : x.isLst k) {i : Nat} (hi : i < x.elems.length) (z : D) :
    ∃ b off cap, v = .slice (some ⟨b, off, none⟩) x.elems.length cap ∧ FZ S w (.ptr (cellsFrom (x.elems.getD i z) 0 k)) (.pointer (some ⟨b, off + i * k, none⟩)) ∧ (x.elems.getD i z).cells.length = k := by
  cases h <;> simp [D.isLst] at hx <;> simp [D.elems] at hi
  rename_i k' l b off cap f hk he h1 hn hlim hS hc hf
  replace hx := hx.symm
  subst hx
  have hmem : (D.lst k l).elems.getD i z ∈ l := by simp [D.elems, List.getD, hi]
  have hcl := he _ hmem
  refine ⟨b, off, cap, rfl, ?_, hcl⟩
  have hfl := flat_length he
  have hbound : ∀ j, j < k → i * k + j < (flat l).length := fun j hj => by
    have hm := Nat.mul_le_mul_right k hi
    have he1 : i.succ * k = i * k + k := Nat.succ_mul i k
    have e2 : (flat l).length = l.length * k := hfl
    omega
  have hcell : ∀ j, j < k → ((D.lst k l).elems.getD i z).cellAt j = (flat l).getD (i * k + j) .nil := fun j hj => by
    rw [cellAt_eq _ _ (by rw [hcl]; exact hj), getD_flat he hi hj z]
    rfl
  refine .ptr (fun j => f (i * k + j)) hS ?_ ?_ ?_
  · intro c hc
    obtain ⟨m, hm, rfl⟩ := List.getElem_of_mem hc
    rw [cellsFrom_length] at hm
    have e' : (cellsFrom ((D.lst k l).elems.getD i z) 0 k)[m]'(by rw [cellsFrom_length]; exact hm) = ((D.lst k l).elems.getD i z).cells.getD m .nil := by
      have e := cellsFrom_getD ((D.lst k l).elems.getD i z) 0 k m hm
      rw [Nat.zero_add, cellAt_eq _ _ (by rw [hcl]; exact hm)] at e
      rw [← e]
      exact getElem_eq_getD _ _ _ _
    rw [e']
    exact h1 _ (mem_flat.2 ⟨_, hmem, cells_getD_mem (by rw [hcl]; exact hm)⟩)
  · intro j hj
    rw [cellsFrom_length] at hj
    rw [show off + i * k + j = off + (i * k + j) by omega]
    exact hc _ (hbound j hj)
  · intro j hj
    rw [cellsFrom_length] at hj
    rw [cellsFrom_getD _ _ _ _ hj, Nat.zero_add, hcell j hj]
    exact hf _ (hbound j hj)

theorem FZ.ptr_inv (h : FZ S w x v) (hx : x.isPtr) : ∃ b off, v = .pointer (some ⟨b, off, none⟩) ∧ S b ∧ (∀ c ∈ x.ptrs, c.one = true) ∧
    ∃ f : Nat → Value, (∀ j, j < x.ptrs.length → w.cell? ⟨b, off + j, none⟩ = some (f j)) ∧ ∀ j, j < x.ptrs.length → FZ S w (x.ptrs.getD j .nil) (f j) := by
  cases h <;> simp [D.isPtr] at hx
  rename_i cs b off f hS h1 hc hf
  exact ⟨b, off, rfl, hS, h1, f, hc, hf⟩

end
end Go.VL

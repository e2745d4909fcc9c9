/- Part 24: data of Go's plain types, and how lists of it are read. Conditions: none; lemmas. -/
import Derived.Test.YtfinoodiofghkaaVL23
set_option linter.unusedVariables false
set_option linter.unusedSimpArgs false
namespace Go.VL

abbrev dI (n : Int) : D := .int .i64 n
abbrev dU (n : Int) : D := .int .u8 n
abbrev dB (b : Bool) : D := .bool b
/-- Lists of numbers, of bytes, of truth values. -/
abbrev dIs (l : List Int) : D := .lst 1 (l.map (D.int .i64))
abbrev dUs (l : List Int) : D := .lst 1 (l.map (D.int .u8))
abbrev dBs (l : List Bool) : D := .lst 1 (l.map D.bool)
abbrev dBss (l : List (List Bool)) : D := .lst 1 (l.map fun x => dBs x)
abbrev dIss (l : List (List Int)) : D := .lst 1 (l.map fun x => dIs x)

theorem getD_map' {α β : Type} (f : α → β) (l : List α) (i : Nat) (z : α) : (l.map f).getD i (f z) = f (l.getD i z) := by
  simp [List.getD_eq_getElem?_getD, List.getElem?_map]
@[go_sem] theorem getD_ints {k : IntKind} {l : List Int} {i : Nat} {z : Int} : (l.map (D.int k)).getD i (D.int k z) = D.int k (l.getD i z) := getD_map' _ _ _ _
@[go_sem] theorem getD_bools {l : List Bool} {i : Nat} {z : Bool} : (l.map D.bool).getD i (D.bool z) = D.bool (l.getD i z) := getD_map' _ _ _ _
theorem getD_lt {α β : Type} (f : α → β) (l : List α) (i : Nat) (z : β) (y : α) (h : i < l.length) : (l.map f).getD i z = f (l.getD i y) := by
  simp [List.getD_eq_getElem?_getD, h]

attribute [go_sem] List.length_map Int.toNat_natCast List.nodup_nil List.length_append List.length_set

@[go_sem] theorem cast_lt {a b : Nat} : ((a : Int) < (b : Int)) = (a < b) := by simp
@[go_sem] theorem cast_le {a b : Nat} : ((a : Int) ≤ (b : Int)) = (a ≤ b) := by simp
@[go_sem] theorem cast_eq {a b : Nat} : ((a : Int) = (b : Int)) = (a = b) := propext Int.ofNat_inj
@[go_sem] theorem cast_nonneg {a : Nat} : ((0 : Int) ≤ (a : Int)) = True := by simp
@[go_sem] theorem lt0_cast {a : Nat} : ((a : Int) < 0) = False := by simp
@[go_sem] theorem cast_succ {a : Nat} : ((a : Int) + 1) = ((a + 1 : Nat) : Int) := by simp
attribute [go_sem] Nat.le_refl Int.le_refl and_false false_and not_false_eq_true ge_iff_le gt_iff_lt

theorem map_inj {α β : Type} {f : α → β} (hf : ∀ x y, f x = f y → x = y) {l l' : List α} : (l.map f = l'.map f) = (l = l') := by
  refine propext ⟨fun h => ?_, fun h => by rw [h]⟩
  induction l generalizing l' with
  | nil => cases l' with
    | nil => rfl
    | cons y r => simp at h
  | cons x r ih => cases l' with
    | nil => simp at h
    | cons y r' =>
      simp only [List.map_cons, List.cons.injEq] at h
      rw [hf _ _ h.1, ih h.2]
@[go_sem] theorem ints_inj {k : IntKind} {l l' : List Int} : (l.map (D.int k) = l'.map (D.int k)) = (l = l') := map_inj fun x y h => by simpa using h
@[go_sem] theorem bools_inj {l l' : List Bool} : (l.map D.bool = l'.map D.bool) = (l = l') := map_inj fun x y h => by simpa using h
@[go_sem] theorem ints_set {k : IntKind} {l : List Int} {i : Nat} {x : Int} : (l.map (D.int k)).set i (D.int k x) = (l.set i x).map (D.int k) := List.map_set.symm
@[go_sem] theorem bools_set {l : List Bool} {i : Nat} {x : Bool} : (l.map D.bool).set i (D.bool x) = (l.set i x).map D.bool := List.map_set.symm
@[go_sem] theorem ints_push {k : IntKind} {l : List Int} {x : Int} : l.map (D.int k) ++ [D.int k x] = (l ++ [x]).map (D.int k) := by simp
@[go_sem] theorem bools_push {l : List Bool} {x : Bool} : l.map D.bool ++ [D.bool x] = (l ++ [x]).map D.bool := by simp
@[go_sem] theorem ints_app {k : IntKind} {l l' : List Int} : l.map (D.int k) ++ l'.map (D.int k) = (l ++ l').map (D.int k) := by simp
@[go_sem] theorem bools_app {l l' : List Bool} : l.map D.bool ++ l'.map D.bool = (l ++ l').map D.bool := by simp
@[go_sem] theorem ints_rep {k : IntKind} {n : Nat} {x : Int} : List.replicate n (D.int k x) = (List.replicate n x).map (D.int k) := by simp
@[go_sem] theorem bools_rep {n : Nat} {x : Bool} : List.replicate n (D.bool x) = (List.replicate n x).map D.bool := by simp
@[go_sem] theorem ints_drop {k : IntKind} {l : List Int} {n : Nat} : (l.map (D.int k)).drop n = (l.drop n).map (D.int k) := by simp
@[go_sem] theorem bools_drop {l : List Bool} {n : Nat} : (l.map D.bool).drop n = (l.drop n).map D.bool := by simp
@[go_sem] theorem ints_take {k : IntKind} {l : List Int} {n : Nat} : (l.map (D.int k)).take n = (l.take n).map (D.int k) := by simp
@[go_sem] theorem bools_take {l : List Bool} {n : Nat} : (l.map D.bool).take n = (l.take n).map D.bool := by simp
/-- An empty row, as a row of numbers. -/
theorem ints_none {k : IntKind} {l : List Int} : (([] : List D) = l.map (D.int k)) = (l = []) := propext ⟨fun h => by cases l with | nil => rfl | cons x r => simp at h, fun h => by rw [h]; rfl⟩
theorem bools_none {l : List Bool} : (([] : List D) = l.map D.bool) = (l = []) := propext ⟨fun h => by cases l with | nil => rfl | cons x r => simp at h, fun h => by rw [h]; rfl⟩
attribute [go_sem] ints_none bools_none

theorem drop_getD {α : Type} {l : List α} {i : Nat} (z : α) (h : i < l.length) : l.drop i = l.getD i z :: l.drop (i + 1) := by
  rw [List.drop_eq_getElem_cons h]
  simp [List.getD, h]
theorem ext_getD {α : Type} {l l' : List α} (z : α) (hl : l.length = l'.length) (h : ∀ j, j < l.length → l.getD j z = l'.getD j z) : l = l' := by
  refine List.ext_getElem hl fun j h3 h4 => ?_
  have := h j h3
  simpa [List.getD, h3, h4] using this
theorem lget_set_eq {α : Type} {l : List α} {i : Nat} {x : α} (z : α) (h : i < l.length) : (l.set i x).getD i z = x := by simp [List.getD, h]
theorem lget_set_ne {α : Type} {l : List α} {i j : Nat} {x : α} (z : α) (h : i ≠ j) : (l.set i x).getD j z = l.getD j z := by simp [List.getD, List.getElem?_set, h]

attribute [go_sem] beq_self_eq_true beq_iff_eq beq_eq_false_iff_ne Bool.true_eq_false not_false_eq_true imp_self List.take_length List.drop_length List.nodup_cons List.not_mem_nil decide_true decide_false Bool.or_eq_true Bool.and_eq_true Bool.or_eq_false_iff Bool.and_eq_false_iff Int.one_mul Int.cast_ofNat_Int Int.add_zero Int.zero_add Int.sub_zero Nat.add_zero Nat.sub_zero Bool.or_false Bool.false_or Bool.or_true Bool.true_or Bool.not_not

@[go_sem] theorem dscalar_int {k : IntKind} {n : Int} : (D.int k n).scalar = true := rfl
@[go_sem] theorem dscalar_bool {b : Bool} : (D.bool b).scalar = true := rfl
attribute [go_sem] List.forall_mem_cons

end Go.VL

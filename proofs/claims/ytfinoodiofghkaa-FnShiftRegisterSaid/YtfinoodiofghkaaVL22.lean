/- Part 22: rewriting rules of memory operations, calls and results. Conditions: none; lemmas. -/
import Derived.Test.YtfinoodiofghkaaVL21
set_option linter.unusedVariables false
set_option linter.unusedSimpArgs false
namespace Go.VL

variable {E : Env} {Q : Post} {fr : Fr} {H : List R} {T : Nat → Option TI} {ty : Ty} {sz b : Nat} {z : D}

attribute [go_sem] true_and and_true eq_self if_true if_false true_implies imp_true_iff not_false_eq_true not_true_eq_false Bool.false_eq_true decide_eq_true_eq decide_eq_false_iff_not Bool.not_true Bool.not_false Bool.not_eq_true' Bool.not_eq_false' ite_true ite_false and_self implies_true false_implies ne_eq

/-! ### cells of values -/
def xCI (ty : Ty) (sz : Nat) : Bool → I → Option (Prop × List I)
  | true, .d xd => some (xd.cells.length = sz ∧ xd.one = false ∧ (∀ n, xd ≠ .tup n), (cellsFrom xd 0 sz).map .d)
  | true, .agg cs => some (cs.length = sz, cs)
  | false, .d xd => some (sz = 1 ∧ xd.one = true, [.d xd])
  | false, .sl i g k lo n => some (sz = 1, [.sl i g k lo n])
  | false, .ptr i off => some (sz = 1, [.ptr i off])
  | false, .map i => some (sz = 1, [.map i])
  | false, .fn f caps => some (sz = 1, [.fn f caps])
  | _, _ => none
theorem cellsI_x {ti : TI} {x : I} : cellsI ti x = xCI ti.ty ti.size ti.ty.agg x := by
  unfold cellsI
  cases ti.ty.agg <;> cases x <;> rfl
@[go_sem] theorem cellsI_eq {x : I} : cellsI ⟨ty, sz, b, z⟩ x = xCI ty sz ty.agg x := cellsI_x
@[go_sem] theorem xCI_td {xd : D} : xCI ty sz true (.d xd) = some (xd.cells.length = sz ∧ xd.one = false ∧ (∀ n, xd ≠ .tup n), (cellsFrom xd 0 sz).map .d) := rfl
@[go_sem] theorem xCI_ta {cs : List I} : xCI ty sz true (.agg cs) = some (cs.length = sz, cs) := rfl
@[go_sem] theorem xCI_fd {xd : D} : xCI ty sz false (.d xd) = some (sz = 1 ∧ xd.one = true, [.d xd]) := rfl
@[go_sem] theorem xCI_fs {i g k lo n : Nat} : xCI ty sz false (.sl i g k lo n) = some (sz = 1, [.sl i g k lo n]) := rfl
@[go_sem] theorem xCI_fp {i o : Nat} : xCI ty sz false (.ptr i o) = some (sz = 1, [.ptr i o]) := rfl
@[go_sem] theorem xCI_fm {i : Nat} : xCI ty sz false (.map i) = some (sz = 1, [.map i]) := rfl
@[go_sem] theorem xCI_ff {g : Nat} {cs : List I} : xCI ty sz false (.fn g cs) = some (sz = 1, [.fn g cs]) := rfl
@[go_sem] theorem setCells_nil {cs : List I} {off : Nat} : setCells cs off [] = cs := rfl
@[go_sem] theorem setCells_cons {cs : List I} {off : Nat} {x : I} {r : List I} : setCells cs off (x :: r) = setCells (cs.set off x) (off + 1) r := rfl
@[go_sem] theorem setD_nil {cs : List D} {off : Nat} : setD cs off [] = cs := rfl
@[go_sem] theorem setD_cons {cs : List D} {off : Nat} {x : D} {r : List D} : setD cs off (x :: r) = setD (cs.set off x) (off + 1) r := rfl

def xBox2 (H : List R) : Option (Prop × List I) → Option (Prop × I × List R)
  | some (vc, cs) => some (vc, .ptr H.length 0, H ++ [.box cs])
  | none => none
def xBox1 (H : List R) (x : I) : Option TI → Option (Prop × I × List R)
  | some ti => xBox2 H (cellsI ti x)
  | none => none
@[go_sem] theorem sBox_eq {e : Nat} {x : I} : sBox T H e x = xBox1 H x (T e) := by
  unfold sBox
  cases T e with
  | none => rfl
  | some ti => simp only [xBox1]; cases cellsI ti x <;> rfl
@[go_sem] theorem xBox1_s {x : I} : xBox1 H x (some ⟨ty, sz, b, z⟩) = xBox2 H (cellsI ⟨ty, sz, b, z⟩ x) := rfl
@[go_sem] theorem xBox2_s {vc : Prop} {cs : List I} : xBox2 H (some (vc, cs)) = some (vc, .ptr H.length 0, H ++ [.box cs]) := rfl
def xAl (H : List R) : Option TI → Option (Prop × I × List R)
  | some ti => some (True, .ptr H.length 0, H ++ [.box ((cellsFrom ti.zero 0 ti.size).map .d)])
  | none => none
@[go_sem] theorem sAlloc_eq {e : Nat} : sAlloc T H e = xAl H (T e) := by unfold sAlloc; cases T e <;> rfl
@[go_sem] theorem xAl_s : xAl H (some ⟨ty, sz, b, z⟩) = some (True, .ptr H.length 0, H ++ [.box ((cellsFrom z 0 sz).map .d)]) := rfl

/-! ### struct literals -/
def xFill4 (vc : Prop) (off fsz : Nat) (cs : List I) : Option (Prop × List I) → Option (Prop × List I)
  | some (vc', r) => some (vc ∧ off + fsz ≤ cs.length ∧ vc', r)
  | none => none
def xFill3 (T : Nat → Option TI) (fs : List (Nat × Nat)) (cs : List I) (rest : List (Nat × I)) (off fsz : Nat) : Option (Prop × List I) → Option (Prop × List I)
  | some (vc, xs) => xFill4 vc off fsz cs (fillI T fs (setCells cs off xs) rest)
  | none => none
def xFill2 (T : Nat → Option TI) (fs : List (Nat × Nat)) (cs : List I) (rest : List (Nat × I)) (x : I) (off : Nat) : Option TI → Option (Prop × List I)
  | some fi => xFill3 T fs cs rest off fi.size (cellsI fi x)
  | none => none
def xFill1 (T : Nat → Option TI) (fs : List (Nat × Nat)) (cs : List I) (rest : List (Nat × I)) (x : I) : Option (Nat × Nat) → Option (Prop × List I)
  | some (off, ft) => xFill2 T fs cs rest x off (T ft)
  | none => none
@[go_sem] theorem fillI_nil {fs : List (Nat × Nat)} {cs : List I} : fillI T fs cs [] = some (True, cs) := rfl
@[go_sem] theorem fillI_cons {fs : List (Nat × Nat)} {cs : List I} {i : Nat} {x : I} {rest : List (Nat × I)} : fillI T fs cs ((i, x) :: rest) = xFill1 T fs cs rest x (nthF fs i) := by
  simp only [fillI, ← nthF_eq]
  cases fs[i]? with
  | none => rfl
  | some p =>
    obtain ⟨off, ft⟩ := p
    simp only [xFill1]
    cases T ft with
    | none => rfl
    | some fi =>
      simp only [xFill2]
      cases cellsI fi x with
      | none => rfl
      | some q =>
        obtain ⟨vc, xs⟩ := q
        simp only [xFill3]
        cases fillI T fs (setCells cs off xs) rest <;> rfl
@[go_sem] theorem xFill1_s {fs : List (Nat × Nat)} {cs : List I} {x : I} {rest : List (Nat × I)} {off ft : Nat} : xFill1 T fs cs rest x (some (off, ft)) = xFill2 T fs cs rest x off (T ft) := rfl
@[go_sem] theorem xFill2_s {fs : List (Nat × Nat)} {cs : List I} {x : I} {rest : List (Nat × I)} {off : Nat} : xFill2 T fs cs rest x off (some ⟨ty, sz, b, z⟩) = xFill3 T fs cs rest off sz (cellsI ⟨ty, sz, b, z⟩ x) := rfl
@[go_sem] theorem xFill3_s {fs : List (Nat × Nat)} {cs xs : List I} {rest : List (Nat × I)} {off fsz : Nat} {vc : Prop} : xFill3 T fs cs rest off fsz (some (vc, xs)) = xFill4 vc off fsz cs (fillI T fs (setCells cs off xs) rest) := rfl
@[go_sem] theorem xFill4_s {cs r : List I} {off fsz : Nat} {vc vc' : Prop} : xFill4 vc off fsz cs (some (vc', r)) = some (vc ∧ off + fsz ≤ cs.length ∧ vc', r) := rfl
def xBd2 (T : Nat → Option TI) (fs : List (Nat × Nat)) : Option (Prop × List I) → Option (Prop × I)
  | some (vc, cs) => some (vc ∧ allOne cs ∧ fs.all (fun f => (T f.2).isSome) = true, mkAgg cs)
  | none => none
def xBd4 : Option (Prop × List I) → Option (Prop × I)
  | some (vc, cs) => some (vc ∧ allOne cs, mkAgg cs)
  | none => none
@[go_sem] theorem xBd4_s {vc : Prop} {cs : List I} : xBd4 (some (vc, cs)) = some (vc ∧ allOne cs, mkAgg cs) := rfl
def xBd3 (T : Nat → Option TI) (n e sz : Nat) (z : D) (parts : List (Nat × I)) : Option TI → Option (Prop × I)
  | some ei => xBd4 (fillI T (arrF n e ei.size) ((cellsFrom z 0 sz).map .d) parts)
  | none => none
@[go_sem] theorem xBd3_s {n e sz' : Nat} {z' : D} {parts : List (Nat × I)} {ty : Ty} {sz b : Nat} {z : D} : xBd3 T n e sz' z' parts (some ⟨ty, sz, b, z⟩) = xBd4 (fillI T (arrF n e sz) ((cellsFrom z' 0 sz').map .d) parts) := rfl
@[go_sem] theorem nthF_arr {n e sz i : Nat} : nthF (arrF n e sz) i = if i < n then some (i * sz, e) else none := by rw [← nthF_eq, arrF_get]
def xBd1 (T : Nat → Option TI) (parts : List (Nat × I)) : Option TI → Option (Prop × I)
  | some ⟨.struct fs, sz, _, z⟩ => xBd2 T fs (fillI T fs ((cellsFrom z 0 sz).map .d) parts)
  | some ⟨.array n e, sz, _, z⟩ => xBd3 T n e sz z parts (T e)
  | _ => none
@[go_sem] theorem sBuild_eq {t : Nat} {parts : List (Nat × I)} : sBuild T t parts = xBd1 T parts (T t) := by
  unfold sBuild
  cases T t with
  | none => rfl
  | some ti =>
    obtain ⟨ty, sz, b, z⟩ := ti
    cases ty with
    | struct fs =>
      simp only [xBd1]
      cases fillI T fs ((cellsFrom z 0 sz).map .d) parts <;> rfl
    | array n e =>
      simp only [xBd1]
      cases T e with
      | none => rfl
      | some ei =>
        simp only [xBd3]
        cases fillI T (arrF n e ei.size) ((cellsFrom z 0 sz).map .d) parts <;> rfl
    | _ => rfl
@[go_sem] theorem xBd1_a {n e : Nat} {parts : List (Nat × I)} : xBd1 T parts (some ⟨.array n e, sz, b, z⟩) = xBd3 T n e sz z parts (T e) := rfl
@[go_sem] theorem xBd1_s {fs : List (Nat × Nat)} {parts : List (Nat × I)} : xBd1 T parts (some ⟨.struct fs, sz, b, z⟩) = xBd2 T fs (fillI T fs ((cellsFrom z 0 sz).map .d) parts) := rfl
@[go_sem] theorem xBd2_s {fs : List (Nat × Nat)} {vc : Prop} {cs : List I} : xBd2 T fs (some (vc, cs)) = some (vc ∧ allOne cs ∧ fs.all (fun f => (T f.2).isSome) = true, mkAgg cs) := rfl
attribute [go_sem] List.all_cons List.all_nil Option.isSome_some

/-! ### slice literals -/
def xLP (i j size : Nat) (x : D) : Option (Prop × List D) → Option (Prop × List D)
  | some (vc, l) => some (j = i ∧ x.cells.length = size ∧ x.notTup ∧ vc, x :: l)
  | none => none
@[go_sem] theorem litParts_nil {size i : Nat} : litParts size i [] = some (True, []) := rfl
@[go_sem] theorem litParts_cons {size i j : Nat} {x : D} {r : List (Nat × I)} : litParts size i ((j, .d x) :: r) = xLP i j size x (litParts size (i + 1) r) := by
  simp only [litParts]; cases litParts size (i + 1) r <;> rfl
@[go_sem] theorem litParts_sl {size i j a g k lo n : Nat} {r : List (Nat × I)} : litParts size i ((j, .sl a g k lo n) :: r) = none := rfl
@[go_sem] theorem xLP_s {size i j : Nat} {x : D} {vc : Prop} {l : List D} : xLP i j size x (some (vc, l)) = some (j = i ∧ x.cells.length = size ∧ x.notTup ∧ vc, x :: l) := rfl
def xLit3 (H : List R) (len size : Nat) : Option (Prop × List D) → Option (Prop × I × List R)
  | some (vc, l) => some (vc ∧ l.length = len ∧ 0 < size ∧ len * size ≤ 1000, .sl H.length 0 size 0 l.length, H ++ [.row 0 size (scalars l) l])
  | none => none
def xLit2 (H : List R) (len : Nat) (parts : List (Nat × I)) : Option TI → Option (Prop × I × List R)
  | some ei => xLit3 H len ei.size (litParts ei.size 0 parts)
  | none => none
def xLit1 (T : Nat → Option TI) (H : List R) (len : Nat) (parts : List (Nat × I)) : Option TI → Option (Prop × I × List R)
  | some ⟨.slice e, _, _, _⟩ => xLit2 H len parts (T e)
  | _ => none
@[go_sem] theorem sLit_eq {t len : Nat} {parts : List (Nat × I)} : sLit T H t len parts = xLit1 T H len parts (T t) := by
  unfold sLit
  cases T t with
  | none => rfl
  | some ti =>
    obtain ⟨ty, sz, b, z⟩ := ti
    cases ty with
    | slice e =>
      simp only [xLit1]
      cases T e with
      | none => rfl
      | some ei => simp only [xLit2]; cases litParts ei.size 0 parts <;> rfl
    | _ => rfl
@[go_sem] theorem xLit1_s {len e : Nat} {parts : List (Nat × I)} : xLit1 T H len parts (some ⟨.slice e, sz, b, z⟩) = xLit2 H len parts (T e) := rfl
@[go_sem] theorem xLit2_s {len : Nat} {parts : List (Nat × I)} : xLit2 H len parts (some ⟨ty, sz, b, z⟩) = xLit3 H len sz (litParts sz 0 parts) := rfl
@[go_sem] theorem xLit3_n {len size : Nat} : xLit3 H len size none = none := rfl
@[go_sem] theorem xLit3_s {len size : Nat} {vc : Prop} {l : List D} : xLit3 H len size (some (vc, l)) = some (vc ∧ l.length = len ∧ 0 < size ∧ len * size ≤ 1000, .sl H.length 0 size 0 l.length, H ++ [.row 0 size (scalars l) l]) := rfl
@[go_sem] theorem scalars_nil : scalars [] = true := rfl
@[go_sem] theorem scalars_cons {x : D} {r : List D} : scalars (x :: r) = (x.cells.all D.scalar && scalars r) := rfl
attribute [go_sem] Bool.and_true Bool.true_and Bool.and_self Bool.false_and Bool.and_false

/-! ### make -/
def xMk2 (H : List R) (l c : D) : Option TI → Option (Prop × I × List R)
  | some ei => some (l.isInt .i64 ∧ c.isInt .i64 ∧ 0 ≤ l.toInt ∧ l.toInt ≤ c.toInt ∧ (ei.bytes : Int) * c.toInt ≤ 281474976710656 ∧ 0 < ei.bytes ∧ 0 < ei.size,
      .sl H.length 0 ei.size 0 l.toInt.toNat, H ++ [.row 0 ei.size true (List.replicate l.toInt.toNat ei.zero)])
  | none => none
def xMk1 (T : Nat → Option TI) (H : List R) : Option TI → I → I → Option (Prop × I × List R)
  | some ⟨.slice e, _, _, _⟩, .d l, .d c => xMk2 H l c (T e)
  | _, _, _ => none
@[go_sem] theorem sMake_eq {t : Nat} {l c : I} : sMake T H t l c = xMk1 T H (T t) l c := by
  unfold sMake
  cases T t with
  | none => rfl
  | some ti =>
    obtain ⟨ty, sz, b, z⟩ := ti
    cases ty <;> cases l <;> cases c <;> first
      | rfl
      | (rename_i e _ _; simp only [xMk1]; cases T e <;> rfl)
@[go_sem] theorem xMk1_s {l c : D} {e : Nat} : xMk1 T H (some ⟨.slice e, sz, b, z⟩) (.d l) (.d c) = xMk2 H l c (T e) := rfl
@[go_sem] theorem xMk2_s {l c : D} : xMk2 H l c (some ⟨ty, sz, b, z⟩) = some (l.isInt .i64 ∧ c.isInt .i64 ∧ 0 ≤ l.toInt ∧ l.toInt ≤ c.toInt ∧ (b : Int) * c.toInt ≤ 281474976710656 ∧ 0 < b ∧ 0 < sz,
      .sl H.length 0 sz 0 l.toInt.toNat, H ++ [.row 0 sz true (List.replicate l.toInt.toNat z)]) := rfl

/-! ### store -/
def xCD : Bool → Nat → I → Option (Prop × List D)
  | true, sz, .d xd => some (xd.cells.length = sz ∧ xd.one = false ∧ (∀ n, xd ≠ .tup n), cellsFrom xd 0 sz)
  | false, sz, .d xd => some (sz = 1 ∧ xd.one = true, [xd])
  | _, _, _ => none
theorem cellsD_x {ti : TI} {x : I} : cellsD ti x = xCD ti.ty.agg ti.size x := by
  unfold cellsD
  cases ti.ty.agg <;> cases x <;> rfl
@[go_sem] theorem xCD_t {xd : D} : xCD true sz (.d xd) = some (xd.cells.length = sz ∧ xd.one = false ∧ (∀ n, xd ≠ .tup n), cellsFrom xd 0 sz) := rfl
@[go_sem] theorem xCD_f {xd : D} : xCD false sz (.d xd) = some (sz = 1 ∧ xd.one = true, [xd]) := rfl
def xSt3 (H : List R) (i off sz : Nat) (cs : List I) : Option (Prop × List I) → Option (Prop × List R)
  | some (vc, xs) => some (vc ∧ off + sz ≤ cs.length, H.set i (.box (setCells cs off xs)))
  | none => none
def xSt2 (H : List R) (i off : Nat) (ti : TI) (x : I) : Option R → Option (Prop × List R)
  | some (.box cs) => xSt3 H i off ti.size cs (cellsI ti x)
  | _ => none
def xSt5 (H : List R) (i g k idx off : Nat) (z : D) (sz g' k' : Nat) (dp : Bool) (l : List D) : Bool → Option (Prop × List D) → Option (Prop × List R)
  | true, some (vc, xs) => some (vc ∧ g = g' ∧ k = k' ∧ idx < l.length ∧ off = 0 ∧ sz = 1 ∧ (dp = true → (l.getD idx z).scalar = true ∧ (xs.getD 0 .nil).scalar = true), H.set i (.row g' k' dp (l.set idx (xs.getD 0 .nil))))
  | false, some (vc, xs) => some (vc ∧ g = g' ∧ k = k' ∧ idx < l.length ∧ off + sz ≤ k ∧ 1 < k ∧ (dp = true → (∀ c ∈ cellsFrom (l.getD idx z) 0 k, c.scalar = true) ∧ (∀ c ∈ xs, c.scalar = true)),
            H.set i (.row g' k' dp (l.set idx (.agg (setD (cellsFrom (l.getD idx z) 0 k) off xs)))))
  | _, none => none
def xSt4 (H : List R) (i g k idx off : Nat) (z : D) (ti : TI) (x : I) : Option R → Option (Prop × List R)
  | some (.row g' k' dp l) => xSt5 H i g k idx off z ti.size g' k' dp l (decide (k = 1)) (cellsD ti x)
  | _ => none
def xSt1 (H : List R) (p x : I) : Option TI → Option (Prop × List R)
  | some ti => match p with
    | .ptr i off => xSt2 H i off ti x (rootAt H i)
    | .eptr i g k idx off z => xSt4 H i g k idx off z ti x (rootAt H i)
    | _ => none
  | none => none
@[go_sem] theorem sStore_eq {t : Nat} {p x : I} : sStore T H t p x = xSt1 H p x (T t) := by
  unfold sStore
  cases T t with
  | none => cases p <;> rfl
  | some ti =>
    cases p <;> simp only [xSt1, ← rootAt_eq]
    · rename_i i off
      cases H[i]? with
      | none => rfl
      | some r =>
        cases r <;> simp only [xSt2]
        rename_i cs
        cases cellsI ti x <;> rfl
    · rename_i i g k idx off z
      cases H[i]? with
      | none => rfl
      | some r =>
        cases r <;> simp only [xSt4]
        rename_i g' k' dp l
        cases cellsD ti x with
        | none => simp only [xSt5]
        | some q => obtain ⟨vc, xs⟩ := q; cases decide (k = 1) <;> rfl
@[go_sem] theorem xSt1_ptr {i off : Nat} {x : I} : xSt1 H (.ptr i off) x (some ⟨ty, sz, b, z⟩) = xSt2 H i off ⟨ty, sz, b, z⟩ x (rootAt H i) := rfl
@[go_sem] theorem xSt2_box {i off : Nat} {x : I} {cs : List I} : xSt2 H i off ⟨ty, sz, b, z⟩ x (some (.box cs)) = xSt3 H i off sz cs (cellsI ⟨ty, sz, b, z⟩ x) := rfl
@[go_sem] theorem xSt3_s {i off : Nat} {cs xs : List I} {vc : Prop} : xSt3 H i off sz cs (some (vc, xs)) = some (vc ∧ off + sz ≤ cs.length, H.set i (.box (setCells cs off xs))) := rfl
@[go_sem] theorem xSt1_eptr {i g k idx off : Nat} {z' : D} {x : I} : xSt1 H (.eptr i g k idx off z') x (some ⟨ty, sz, b, z⟩) = xSt4 H i g k idx off z' ⟨ty, sz, b, z⟩ x (rootAt H i) := rfl
@[go_sem] theorem xSt4_row {i g k idx off g' k' : Nat} {z' : D} {x : I} {dp : Bool} {l : List D} : xSt4 H i g k idx off z' ⟨ty, sz, b, z⟩ x (some (.row g' k' dp l)) = xSt5 H i g k idx off z' sz g' k' dp l (decide (k = 1)) (xCD ty.agg sz x) := by
  simp only [xSt4, cellsD_x]
@[go_sem] theorem xSt5_t {i g k idx off g' k' : Nat} {z' : D} {dp : Bool} {l xs : List D} {vc : Prop} : xSt5 H i g k idx off z' sz g' k' dp l true (some (vc, xs)) =
    some (vc ∧ g = g' ∧ k = k' ∧ idx < l.length ∧ off = 0 ∧ sz = 1 ∧ (dp = true → (l.getD idx z').scalar = true ∧ (xs.getD 0 .nil).scalar = true), H.set i (.row g' k' dp (l.set idx (xs.getD 0 .nil)))) := rfl
@[go_sem] theorem xSt5_f {i g k idx off g' k' : Nat} {z' : D} {dp : Bool} {l xs : List D} {vc : Prop} : xSt5 H i g k idx off z' sz g' k' dp l false (some (vc, xs)) =
    some (vc ∧ g = g' ∧ k = k' ∧ idx < l.length ∧ off + sz ≤ k ∧ 1 < k ∧ (dp = true → (∀ c ∈ cellsFrom (l.getD idx z') 0 k, c.scalar = true) ∧ (∀ c ∈ xs, c.scalar = true)),
            H.set i (.row g' k' dp (l.set idx (.agg (setD (cellsFrom (l.getD idx z') 0 k) off xs))))) := rfl

/-! ### append, copy -/
def xSrcS (size g k lo n : Nat) : Option R → Option (Prop × List D)
  | some (.row g' k' dp l) => some (g = g' ∧ k = k' ∧ k = size ∧ (dp = true → scalars ((l.drop lo).take n) = true), (l.drop lo).take n)
  | _ => none
@[go_sem] theorem srcD_d {size : Nat} {xd : D} : srcD H size (.d xd) = some (xd.isLst size ∧ 0 < size, xd.elems) := rfl
@[go_sem] theorem srcD_sl {size i g k lo n : Nat} : srcD H size (.sl i g k lo n) = xSrcS size g k lo n (rootAt H i) := by
  simp only [srcD, rootAt_eq]
  cases rootAt H i with
  | none => rfl
  | some r => cases r <;> rfl
@[go_sem] theorem xSrcS_s {size g k lo n g' k' : Nat} {dp : Bool} {l : List D} : xSrcS size g k lo n (some (.row g' k' dp l)) = some (g = g' ∧ k = k' ∧ k = size ∧ (dp = true → scalars ((l.drop lo).take n) = true), (l.drop lo).take n) := rfl
def xAp4 (H : List R) (i g k lo n : Nat) (c : Prop) (size bytes : Nat) (xs : List D) : Option R → Option (Prop × I × List R)
  | some (.row g' k' dp l) => some (c ∧ g = g' ∧ k = k' ∧ k = size ∧ lo = 0 ∧ n = l.length ∧ (dp = true → scalars xs = true) ∧ (n + xs.length) * bytes ≤ 140737488355328 ∧ 0 < bytes,
                .sl i (g + 1) k 0 (n + xs.length), H.set i (.row (g + 1) k dp (l ++ xs)))
  | _ => none
def xAp3 (H : List R) (t t' size bytes : Nat) (d : I) : Option (Prop × List D) → Option (Prop × I × List R)
  | some (vc, xs) => match d with
    | .d .nil => some ((t = t' ∧ vc) ∧ 0 < size ∧ xs.length * bytes ≤ 140737488355328 ∧ 0 < bytes, .sl H.length 0 size 0 xs.length, H ++ [.row 0 size (scalars xs) xs])
    | .sl i g k lo n => xAp4 H i g k lo n (t = t' ∧ vc) size bytes xs (rootAt H i)
    | _ => none
  | none => none
def xAp2 (H : List R) (t t' : Nat) (d x : I) : Option TI → Option (Prop × I × List R)
  | some ei => xAp3 H t t' ei.size ei.bytes d (srcD H ei.size x)
  | none => none
def xAp1 (T : Nat → Option TI) (H : List R) (t t' : Nat) (d x : I) : Option TI → Option (Prop × I × List R)
  | some ⟨.slice e, _, _, _⟩ => xAp2 H t t' d x (T e)
  | _ => none
@[go_sem] theorem sAppend_eq {t t' : Nat} {d x : I} : sAppend T H t t' d x = xAp1 T H t t' d x (T t) := by
  unfold sAppend
  cases T t with
  | none => rfl
  | some ti =>
    obtain ⟨ty, sz, b, z⟩ := ti
    cases ty with
    | slice e =>
      simp only [xAp1]
      cases T e with
      | none => rfl
      | some ei =>
        simp only [xAp2]
        cases srcD H ei.size x with
        | none => rfl
        | some q =>
          obtain ⟨vc, xs⟩ := q
          cases d with
          | d dd => cases dd <;> simp only [xAp3, and_assoc]
          | sl i g k lo n =>
            simp only [xAp3, ← rootAt_eq]
            cases H[i]? with
            | none => rfl
            | some r => cases r <;> simp only [xAp4, and_assoc]
          | _ => rfl
    | _ => rfl
@[go_sem] theorem xAp1_s {t t' e : Nat} {d x : I} : xAp1 T H t t' d x (some ⟨.slice e, sz, b, z⟩) = xAp2 H t t' d x (T e) := rfl
@[go_sem] theorem xAp2_s {t t' : Nat} {d x : I} : xAp2 H t t' d x (some ⟨ty, sz, b, z⟩) = xAp3 H t t' sz b d (srcD H sz x) := rfl
@[go_sem] theorem xAp3_nil {t t' bytes : Nat} {vc : Prop} {xs : List D} : xAp3 H t t' sz bytes (.d .nil) (some (vc, xs)) = some ((t = t' ∧ vc) ∧ 0 < sz ∧ xs.length * bytes ≤ 140737488355328 ∧ 0 < bytes, .sl H.length 0 sz 0 xs.length, H ++ [.row 0 sz (scalars xs) xs]) := rfl
@[go_sem] theorem xAp3_sl {t t' bytes i g k lo n : Nat} {vc : Prop} {xs : List D} : xAp3 H t t' sz bytes (.sl i g k lo n) (some (vc, xs)) = xAp4 H i g k lo n (t = t' ∧ vc) sz bytes xs (rootAt H i) := rfl
@[go_sem] theorem xAp4_s {bytes i g k lo n g' k' : Nat} {c : Prop} {xs l : List D} {dp : Bool} : xAp4 H i g k lo n c sz bytes xs (some (.row g' k' dp l)) =
    some (c ∧ g = g' ∧ k = k' ∧ k = sz ∧ lo = 0 ∧ n = l.length ∧ (dp = true → scalars xs = true) ∧ (n + xs.length) * bytes ≤ 140737488355328 ∧ 0 < bytes, .sl i (g + 1) k 0 (n + xs.length), H.set i (.row (g + 1) k dp (l ++ xs))) := rfl
def xCp4 (H : List R) (i g k lo n : Nat) (vc : Prop) (size : Nat) (xs : List D) : Option R → Option (Prop × I × List R)
  | some (.row g' k' dp l) => some (vc ∧ g = g' ∧ k = k' ∧ k = size ∧ size = 1 ∧ xs.length ≤ n ∧ lo + n ≤ l.length ∧ xs.all D.scalar = true ∧ l.all D.scalar = true,
              .d (.int .i64 (xs.length : Nat)), H.set i (.row g' k' dp (spliceD l lo xs)))
  | _ => none
def xCp3 (H : List R) (size : Nat) : Option (Prop × List D) → I → Option (Prop × I × List R)
  | some (vc, xs), .sl i g k lo n => xCp4 H i g k lo n vc size xs (rootAt H i)
  | _, _ => none
def xCp2 (H : List R) (d x : I) : Option TI → Option (Prop × I × List R)
  | some ei => xCp3 H ei.size (srcD H ei.size x) d
  | none => none
def xCp1 (T : Nat → Option TI) (H : List R) (d x : I) : Option TI → Option (Prop × I × List R)
  | some ⟨.slice e, _, _, _⟩ => xCp2 H d x (T e)
  | _ => none
@[go_sem] theorem sCopy_eq {t t' : Nat} {d x : I} : sCopy T H t t' d x = xCp1 T H d x (T t) := by
  unfold sCopy
  cases T t with
  | none => rfl
  | some ti =>
    obtain ⟨ty, sz, b, z⟩ := ti
    cases ty with
    | slice e =>
      simp only [xCp1]
      cases T e with
      | none => rfl
      | some ei =>
        simp only [xCp2]
        cases srcD H ei.size x with
        | none => cases d <;> rfl
        | some q =>
          obtain ⟨vc, xs⟩ := q
          cases d <;> simp only [xCp3, ← rootAt_eq]
          rename_i i g k lo n
          cases H[i]? with
          | none => rfl
          | some r => cases r <;> rfl
    | _ => rfl
@[go_sem] theorem xCp1_s {e : Nat} {d x : I} : xCp1 T H d x (some ⟨.slice e, sz, b, z⟩) = xCp2 H d x (T e) := rfl
@[go_sem] theorem xCp2_s {d x : I} : xCp2 H d x (some ⟨ty, sz, b, z⟩) = xCp3 H sz (srcD H sz x) d := rfl
@[go_sem] theorem xCp3_s {i g k lo n : Nat} {vc : Prop} {xs : List D} : xCp3 H sz (some (vc, xs)) (.sl i g k lo n) = xCp4 H i g k lo n vc sz xs (rootAt H i) := rfl
@[go_sem] theorem xCp4_s {i g k lo n g' k' : Nat} {vc : Prop} {xs l : List D} {dp : Bool} : xCp4 H i g k lo n vc sz xs (some (.row g' k' dp l)) =
    some (vc ∧ g = g' ∧ k = k' ∧ k = sz ∧ sz = 1 ∧ xs.length ≤ n ∧ lo + n ≤ l.length ∧ xs.all D.scalar = true ∧ l.all D.scalar = true, .d (.int .i64 (xs.length : Nat)), H.set i (.row g' k' dp (spliceD l lo xs))) := rfl

/-! ### calls -/
@[go_sem] theorem fnOf_d {g : Nat} {cs : List D} : fnOf (.d (.fn g cs)) = some (g, cs.map .d) := rfl
@[go_sem] theorem fnOf_fn {g : Nat} {cs : List I} : fnOf (.fn g cs) = some (g, cs) := rfl
def xCall2 (E : Env) (c : Prop) (f : Nat) (H : List R) (K : I → List R → Prop) : Option (Prop × List D) → Prop
  | some (vc, ds) => c ∧ vc ∧ pcall E f ds H K
  | none => False
def xCall3 (E : Env) (c : Prop) (f : Nat) (H : List R) (K : I → List R → Prop) : Option (Prop × List D) → Prop
  | some (vc, ds) => c ∧ vc ∧ fcall E f ds H K
  | none => False
def xCall1 (E : Env) (c : Prop) (f : Nat) (args : List I) (H : List R) (K : I → List R → Prop) : Kind → Prop
  | .own => xCall2 E c f H K (views H args)
  | .fz => xCall3 E c f H K (datas args)
  | .proc => c ∧ ICall E.P f args H K
@[go_sem] theorem callM_s {c : Prop} {f : Nat} {caps args : List I} {K : I → List R → Prop} : callM E c (some (f, caps)) args H K = xCall1 E c f (args ++ caps) H K (E.pf f) := by
  simp only [callM]
  cases E.pf f with
  | own => simp only [xCall1]; cases views H (args ++ caps) <;> rfl
  | fz => simp only [xCall1]; cases datas (args ++ caps) <;> rfl
  | proc => rfl
@[go_sem] theorem xCall1_own {c : Prop} {f : Nat} {args : List I} {K : I → List R → Prop} : xCall1 E c f args H K .own = xCall2 E c f H K (views H args) := rfl
@[go_sem] theorem xCall1_fz {c : Prop} {f : Nat} {args : List I} {K : I → List R → Prop} : xCall1 E c f args H K .fz = xCall3 E c f H K (datas args) := rfl
@[go_sem] theorem xCall1_proc {c : Prop} {f : Nat} {args : List I} {K : I → List R → Prop} : xCall1 E c f args H K .proc = (c ∧ ICall E.P f args H K) := rfl
@[go_sem] theorem xCall2_s {c vc : Prop} {f : Nat} {ds : List D} {K : I → List R → Prop} : xCall2 E c f H K (some (vc, ds)) = (c ∧ vc ∧ pcall E f ds H K) := rfl
@[go_sem] theorem xCall3_s {c vc : Prop} {f : Nat} {ds : List D} {K : I → List R → Prop} : xCall3 E c f H K (some (vc, ds)) = (c ∧ vc ∧ fcall E f ds H K) := rfl
def xCall5 (E : Env) (c : Prop) (e : Bool) (f : Nat) (K : I → Prop) : Option (Prop × List D) → Prop
  | some (vc, ds) => (e = true → c ∧ vc) ∧ gcall E e f ds K
  | none => False
def xCall4 (E : Env) (c : Prop) (e : Bool) (f : Nat) (args : List I) (H : List R) (K : List R → I → Prop) : Kind → Prop
  | .own => xCall5 E c e f (K H) (views H args)
  | .proc => (e = false → ∃ x, K H (.cond e x)) ∧ (e = true → c ∧ ICall E.P f args H (fun r H' => K H' (.cond e r)))
  | .fz => False
@[go_sem] theorem callN_s {c : Prop} {e : Bool} {f : Nat} {caps args : List I} {K : List R → I → Prop} : callN E c e (some (f, caps)) args H K = xCall4 E c e f (args ++ caps) H K (E.pf f) := by
  simp only [callN]
  cases E.pf f with
  | own => simp only [xCall4]; cases views H (args ++ caps) <;> rfl
  | fz => rfl
  | proc => rfl
@[go_sem] theorem xCall4_proc {c : Prop} {e : Bool} {f : Nat} {args : List I} {K : List R → I → Prop} : xCall4 E c e f args H K .proc = ((e = false → ∃ x, K H (.cond e x)) ∧ (e = true → c ∧ ICall E.P f args H (fun r H' => K H' (.cond e r)))) := rfl
@[go_sem] theorem xCall4_own {c : Prop} {e : Bool} {f : Nat} {args : List I} {K : List R → I → Prop} : xCall4 E c e f args H K .own = xCall5 E c e f (K H) (views H args) := rfl
@[go_sem] theorem xCall5_s {c vc : Prop} {e : Bool} {f : Nat} {ds : List D} {K : I → Prop} : xCall5 E c e f K (some (vc, ds)) = ((e = true → c ∧ vc) ∧ gcall E e f ds K) := rfl

def consV : Option (Prop × D) → Option (Prop × List D) → Option (Prop × List D)
  | some (vc, d), some (vc', ds) => some (vc ∧ vc', d :: ds)
  | _, _ => none
def consO : Option (Prop × D) → Option (Prop × List D) → Option (Prop × List D)
  | some (vc, d), some (vc', ds) => some (vc ∧ d.one = true ∧ vc', d :: ds)
  | _, _ => none
@[go_sem] theorem consV_s {vc vc' : Prop} {d : D} {ds : List D} : consV (some (vc, d)) (some (vc', ds)) = some (vc ∧ vc', d :: ds) := rfl
@[go_sem] theorem consO_s {vc vc' : Prop} {d : D} {ds : List D} : consO (some (vc, d)) (some (vc', ds)) = some (vc ∧ d.one = true ∧ vc', d :: ds) := rfl
@[go_sem] theorem views_nil : views H [] = some (True, []) := rfl
@[go_sem] theorem views_cons {x : I} {r : List I} : views H (x :: r) = consV (view H 3 x) (views H r) := by
  simp only [views, viewF]
  cases view H 3 x with
  | none => rfl
  | some p => obtain ⟨vc, d⟩ := p; cases viewF (view H 3) r <;> rfl
@[go_sem] theorem datas_nil : datas [] = some (True, []) := rfl
@[go_sem] theorem datas_cons {x : D} {r : List I} : datas (.d x :: r) = consV (some (True, x)) (datas r) := by
  simp only [datas, viewF, view]
  cases viewF (view [] 0) r <;> rfl
@[go_sem] theorem viewL_nil {f : I → Option (Prop × D)} : viewL f [] = some (True, []) := rfl
@[go_sem] theorem viewL_cons {f : I → Option (Prop × D)} {x : I} {r : List I} : viewL f (x :: r) = consO (f x) (viewL f r) := by
  simp only [viewL]
  cases f x with
  | none => rfl
  | some p => obtain ⟨vc, d⟩ := p; cases viewL f r <;> rfl
@[go_sem] theorem viewF_nil {f : I → Option (Prop × D)} : viewF f [] = some (True, []) := rfl
@[go_sem] theorem viewF_cons {f : I → Option (Prop × D)} {x : I} {r : List I} : viewF f (x :: r) = consV (f x) (viewF f r) := by
  simp only [viewF]
  cases f x with
  | none => rfl
  | some p => obtain ⟨vc, d⟩ := p; cases viewF f r <;> rfl
def vSl (g k lo n : Nat) : Option R → Option (Prop × D)
  | some (.row g' k' _ l) => some (g = g' ∧ k = k', .lst k ((l.drop lo).take n))
  | _ => none
def vPtr : Option (Prop × List D) → Option (Prop × D)
  | some (vc, ds) => some (vc, .ptr ds)
  | none => none
def vBox (H : List R) (f off : Nat) : Option R → Option (Prop × D)
  | some (.box cs) => vPtr (viewL (view H f) (cs.drop off))
  | _ => none
def vAgg : Option (Prop × List D) → Option (Prop × D)
  | some (vc, ds) => some (vc, .agg ds)
  | none => none
def vTup : Option (Prop × List D) → Option (Prop × D)
  | some (vc, ds) => some (vc, .tup ds)
  | none => none
def vFn (g : Nat) : Option (Prop × List D) → Option (Prop × D)
  | some (vc, ds) => some (vc, .fn g ds)
  | none => none
def vE (g k idx off : Nat) (z : D) : Option R → Option (Prop × D)
  | some (.row g' k' _ l) => some (g = g' ∧ k = k' ∧ idx < l.length, .ptr ((cellsFrom (l.getD idx z) 0 k).drop off))
  | _ => none
@[go_sem] theorem view_d0 {x : D} : view H 0 (.d x) = some (True, x) := rfl
@[go_sem] theorem view_d {f : Nat} {x : D} : view H (f + 1) (.d x) = some (True, x) := rfl
@[go_sem] theorem view_sl {f i g k lo n : Nat} : view H (f + 1) (.sl i g k lo n) = vSl g k lo n (rootAt H i) := by
  simp only [view, rootAt_eq]
  cases rootAt H i with
  | none => rfl
  | some r => cases r <;> rfl
@[go_sem] theorem view_ptr {f i off : Nat} : view H (f + 1) (.ptr i off) = vBox H f off (rootAt H i) := by
  simp only [view, rootAt_eq]
  cases rootAt H i with
  | none => rfl
  | some r =>
    cases r <;> simp only [vBox]
    rename_i cs
    cases viewL (view H f) (cs.drop off) <;> rfl
@[go_sem] theorem view_eptr {f i g k idx off : Nat} {z' : D} : view H (f + 1) (.eptr i g k idx off z') = vE g k idx off z' (rootAt H i) := by
  simp only [view, rootAt_eq]
  cases rootAt H i with
  | none => rfl
  | some r => cases r <;> rfl
@[go_sem] theorem view_agg {f : Nat} {cs : List I} : view H (f + 1) (.agg cs) = vAgg (viewL (view H f) cs) := by
  simp only [view]; cases viewL (view H f) cs <;> rfl
@[go_sem] theorem view_fn {f g : Nat} {cs : List I} : view H (f + 1) (.fn g cs) = vFn g (viewF (view H f) cs) := by
  simp only [view]; cases viewF (view H f) cs <;> rfl
@[go_sem] theorem view_tup {f : Nat} {cs : List I} : view H (f + 1) (.tup cs) = vTup (viewF (view H f) cs) := by
  simp only [view]; cases viewF (view H f) cs <;> rfl
@[go_sem] theorem vTup_s {vc : Prop} {ds : List D} : vTup (some (vc, ds)) = some (vc, .tup ds) := rfl
@[go_sem] theorem vSl_s {g k lo n g' k' : Nat} {dp : Bool} {l : List D} : vSl g k lo n (some (.row g' k' dp l)) = some (g = g' ∧ k = k', .lst k ((l.drop lo).take n)) := rfl
@[go_sem] theorem vBox_s {f off : Nat} {cs : List I} : vBox H f off (some (.box cs)) = vPtr (viewL (view H f) (cs.drop off)) := rfl
@[go_sem] theorem vPtr_s {vc : Prop} {ds : List D} : vPtr (some (vc, ds)) = some (vc, .ptr ds) := rfl
@[go_sem] theorem vAgg_s {vc : Prop} {ds : List D} : vAgg (some (vc, ds)) = some (vc, .agg ds) := rfl
@[go_sem] theorem vFn_s {vc : Prop} {g : Nat} {ds : List D} : vFn g (some (vc, ds)) = some (vc, .fn g ds) := rfl
@[go_sem] theorem vE_s {g k idx off g' k' : Nat} {z' : D} {dp : Bool} {l : List D} : vE g k idx off z' (some (.row g' k' dp l)) = some (g = g' ∧ k = k' ∧ idx < l.length, .ptr ((cellsFrom (l.getD idx z') 0 k).drop off)) := rfl

/-! ### results -/
def endR (Po : I → List R → Prop) (H : List R) : Option (Prop × I) → Prop
  | some (vc, r) => vc ∧ Po r H
  | none => False
def resO : Option (Prop × List I) → Option (Prop × I)
  | some (vc, [x]) => some (vc, x)
  | some (vc, l) => some (vc, .tup l)
  | none => none
def consT (x : I) : Option (Prop × List I) → Option (Prop × List I)
  | some (vc, l) => some (vc, x :: l)
  | none => none
def consC : Option (Prop × I) → Option (Prop × List I) → Option (Prop × List I)
  | some (c, x), some (vc, l) => some (c ∧ vc, x :: l)
  | _, _ => none
@[go_sem] theorem endsWith_normal {fn : Func} {Po : Fr → I → List R → Prop} : endsWith T fn Po .normal fr H = endR (Po fr) H (resI T H fr fn.results.toList) := by
  simp only [endsWith]; cases resI T H fr fn.results.toList <;> rfl
@[go_sem] theorem endsWith_ret {fn : Func} {Po : Fr → I → List R → Prop} : endsWith T fn Po .ret fr H = endR (Po fr) H (resI T H fr fn.results.toList) := by
  simp only [endsWith]; cases resI T H fr fn.results.toList <;> rfl
@[go_sem] theorem endR_s {Po : I → List R → Prop} {vc : Prop} {r : I} : endR Po H (some (vc, r)) = (vc ∧ Po r H) := rfl
@[go_sem] theorem resI_eq {rs : List ResultVar} : resI T H fr rs = resO (resC T H fr rs) := by
  simp only [resI]
  cases resC T H fr rs with
  | none => rfl
  | some p => obtain ⟨vc, l⟩ := p; match l with | [] => rfl | [x] => rfl | x :: y :: r => rfl
@[go_sem] theorem resC_nil : resC T H fr [] = some (True, []) := rfl
@[go_sem] theorem resC_tmp {t : Nat} {r : List ResultVar} : resC T H fr (.tmp t :: r) = consT (fr.get t) (resC T H fr r) := by
  simp only [resC]
  cases resC T H fr r <;> rfl
@[go_sem] theorem resC_cell {x t : Nat} {r : List ResultVar} : resC T H fr (.cell x t :: r) = consC (sLoad T H t (fr.get x)) (resC T H fr r) := by
  simp only [resC]
  cases sLoad T H t (fr.get x) with
  | none => rfl
  | some p => cases resC T H fr r <;> rfl
@[go_sem] theorem consT_s {x : I} {vc : Prop} {l : List I} : consT x (some (vc, l)) = some (vc, x :: l) := rfl
@[go_sem] theorem consC_s {x : I} {c vc : Prop} {l : List I} : consC (some (c, x)) (some (vc, l)) = some (c ∧ vc, x :: l) := rfl
@[go_sem] theorem resO_one {vc : Prop} {x : I} : resO (some (vc, [x])) = some (vc, x) := rfl
@[go_sem] theorem resO_nil {vc : Prop} : resO (some (vc, [])) = some (vc, .tup []) := rfl
@[go_sem] theorem resO_two {vc : Prop} {x y : I} {r : List I} : resO (some (vc, x :: y :: r)) = some (vc, .tup (x :: y :: r)) := rfl

@[go_sem] theorem pkR_s {vc : Prop} {x x' : D} {ids : List Nat} : pkR x (some (vc, x', ids)) = (vc ∧ ids.Nodup ∧ wk x' x) := rfl
@[go_sem] theorem vwR_s {vc : Prop} {x x' : D} : vwR x (some (vc, x')) = (vc ∧ wk x' x) := rfl
def pkS (i g k lo m : Nat) : Option R → Option (Prop × D × List Nat)
  | some (.row g' k' true l) => some (g = g' ∧ k = k' ∧ lo = 0 ∧ m = l.length, .lst k l, [i])
  | _ => none
@[go_sem] theorem pkS_s {i g k lo m g' k' : Nat} {l : List D} : pkS i g k lo m (some (.row g' k' true l)) = some (g = g' ∧ k = k' ∧ lo = 0 ∧ m = l.length, .lst k l, [i]) := rfl
@[go_sem] theorem pk_d {f : Nat} {x : D} : pk H f (.d x) = some (free3 x = true, x, []) := by cases f <;> rfl
@[go_sem] theorem pk_sl {f i g k lo m : Nat} : pk H f (.sl i g k lo m) = pkS i g k lo m (rootAt H i) := by
  rw [← rootAt_eq]
  cases f <;> simp only [pk] <;> (cases H[i]? with
    | none => rfl
    | some r => cases r <;> first | rfl | (rename_i dp _; cases dp <;> rfl))
def pkA : Option (Prop × List D × List Nat) → Option (Prop × D × List Nat)
  | some (vc, ds, l) => some (vc ∧ ones ds, .agg ds, l)
  | none => none
def pkT : Option (Prop × List D × List Nat) → Option (Prop × D × List Nat)
  | some (vc, ds, l) => some (vc, .tup ds, l)
  | none => none
def pkC : Option (Prop × D × List Nat) → Option (Prop × List D × List Nat) → Option (Prop × List D × List Nat)
  | some (vc, d, l), some (vc', ds, l') => some (vc ∧ vc', d :: ds, l ++ l')
  | _, _ => none
@[go_sem] theorem pk_agg {f : Nat} {cs : List I} : pk H (f + 1) (.agg cs) = pkA (pkL (pk H f) cs) := by simp only [pk]; cases pkL (pk H f) cs <;> rfl
@[go_sem] theorem pk_tup {f : Nat} {cs : List I} : pk H (f + 1) (.tup cs) = pkT (pkL (pk H f) cs) := by simp only [pk]; cases pkL (pk H f) cs <;> rfl
@[go_sem] theorem pkA_s {vc : Prop} {ds : List D} {l : List Nat} : pkA (some (vc, ds, l)) = some (vc ∧ ones ds, .agg ds, l) := rfl
@[go_sem] theorem pkT_s {vc : Prop} {ds : List D} {l : List Nat} : pkT (some (vc, ds, l)) = some (vc, .tup ds, l) := rfl
@[go_sem] theorem pkC_s {vc vc' : Prop} {d : D} {ds : List D} {l l' : List Nat} : pkC (some (vc, d, l)) (some (vc', ds, l')) = some (vc ∧ vc', d :: ds, l ++ l') := rfl
@[go_sem] theorem pkL_nil {f : I → Option (Prop × D × List Nat)} : pkL f [] = some (True, [], []) := rfl
@[go_sem] theorem pkL_cons {f : I → Option (Prop × D × List Nat)} {x : I} {r : List I} : pkL f (x :: r) = pkC (f x) (pkL f r) := by
  simp only [pkL]
  cases f x with
  | none => rfl
  | some p => obtain ⟨vc, d, l⟩ := p; cases pkL f r <;> rfl
@[go_sem] theorem ones_nil : ones [] = True := rfl
@[go_sem] theorem ones_cons {x : D} {r : List D} : ones (x :: r) = (x.one = true ∧ ones r) := rfl
@[go_sem] theorem free3_int {k : IntKind} {n : Int} : free3 (.int k n) = true := rfl
@[go_sem] theorem free3_bool {b : Bool} : free3 (.bool b) = true := rfl
@[go_sem] theorem free3_nil : free3 .nil = true := rfl
@[go_sem] theorem free3_raw {v : Value} : free3 (.raw v) = true := rfl
@[go_sem] theorem free3_agg {cs : List D} : free3 (.agg cs) = cs.all free1 := rfl
@[go_sem] theorem free3_tup {cs : List D} : free3 (.tup cs) = cs.all free2 := rfl
@[go_sem] theorem free1_int {k : IntKind} {n : Int} : free1 (.int k n) = true := rfl
@[go_sem] theorem free1_bool {b : Bool} : free1 (.bool b) = true := rfl
@[go_sem] theorem free1_nil : free1 .nil = true := rfl
@[go_sem] theorem free2_int {k : IntKind} {n : Int} : free2 (.int k n) = true := rfl
@[go_sem] theorem free2_bool {b : Bool} : free2 (.bool b) = true := rfl
@[go_sem] theorem free2_nil : free2 .nil = true := rfl
@[go_sem] theorem free2_agg {cs : List D} : free2 (.agg cs) = cs.all free1 := rfl
@[go_sem] theorem wk_int {k : IntKind} {n : Int} {y : D} : wk (.int k n) y = (D.int k n = y) := by cases y <;> rfl
@[go_sem] theorem wk_bool {b : Bool} {y : D} : wk (.bool b) y = (D.bool b = y) := by cases y <;> rfl
@[go_sem] theorem wk_lst {k : Nat} {l : List D} {y : D} : wk (.lst k l) y = (D.lst k l = y) := by cases y <;> rfl
@[go_sem] theorem wk_nil {k : Nat} {l : List D} : wk .nil (.lst k l) = (0 < k ∧ l = []) := rfl
@[go_sem] theorem wk_agg {xs ys : List D} : wk (.agg xs) (.agg ys) = wkL xs ys := rfl
@[go_sem] theorem wk_tup {xs ys : List D} : wk (.tup xs) (.tup ys) = wkT xs ys := rfl
@[go_sem] theorem wkL_nil : wkL [] [] = True := rfl
@[go_sem] theorem wkL_cons {x y : D} {xs ys : List D} : wkL (x :: xs) (y :: ys) = (wk1 x y ∧ wkL xs ys) := rfl
@[go_sem] theorem wkT_nil : wkT [] [] = True := rfl
@[go_sem] theorem wkT_cons {x y : D} {xs ys : List D} : wkT (x :: xs) (y :: ys) = (wk2 x y ∧ wkT xs ys) := rfl
@[go_sem] theorem wk1_int {k : IntKind} {n : Int} {y : D} : wk1 (.int k n) y = (D.int k n = y) := by cases y <;> rfl
@[go_sem] theorem wk1_bool {b : Bool} {y : D} : wk1 (.bool b) y = (D.bool b = y) := by cases y <;> rfl
@[go_sem] theorem wk1_lst {k : Nat} {l : List D} {y : D} : wk1 (.lst k l) y = (D.lst k l = y) := by cases y <;> rfl
@[go_sem] theorem wk1_nil {k : Nat} {l : List D} : wk1 .nil (.lst k l) = (0 < k ∧ l = []) := rfl
@[go_sem] theorem wk1_nil' : wk1 .nil .nil = True := by simp [wk1]
@[go_sem] theorem wk2_int {k : IntKind} {n : Int} {y : D} : wk2 (.int k n) y = (D.int k n = y) := by cases y <;> rfl
@[go_sem] theorem wk2_bool {b : Bool} {y : D} : wk2 (.bool b) y = (D.bool b = y) := by cases y <;> rfl
@[go_sem] theorem wk2_lst {k : Nat} {l : List D} {y : D} : wk2 (.lst k l) y = (D.lst k l = y) := by cases y <;> rfl
@[go_sem] theorem wk2_nil {k : Nat} {l : List D} : wk2 .nil (.lst k l) = (0 < k ∧ l = []) := rfl
@[go_sem] theorem wk2_agg {xs ys : List D} : wk2 (.agg xs) (.agg ys) = wkL xs ys := rfl

/-- The same contract, in the form in which the machine runs. -/
theorem pure_of {E : Env} (hT : TOK E.P E.T) (hn : E.n = 0) {f : Nat} {fn : Func} {c : Code} {nt : Nat} {ds : List D} {x : D} (fuel : Nat) (hf : E.P.funcs[f]? = some fn) (hb : fn.body = some c) (hnm : (fn.name == "runtime.NumGoroutine") = false) (hnt : fn.ntmps = nt) (hl : ds.length ≤ nt)
    (h : execC E fuel c [] (endsWith E.T fn (fun fr r H' => pkR x (pk H' 3 r))) ⟨nt, initM 0 (ds.map .d)⟩ []) : Pure E.P f ds x := by
  subst hnt
  refine pure_intro hT hf hb hnm hl ?_
  have := run_code hT fuel h
  rw [hn] at this
  exact this
theorem pureF_of {E : Env} (hT : TOK E.P E.T) (hn : E.n = 0) {f : Nat} {fn : Func} {c : Code} {nt : Nat} {ds : List D} {x : D} (fuel : Nat) (hf : E.P.funcs[f]? = some fn) (hb : fn.body = some c) (hnm : (fn.name == "runtime.NumGoroutine") = false) (hnt : fn.ntmps = nt) (hl : ds.length ≤ nt)
    (h : execC E fuel c [] (endsWith E.T fn (fun fr r H' => vwR x (view H' 3 r))) ⟨nt, initM 0 (ds.map .d)⟩ []) : PureF E.P f ds x := by
  subst hnt
  refine pureF_intro hT hf hb hnm hl ?_
  have := run_code hT fuel h
  rw [hn] at this
  exact this

theorem pcall_fz {f : Nat} {ds : List D} {k : I → List R → Prop} {x : D} (h : Pure E.P f ds x) (hk : k (.d x) H) : pcall E f ds H k := ⟨_, h.toE, fun y hy => by rw [hy]; exact .inl hk⟩
theorem pcallE_fz {f : Nat} {ds : List D} {k : I → List R → Prop} {ψ : D → Prop} (h : PureE E.P f ds ψ) (hk : ∀ x, ψ x → k (.d x) H) : pcall E f ds H k := ⟨_, h, fun y hy => .inl (hk y hy)⟩
theorem fcall_of {f : Nat} {ds : List D} {k : I → List R → Prop} {x : D} (h : PureF E.P f ds x) (hk : k (.d x) H) : fcall E f ds H k := ⟨_, h.toE, fun y hy => by rw [hy]; exact hk⟩
theorem fcallE_of {f : Nat} {ds : List D} {k : I → List R → Prop} {ψ : D → Prop} (h : PureFE E.P f ds ψ) (hk : ∀ x, ψ x → k (.d x) H) : fcall E f ds H k := ⟨ψ, h, hk⟩
theorem gcall_of {e : Bool} {f : Nat} {ds : List D} {k : I → Prop} {x : D} (h : e = true → Pure E.P f ds x) (hk : k (.cond e (.d x))) : gcall E e f ds k := ⟨x, h, hk⟩

end Go.VL

/- Part 21: rewriting rules of the operations. Conditions: none; lemmas. -/
import Derived.Test.YtfinoodiofghkaaVL20
set_option linter.unusedVariables false
set_option linter.unusedSimpArgs false
namespace Go.VL

variable {E : Env} {Q : Post} {fr : Fr} {H : List R} {T : Nat → Option TI} {ty : Ty} {sz b : Nat} {z : D}

/-! ### load -/
def xLoadD : Bool → Ty → Nat → D → Option (Prop × I)
  | true, _, sz, pd => some (pd.isPtr ∧ sz ≤ pd.ptrs.length, .d (.agg (pd.ptrs.take sz)))
  | false, ty, _, pd => some (pd.isPtr ∧ 0 < pd.ptrs.length ∧ tchk ty (pd.ptrs.getD 0 .nil), .d (tnorm ty (pd.ptrs.getD 0 .nil)))
def xLoadB : Option R → Bool → Ty → Nat → Nat → Option (Prop × I)
  | some (.box cs), true, _, sz, off => some (off + sz ≤ cs.length ∧ allOne ((cs.drop off).take sz), mkAgg ((cs.drop off).take sz))
  | some (.box cs), false, ty, _, off => some (off < cs.length ∧ tchkI ty (cs.getD off .junk), tnormI ty (cs.getD off .junk))
  | _, _, _, _, _ => none
def xLoadE : Option R → Bool → Ty → Nat → Nat → Nat → Nat → Nat → D → Option (Prop × I)
  | some (.row g' k' false l), true, _, sz, g, k, idx, off, z => some (g = g' ∧ k = k' ∧ idx < l.length ∧ off + sz ≤ k, .d (.agg (cellsFrom (l.getD idx z) off sz)))
  | some (.row g' k' true l), true, _, sz, g, k, idx, off, z => some (g = g' ∧ k = k' ∧ idx < l.length ∧ off + sz ≤ k ∧ ∀ c ∈ cellsFrom (l.getD idx z) off sz, c.scalar = true, .d (.agg (cellsFrom (l.getD idx z) off sz)))
  | some (.row g' k' false l), false, ty, sz, g, k, idx, off, z => some (g = g' ∧ k = k' ∧ idx < l.length ∧ off < k ∧ tchk ty ((l.getD idx z).cellAt off), .d (tnorm ty ((l.getD idx z).cellAt off)))
  | some (.row g' k' true l), false, .int kk, sz, g, k, idx, off, z => some (g = g' ∧ k = k' ∧ idx < l.length ∧ off < k ∧ tchk (.int kk) ((l.getD idx z).cellAt off), .d (tnorm (.int kk) ((l.getD idx z).cellAt off)))
  | some (.row g' k' true l), false, .bool, sz, g, k, idx, off, z => some (g = g' ∧ k = k' ∧ idx < l.length ∧ off < k ∧ tchk .bool ((l.getD idx z).cellAt off), .d (tnorm .bool ((l.getD idx z).cellAt off)))
  | _, _, _, _, _, _, _, _, _ => none
def xLoad : Option TI → List R → I → Option (Prop × I)
  | some ti, _, .d pd => xLoadD ti.ty.agg ti.ty ti.size pd
  | some ti, H, .ptr i off => xLoadB (rootAt H i) ti.ty.agg ti.ty ti.size off
  | some ti, H, .eptr i g k idx off z => xLoadE (rootAt H i) ti.ty.agg ti.ty ti.size g k idx off z
  | _, _, _ => none
@[go_sem] theorem sLoad_eq {t : Nat} {p : I} : sLoad T H t p = xLoad (T t) H p := by
  unfold sLoad
  cases T t with
  | none => cases p <;> rfl
  | some ti =>
    cases p with
    | d pd => simp only [xLoad]; cases ti.ty.agg <;> rfl
    | ptr i off =>
      simp only [xLoad, ← rootAt_eq]
      split
      · rename_i cs hi; rw [hi]; cases ti.ty.agg <;> rfl
      · rename_i hn
        cases hi : H[i]? with
        | none => rfl
        | some r => cases r <;> first | rfl | exact absurd hi (hn _)
    | eptr i g k idx off z =>
      simp only [xLoad, ← rootAt_eq]
      split
      · rename_i g' k' dp l hi
        rw [hi]
        cases ti.ty <;> cases dp <;> rfl
      · rename_i hn
        cases hi : H[i]? with
        | none => rfl
        | some r => cases r <;> first | rfl | exact absurd hi (hn _ _ _ _)
    | _ => rfl
@[go_sem] theorem xLoad_d {pd : D} : xLoad (some ⟨ty, sz, b, z⟩) H (.d pd) = xLoadD ty.agg ty sz pd := rfl
@[go_sem] theorem xLoad_ptr {i off : Nat} : xLoad (some ⟨ty, sz, b, z⟩) H (.ptr i off) = xLoadB (rootAt H i) ty.agg ty sz off := rfl
@[go_sem] theorem xLoad_eptr {i g k idx off : Nat} {z' : D} : xLoad (some ⟨ty, sz, b, z⟩) H (.eptr i g k idx off z') = xLoadE (rootAt H i) ty.agg ty sz g k idx off z' := rfl
@[go_sem] theorem xLoadD_true {pd : D} : xLoadD true ty sz pd = some (pd.isPtr ∧ sz ≤ pd.ptrs.length, .d (.agg (pd.ptrs.take sz))) := rfl
@[go_sem] theorem xLoadD_false {pd : D} : xLoadD false ty sz pd = some (pd.isPtr ∧ 0 < pd.ptrs.length ∧ tchk ty (pd.ptrs.getD 0 .nil), .d (tnorm ty (pd.ptrs.getD 0 .nil))) := rfl
@[go_sem] theorem xLoadB_true {cs : List I} {off : Nat} : xLoadB (some (.box cs)) true ty sz off = some (off + sz ≤ cs.length ∧ allOne ((cs.drop off).take sz), mkAgg ((cs.drop off).take sz)) := rfl
@[go_sem] theorem xLoadB_false {cs : List I} {off : Nat} : xLoadB (some (.box cs)) false ty sz off = some (off < cs.length ∧ tchkI ty (cs.getD off .junk), tnormI ty (cs.getD off .junk)) := rfl
section
variable {g k g' k' idx off : Nat} {l : List D} {z' : D} {kk : IntKind}
@[go_sem] theorem xLoadE_tf : xLoadE (some (.row g' k' false l)) true ty sz g k idx off z' = some (g = g' ∧ k = k' ∧ idx < l.length ∧ off + sz ≤ k, .d (.agg (cellsFrom (l.getD idx z') off sz))) := rfl
@[go_sem] theorem xLoadE_tt : xLoadE (some (.row g' k' true l)) true ty sz g k idx off z' = some (g = g' ∧ k = k' ∧ idx < l.length ∧ off + sz ≤ k ∧ ∀ c ∈ cellsFrom (l.getD idx z') off sz, c.scalar = true, .d (.agg (cellsFrom (l.getD idx z') off sz))) := rfl
@[go_sem] theorem xLoadE_ff : xLoadE (some (.row g' k' false l)) false ty sz g k idx off z' = some (g = g' ∧ k = k' ∧ idx < l.length ∧ off < k ∧ tchk ty ((l.getD idx z').cellAt off), .d (tnorm ty ((l.getD idx z').cellAt off))) := rfl
@[go_sem] theorem xLoadE_int : xLoadE (some (.row g' k' true l)) false (.int kk) sz g k idx off z' = some (g = g' ∧ k = k' ∧ idx < l.length ∧ off < k ∧ ((l.getD idx z').cellAt off).isInt kk, .d (.int kk ((l.getD idx z').cellAt off).toInt)) := rfl
@[go_sem] theorem xLoadE_bool : xLoadE (some (.row g' k' true l)) false .bool sz g k idx off z' = some (g = g' ∧ k = k' ∧ idx < l.length ∧ off < k ∧ ((l.getD idx z').cellAt off).isBool, .d (.bool ((l.getD idx z').cellAt off).toBool)) := rfl
end

/-! ### addresses -/
def xFA4 (off : Nat) (fsz : Nat) (H : List R) : I → Option (Prop × I)
  | .d pd => some (0 < fsz ∧ pd.isPtr, .d (.ptr (pd.ptrs.drop off)))
  | .ptr i o => match rootAt H i with
    | some (.box _) => some (0 < fsz, .ptr i (o + off))
    | _ => none
  | .eptr i g k idx o z => match rootAt H i with
    | some (.row g' k' _ _) => some (0 < fsz ∧ g = g' ∧ k = k', .eptr i g k idx (o + off) z)
    | _ => none
  | _ => none
def xFA3 (off : Nat) (H : List R) (x : I) : Option TI → Option (Prop × I)
  | some fi => xFA4 off fi.size H x
  | none => none
def xFA2 (T : Nat → Option TI) (H : List R) (x : I) : Option (Nat × Nat) → Option (Prop × I)
  | some (off, ft) => xFA3 off H x (T ft)
  | none => none
def nthF : List (Nat × Nat) → Nat → Option (Nat × Nat)
  | [], _ => none
  | p :: _, 0 => some p
  | _ :: r, n + 1 => nthF r n
theorem nthF_eq : ∀ (l : List (Nat × Nat)) (i : Nat), l[i]? = nthF l i
  | [], i => by simp [nthF]
  | r :: l, 0 => by simp [nthF]
  | r :: l, i + 1 => by simpa [nthF] using nthF_eq l i
def xFA1 (T : Nat → Option TI) (H : List R) (x : I) (f : Nat) : Option TI → Option (Prop × I)
  | some ⟨.struct fs, _, _, _⟩ => xFA2 T H x (nthF fs f)
  | _ => none
@[go_sem] theorem sFieldAddr_eq {s f : Nat} {x : I} : sFieldAddr T H s x f = xFA1 T H x f (T s) := by
  unfold sFieldAddr
  cases T s with
  | none => rfl
  | some ti =>
    obtain ⟨ty, sz, b, z⟩ := ti
    cases ty with
    | struct fs =>
      simp only [xFA1, ← nthF_eq]
      cases fs[f]? with
      | none => rfl
      | some p =>
        obtain ⟨off, ft⟩ := p
        simp only [xFA2]
        cases T ft with
        | none => rfl
        | some fi =>
          simp only [xFA3]
          cases x <;> simp only [xFA4, rootAt_eq] <;> (first | rfl | (split <;> first | rfl | (simp_all; done) | skip))
          all_goals (rename_i hi; rw [hi])
    | _ => rfl
@[go_sem] theorem nthF_zero {p : Nat × Nat} {r : List (Nat × Nat)} : nthF (p :: r) 0 = some p := rfl
@[go_sem] theorem nthF_succ {p : Nat × Nat} {r : List (Nat × Nat)} {n : Nat} : nthF (p :: r) (n + 1) = nthF r n := rfl
@[go_sem] theorem xFA1_s {f : Nat} {x : I} {fs : List (Nat × Nat)} : xFA1 T H x f (some ⟨.struct fs, sz, b, z⟩) = xFA2 T H x (nthF fs f) := rfl
@[go_sem] theorem xFA2_s {x : I} {off ft : Nat} : xFA2 T H x (some (off, ft)) = xFA3 off H x (T ft) := rfl
@[go_sem] theorem xFA3_s {x : I} {off : Nat} : xFA3 off H x (some ⟨ty, sz, b, z⟩) = xFA4 off sz H x := rfl
@[go_sem] theorem xFA4_d {off : Nat} {pd : D} : xFA4 off sz H (.d pd) = some (0 < sz ∧ pd.isPtr, .d (.ptr (pd.ptrs.drop off))) := rfl
def isBoxR : Option R → Bool
  | some (.box _) => true
  | _ => false
@[go_sem] theorem isBoxR_box {cs : List I} : isBoxR (some (.box cs)) = true := rfl
@[go_sem] theorem xFA4_ptr {off i o : Nat} : xFA4 off sz H (.ptr i o) = if isBoxR (rootAt H i) = true then some (0 < sz, .ptr i (o + off)) else none := by
  simp only [xFA4]
  cases rootAt H i with
  | none => rfl
  | some r => cases r <;> rfl
def rowR : Option R → Option (Nat × Nat)
  | some (.row g k _ _) => some (g, k)
  | _ => none
def xFA5 (off fsz : Nat) (i g k idx o : Nat) (z : D) : Option (Nat × Nat) → Option (Prop × I)
  | some (g', k') => some (0 < fsz ∧ g = g' ∧ k = k', .eptr i g k idx (o + off) z)
  | none => none
@[go_sem] theorem rowR_row {g k : Nat} {dp : Bool} {l : List D} : rowR (some (.row g k dp l)) = some (g, k) := rfl
@[go_sem] theorem xFA4_eptr {off i g k idx o : Nat} {z' : D} : xFA4 off sz H (.eptr i g k idx o z') = xFA5 off sz i g k idx o z' (rowR (rootAt H i)) := by
  simp only [xFA4]
  cases rootAt H i with
  | none => rfl
  | some r => cases r <;> rfl
@[go_sem] theorem xFA5_some {off i g k idx o g' k' : Nat} {z' : D} : xFA5 off sz i g k idx o z' (some (g', k')) = some (0 < sz ∧ g = g' ∧ k = k', .eptr i g k idx (o + off) z') := rfl

def xIA4 (esz : Nat) (ez : D) (H : List R) (iv : D) : I → Option (Prop × I)
  | .d xd => some (xd.isLst esz ∧ iv.isInt .i64 ∧ 0 ≤ iv.toInt ∧ iv.toInt < xd.elems.length, .d (.ptr (cellsFrom (xd.elems.getD iv.toInt.toNat ez) 0 esz)))
  | .sl i g k lo n => match rowR (rootAt H i) with
    | some (g', k') => some (g = g' ∧ k = k' ∧ k = esz ∧ iv.isInt .i64 ∧ 0 ≤ iv.toInt ∧ iv.toInt < n, .eptr i g k (lo + iv.toInt.toNat) 0 ez)
    | none => none
  | _ => none
def xIA5 (esz n : Nat) (H : List R) (iv : D) : I → Option (Prop × I)
  | .d xd => some (xd.isPtr ∧ iv.isInt .i64 ∧ 0 ≤ iv.toInt ∧ iv.toInt < n, .d (.ptr (xd.ptrs.drop (iv.toInt.toNat * esz))))
  | .ptr i off => if isBoxR (rootAt H i) = true then some (iv.isInt .i64 ∧ 0 ≤ iv.toInt ∧ iv.toInt < n, .ptr i (off + iv.toInt.toNat * esz)) else none
  | .eptr i g k idx o z => match rowR (rootAt H i) with
    | some (g', k') => some (g = g' ∧ k = k' ∧ iv.isInt .i64 ∧ 0 ≤ iv.toInt ∧ iv.toInt < n, .eptr i g k idx (o + iv.toInt.toNat * esz) z)
    | none => none
  | _ => none
def xIA2 (H : List R) (iv : D) (x : I) : Option TI → Option (Prop × I)
  | some ⟨_, sz, _, z⟩ => xIA4 sz z H iv x
  | none => none
def xIA3 (n : Nat) (H : List R) (iv : D) (x : I) : Option TI → Option (Prop × I)
  | some ⟨_, sz, _, z⟩ => xIA5 sz n H iv x
  | none => none
def xIA1 (T : Nat → Option TI) (H : List R) (x : I) : Option TI → I → Option (Prop × I)
  | some ⟨.slice e, _, _, _⟩, .d iv => xIA2 H iv x (T e)
  | some ⟨.array n e, _, _, _⟩, .d iv => xIA3 n H iv x (T e)
  | _, _ => none
@[go_sem] theorem sIndexAddr_eq {t : Nat} {x ix : I} : sIndexAddr T H t x ix = xIA1 T H x (T t) ix := by
  unfold sIndexAddr
  cases T t with
  | none => cases ix <;> rfl
  | some ti =>
    obtain ⟨ty, sz, b, z⟩ := ti
    cases ix with
    | d iv =>
      cases ty with
      | slice e =>
        simp only [xIA1]
        cases T e with
        | none => rfl
        | some ei =>
          obtain ⟨ety, esz, eb, ez⟩ := ei
          simp only [xIA2]
          cases x <;> simp only [xIA4, ← rootAt_eq]
          rename_i i g k lo n
          cases H[i]? with
          | none => rfl
          | some r => cases r <;> rfl
      | array n e =>
        simp only [xIA1]
        cases T e with
        | none => rfl
        | some ei =>
          obtain ⟨ety, esz, eb, ez⟩ := ei
          simp only [xIA3]
          cases x <;> simp only [xIA5, ← rootAt_eq]
          · rename_i i off
            cases H[i]? with
            | none => rfl
            | some r => cases r <;> rfl
          · rename_i i g k idx o z'
            cases H[i]? with
            | none => rfl
            | some r => cases r <;> rfl
      | _ => rfl
    | _ => cases ty <;> rfl
@[go_sem] theorem xIA1_slice {x : I} {e : Nat} {iv : D} : xIA1 T H x (some ⟨.slice e, sz, b, z⟩) (.d iv) = xIA2 H iv x (T e) := rfl
@[go_sem] theorem xIA1_array {x : I} {n e : Nat} {iv : D} : xIA1 T H x (some ⟨.array n e, sz, b, z⟩) (.d iv) = xIA3 n H iv x (T e) := rfl
@[go_sem] theorem xIA2_s {x : I} {iv : D} : xIA2 H iv x (some ⟨ty, sz, b, z⟩) = xIA4 sz z H iv x := rfl
@[go_sem] theorem xIA3_s {x : I} {n : Nat} {iv : D} : xIA3 n H iv x (some ⟨ty, sz, b, z⟩) = xIA5 sz n H iv x := rfl
@[go_sem] theorem xIA4_d {xd iv : D} : xIA4 sz z H iv (.d xd) = some (xd.isLst sz ∧ iv.isInt .i64 ∧ 0 ≤ iv.toInt ∧ iv.toInt < xd.elems.length, .d (.ptr (cellsFrom (xd.elems.getD iv.toInt.toNat z) 0 sz))) := rfl
def xIA6 (esz : Nat) (ez : D) (iv : D) (i g k lo n : Nat) : Option (Nat × Nat) → Option (Prop × I)
  | some (g', k') => some (g = g' ∧ k = k' ∧ k = esz ∧ iv.isInt .i64 ∧ 0 ≤ iv.toInt ∧ iv.toInt < n, .eptr i g k (lo + iv.toInt.toNat) 0 ez)
  | none => none
@[go_sem] theorem xIA4_sl {iv : D} {i g k lo n : Nat} : xIA4 sz z H iv (.sl i g k lo n) = xIA6 sz z iv i g k lo n (rowR (rootAt H i)) := by
  simp only [xIA4]; cases rowR (rootAt H i) <;> rfl
@[go_sem] theorem xIA6_some {iv : D} {i g k lo n g' k' : Nat} : xIA6 sz z iv i g k lo n (some (g', k')) = some (g = g' ∧ k = k' ∧ k = sz ∧ iv.isInt .i64 ∧ 0 ≤ iv.toInt ∧ iv.toInt < n, .eptr i g k (lo + iv.toInt.toNat) 0 z) := rfl
@[go_sem] theorem xIA5_d {xd iv : D} {n : Nat} : xIA5 sz n H iv (.d xd) = some (xd.isPtr ∧ iv.isInt .i64 ∧ 0 ≤ iv.toInt ∧ iv.toInt < n, .d (.ptr (xd.ptrs.drop (iv.toInt.toNat * sz)))) := rfl
@[go_sem] theorem xIA5_ptr {iv : D} {n i off : Nat} : xIA5 sz n H iv (.ptr i off) = if isBoxR (rootAt H i) = true then some (iv.isInt .i64 ∧ 0 ≤ iv.toInt ∧ iv.toInt < n, .ptr i (off + iv.toInt.toNat * sz)) else none := rfl
def xIA7 (esz n : Nat) (iv : D) (i g k idx o : Nat) (z : D) : Option (Nat × Nat) → Option (Prop × I)
  | some (g', k') => some (g = g' ∧ k = k' ∧ iv.isInt .i64 ∧ 0 ≤ iv.toInt ∧ iv.toInt < n, .eptr i g k idx (o + iv.toInt.toNat * esz) z)
  | none => none
@[go_sem] theorem xIA5_eptr {iv : D} {n i g k idx o : Nat} {z' : D} : xIA5 sz n H iv (.eptr i g k idx o z') = xIA7 sz n iv i g k idx o z' (rowR (rootAt H i)) := by
  simp only [xIA5]; cases rowR (rootAt H i) <;> rfl
@[go_sem] theorem xIA7_some {iv : D} {n i g k idx o g' k' : Nat} {z' : D} : xIA7 sz n iv i g k idx o z' (some (g', k')) = some (g = g' ∧ k = k' ∧ iv.isInt .i64 ∧ 0 ≤ iv.toInt ∧ iv.toInt < n, .eptr i g k idx (o + iv.toInt.toNat * sz) z') := rfl

/-! ### parts -/
def xPart (agg : Bool) (ty : Ty) (sz off : Nat) : I → Option (Prop × I)
  | .d xd => match agg with
    | true => some (off + sz ≤ xd.cells.length ∧ xd.one = false ∧ (∀ n, xd ≠ .tup n), .d (.agg (cellsFrom xd off sz)))
    | false => some (off < xd.cells.length ∧ xd.one = false ∧ (∀ n, xd ≠ .tup n) ∧ tchk ty (xd.cellAt off), .d (tnorm ty (xd.cellAt off)))
  | .agg cs => match agg with
    | true => some (off + sz ≤ cs.length ∧ allOne ((cs.drop off).take sz), mkAgg ((cs.drop off).take sz))
    | false => some (off < cs.length ∧ tchkI ty (cs.getD off .junk), tnormI ty (cs.getD off .junk))
  | _ => none
def xF3 (off : Nat) (x : I) : Option TI → Option (Prop × I)
  | some fi => xPart fi.ty.agg fi.ty fi.size off x
  | none => none
def xF2 (T : Nat → Option TI) (x : I) : Option (Nat × Nat) → Option (Prop × I)
  | some (off, ft) => xF3 off x (T ft)
  | none => none
def xF1 (T : Nat → Option TI) (x : I) (f : Nat) : Option TI → Option (Prop × I)
  | some ⟨.struct fs, _, _, _⟩ => xF2 T x (nthF fs f)
  | _ => none
theorem sPart_eq {ti : TI} {off : Nat} {x : I} : sPart ti off x = xPart ti.ty.agg ti.ty ti.size off x := by
  unfold sPart
  cases x <;> simp only [xPart] <;> cases ti.ty.agg <;> rfl
@[go_sem] theorem sField_eq {s f : Nat} {x : I} : sField T s x f = xF1 T x f (T s) := by
  unfold sField
  cases T s with
  | none => rfl
  | some ti =>
    obtain ⟨ty, sz, b, z⟩ := ti
    cases ty with
    | struct fs =>
      simp only [xF1, ← nthF_eq]
      cases fs[f]? with
      | none => rfl
      | some p =>
        obtain ⟨off, ft⟩ := p
        simp only [xF2]
        cases T ft with
        | none => rfl
        | some fi => simp only [xF3]; exact sPart_eq
    | _ => rfl
@[go_sem] theorem xF1_s {f : Nat} {x : I} {fs : List (Nat × Nat)} : xF1 T x f (some ⟨.struct fs, sz, b, z⟩) = xF2 T x (nthF fs f) := rfl
@[go_sem] theorem xF2_s {x : I} {off ft : Nat} : xF2 T x (some (off, ft)) = xF3 off x (T ft) := rfl
@[go_sem] theorem xF3_s {x : I} {off : Nat} : xF3 off x (some ⟨ty, sz, b, z⟩) = xPart ty.agg ty sz off x := rfl
@[go_sem] theorem xPart_dt {off : Nat} {xd : D} : xPart true ty sz off (.d xd) = some (off + sz ≤ xd.cells.length ∧ xd.one = false ∧ (∀ n, xd ≠ .tup n), .d (.agg (cellsFrom xd off sz))) := rfl
@[go_sem] theorem xPart_df {off : Nat} {xd : D} : xPart false ty sz off (.d xd) = some (off < xd.cells.length ∧ xd.one = false ∧ (∀ n, xd ≠ .tup n) ∧ tchk ty (xd.cellAt off), .d (tnorm ty (xd.cellAt off))) := rfl
@[go_sem] theorem xPart_at {off : Nat} {cs : List I} : xPart true ty sz off (.agg cs) = some (off + sz ≤ cs.length ∧ allOne ((cs.drop off).take sz), mkAgg ((cs.drop off).take sz)) := rfl
@[go_sem] theorem xPart_af {off : Nat} {cs : List I} : xPart false ty sz off (.agg cs) = some (off < cs.length ∧ tchkI ty (cs.getD off .junk), tnormI ty (cs.getD off .junk)) := rfl
def xIx2 (n : Nat) (iv : D) (x : I) : Option TI → Option (Prop × I)
  | some ei => match xPart ei.ty.agg ei.ty ei.size (iv.toInt.toNat * ei.size) x with
    | some (vc, y) => some (iv.isInt .i64 ∧ 0 ≤ iv.toInt ∧ iv.toInt < n ∧ vc, y)
    | none => none
  | none => none
def xIx1 (T : Nat → Option TI) (x : I) : Option TI → I → Option (Prop × I)
  | some ⟨.array n e, _, _, _⟩, .d iv => xIx2 n iv x (T e)
  | _, _ => none
@[go_sem] theorem sIndex_eq {t : Nat} {x ix : I} : sIndex T t x ix = xIx1 T x (T t) ix := by
  unfold sIndex
  cases T t with
  | none => cases ix <;> rfl
  | some ti =>
    obtain ⟨ty, sz, b, z⟩ := ti
    cases ix with
    | d iv =>
      cases ty with
      | array n e =>
        simp only [xIx1]
        cases T e with
        | none => rfl
        | some ei => simp only [xIx2, sPart_eq]; rfl
      | _ => rfl
    | _ => cases ty <;> rfl
@[go_sem] theorem xIx1_a {x : I} {n e : Nat} {iv : D} : xIx1 T x (some ⟨.array n e, sz, b, z⟩) (.d iv) = xIx2 n iv x (T e) := rfl
def andX (iv : D) (n : Nat) : Option (Prop × I) → Option (Prop × I)
  | some (vc, y) => some (iv.isInt .i64 ∧ 0 ≤ iv.toInt ∧ iv.toInt < n ∧ vc, y)
  | none => none
@[go_sem] theorem andX_some {iv : D} {n : Nat} {vc : Prop} {y : I} : andX iv n (some (vc, y)) = some (iv.isInt .i64 ∧ 0 ≤ iv.toInt ∧ iv.toInt < n ∧ vc, y) := rfl
@[go_sem] theorem xIx2_s {x : I} {n : Nat} {iv : D} : xIx2 n iv x (some ⟨ty, sz, b, z⟩) = andX iv n (xPart ty.agg ty sz (iv.toInt.toNat * sz) x) := by
  simp only [xIx2]; cases xPart ty.agg ty sz (iv.toInt.toNat * sz) x <;> rfl

/-! ### slices -/
def xOptI : Option I → Int → Option Int
  | none, d => some d
  | some (.d x), _ => some x.toInt
  | _, _ => none
@[go_sem] theorem optI_none {d : Int} : optI none d = some d := rfl
@[go_sem] theorem optI_some {x : D} {d : Int} : optI (some (.d x)) d = some x.toInt := rfl
@[go_sem] theorem optC_none : optC none = True := rfl
@[go_sem] theorem optC_some {x : D} : optC (some (.d x)) = x.isInt .i64 := rfl
def xSl4 (esz : Nat) (xd : D) (c : Prop) : Option Int → Option Int → Option (Prop × I)
  | some l, some h => some (xd.isLst esz ∧ c ∧ 0 < esz ∧ 0 ≤ l ∧ l ≤ h ∧ h ≤ xd.elems.length, .d (.lst esz ((xd.elems.drop l.toNat).take (h - l).toNat)))
  | _, _ => none
def xSl5 (esz : Nat) (i g k l0 n : Nat) (c : Prop) : Option (Nat × Nat) → Option Int → Option Int → Option (Prop × I)
  | some (g', k'), some l, some h => some (g = g' ∧ k = k' ∧ k = esz ∧ c ∧ 0 ≤ l ∧ l ≤ h ∧ h ≤ n, .sl i g k (l0 + l.toNat) (h - l).toNat)
  | _, _, _ => none
def xSl3 (esz : Nat) (H : List R) (lo hi : Option I) : I → Option (Prop × I)
  | .d xd => xSl4 esz xd (optC lo ∧ optC hi) (optI lo 0) (optI hi xd.elems.length)
  | .sl i g k l0 n => xSl5 esz i g k l0 n (optC lo ∧ optC hi) (rowR (rootAt H i)) (optI lo 0) (optI hi n)
  | _ => none
def xSl2 (H : List R) (lo hi : Option I) (x : I) : Option TI → Option (Prop × I)
  | some ei => xSl3 ei.size H lo hi x
  | none => none
def xSl1 (T : Nat → Option TI) (H : List R) (lo hi : Option I) (x : I) : Option TI → Option I → Option (Prop × I)
  | some ⟨.slice e, _, _, _⟩, none => xSl2 H lo hi x (T e)
  | _, _ => none
theorem and_assoc4 {a b c d : Prop} : (a ∧ b ∧ c ∧ d) = (a ∧ (b ∧ c) ∧ d) := by simp only [and_assoc]
@[go_sem] theorem sSlice_eq {t : Nat} {x : I} {lo hi mx : Option I} : sSlice T H t x lo hi mx = xSl1 T H lo hi x (T t) mx := by
  unfold sSlice
  cases T t with
  | none => cases mx <;> rfl
  | some ti =>
    obtain ⟨ty, sz, b, z⟩ := ti
    cases mx with
    | some m => cases ty <;> rfl
    | none =>
      cases ty with
      | slice e =>
        simp only [xSl1]
        cases T e with
        | none => rfl
        | some ei =>
          simp only [xSl2]
          cases x <;> simp only [xSl3, ← rootAt_eq]
          · rename_i xd
            cases optI lo 0 <;> cases optI hi xd.elems.length <;> simp only [xSl4, and_assoc]
          · rename_i i g k l0 n
            cases H[i]? with
            | none => cases optI lo 0 <;> cases optI hi n <;> rfl
            | some r =>
              cases r <;> cases optI lo 0 <;> cases optI hi n <;> simp only [rowR, xSl5, and_assoc]
      | _ => rfl
@[go_sem] theorem xSl1_s {x : I} {lo hi : Option I} {e : Nat} : xSl1 T H lo hi x (some ⟨.slice e, sz, b, z⟩) none = xSl2 H lo hi x (T e) := rfl
@[go_sem] theorem xSl2_s {x : I} {lo hi : Option I} : xSl2 H lo hi x (some ⟨ty, sz, b, z⟩) = xSl3 sz H lo hi x := rfl
@[go_sem] theorem xSl3_d {xd : D} {lo hi : Option I} : xSl3 sz H lo hi (.d xd) = xSl4 sz xd (optC lo ∧ optC hi) (optI lo 0) (optI hi xd.elems.length) := rfl
@[go_sem] theorem xSl3_sl {i g k l0 n : Nat} {lo hi : Option I} : xSl3 sz H lo hi (.sl i g k l0 n) = xSl5 sz i g k l0 n (optC lo ∧ optC hi) (rowR (rootAt H i)) (optI lo 0) (optI hi n) := rfl
@[go_sem] theorem xSl4_s {xd : D} {c : Prop} {l h : Int} : xSl4 sz xd c (some l) (some h) = some (xd.isLst sz ∧ c ∧ 0 < sz ∧ 0 ≤ l ∧ l ≤ h ∧ h ≤ xd.elems.length, .d (.lst sz ((xd.elems.drop l.toNat).take (h - l).toNat))) := rfl
@[go_sem] theorem xSl5_s {i g k l0 n g' k' : Nat} {c : Prop} {l h : Int} : xSl5 sz i g k l0 n c (some (g', k')) (some l) (some h) = some (g = g' ∧ k = k' ∧ k = sz ∧ c ∧ 0 ≤ l ∧ l ≤ h ∧ h ≤ n, .sl i g k (l0 + l.toNat) (h - l).toNat) := rfl

/-! ### arithmetic -/
def eqB (x y : Int) : Bool := decide (x = y)
def ltB (x y : Int) : Bool := decide (x < y)
def leB (x y : Int) : Bool := decide (x ≤ y)
@[go_sem] theorem eqB_eq {x y : Int} : eqB x y = decide (x = y) := rfl
@[go_sem] theorem ltB_eq {x y : Int} : ltB x y = decide (x < y) := rfl
@[go_sem] theorem leB_eq {x y : Int} : leB x y = decide (x ≤ y) := rfl
def pickB (c x y : Bool) : Bool := if c = true then x else y
@[go_sem] theorem pickB_l {c y : Bool} : pickB c true y = (c || y) := by cases c <;> rfl
@[go_sem] theorem pickB_r {c x : Bool} : pickB c x false = (c && x) := by cases c <;> rfl
def minI (x y : Int) : Int := if y < x then y else x
def maxI (x y : Int) : Int := if x < y then y else x
@[go_sem] theorem minI_eq {x y : Int} : minI x y = min x y := by unfold minI; omega
@[go_sem] theorem maxI_eq {x y : Int} : maxI x y = max x y := by unfold maxI; omega
def xBI (op : BinOp) (k : IntKind) (x y : D) : Option (Prop × I) :=
  match op with
  | .add => some (x.isInt k ∧ y.isInt k ∧ InK k (x.toInt + y.toInt), .d (.int k (x.toInt + y.toInt)))
  | .sub => some (x.isInt k ∧ y.isInt k ∧ InK k (x.toInt - y.toInt), .d (.int k (x.toInt - y.toInt)))
  | .mul => some (x.isInt k ∧ y.isInt k ∧ InK k (x.toInt * y.toInt), .d (.int k (x.toInt * y.toInt)))
  | .quo => some (x.isInt k ∧ y.isInt k ∧ 0 ≤ x.toInt ∧ 0 < y.toInt, .d (.int k (x.toInt / y.toInt)))
  | .rem => some (x.isInt k ∧ y.isInt k ∧ 0 < y.toInt, .d (.int k (remV x.toInt y.toInt)))
  | .and => some (x.isInt k ∧ y.isInt k ∧ 0 ≤ x.toInt ∧ 0 ≤ y.toInt, .d (.int k ((x.toInt.toNat &&& y.toInt.toNat : Nat) : Int)))
  | .or => some (x.isInt k ∧ y.isInt k ∧ 0 ≤ x.toInt ∧ 0 ≤ y.toInt, .d (.int k ((x.toInt.toNat ||| y.toInt.toNat : Nat) : Int)))
  | .xor => some (x.isInt k ∧ y.isInt k ∧ 0 ≤ x.toInt ∧ 0 ≤ y.toInt, .d (.int k ((x.toInt.toNat ^^^ y.toInt.toNat : Nat) : Int)))
  | .shl => some (x.isInt k ∧ y.isInt .i64 ∧ 0 ≤ y.toInt ∧ y.toInt ≤ k.bits ∧ InK k (x.toInt * 2 ^ y.toInt.toNat), .d (.int k (x.toInt * 2 ^ y.toInt.toNat)))
  | .shr => some (x.isInt k ∧ y.isInt .i64 ∧ 0 ≤ y.toInt ∧ y.toInt ≤ k.bits, .d (.int k (x.toInt / 2 ^ y.toInt.toNat)))
  | .eql => some (x.isInt k ∧ y.isInt k, .d (.bool (eqB x.toInt y.toInt)))
  | .neq => some (x.isInt k ∧ y.isInt k, .d (.bool (!eqB x.toInt y.toInt)))
  | .lss => some (x.isInt k ∧ y.isInt k, .d (.bool (ltB x.toInt y.toInt)))
  | .leq => some (x.isInt k ∧ y.isInt k, .d (.bool (leB x.toInt y.toInt)))
  | .gtr => some (x.isInt k ∧ y.isInt k, .d (.bool (ltB y.toInt x.toInt)))
  | .geq => some (x.isInt k ∧ y.isInt k, .d (.bool (leB y.toInt x.toInt)))
  | _ => none
def xBB (op : BinOp) (x y : D) : Option (Prop × I) :=
  match op with
  | .eql => some (x.isBool ∧ y.isBool, .d (.bool (x.toBool == y.toBool)))
  | .neq => some (x.isBool ∧ y.isBool, .d (.bool (!(x.toBool == y.toBool))))
  | _ => none
def xBS (op : BinOp) (x : D) : Option (Prop × I) :=
  match op with
  | .eql => some (x.isSl ∧ (x = .nil ∨ x.elems ≠ []), .d (.bool x.isNil))
  | .neq => some (x.isSl ∧ (x = .nil ∨ x.elems ≠ []), .d (.bool (!x.isNil)))
  | _ => none
def xBL (op : BinOp) (g k n : Nat) : Option (Nat × Nat) → Option (Prop × I)
  | some (g', k') => match op with
    | .eql => some (g = g' ∧ k = k' ∧ 0 < n, .d (.bool false))
    | .neq => some (g = g' ∧ k = k' ∧ 0 < n, .d (.bool true))
    | _ => none
  | none => none
def xBA (T : Nat → Option TI) (fs : List (Nat × Nat)) (cs ds : List D) : BinOp → Option (Prop × I)
  | .eql => some (cs.length = fs.length ∧ ds.length = fs.length ∧ allI64 T 0 fs ∧ intCells cs ∧ intCells ds, .d (.bool (eqInts cs ds)))
  | .neq => some (cs.length = fs.length ∧ ds.length = fs.length ∧ allI64 T 0 fs ∧ intCells cs ∧ intCells ds, .d (.bool (!(eqInts cs ds))))
  | _ => none
def xBin (T : Nat → Option TI) (H : List R) (op : BinOp) (x y : I) : Option TI → Option (Prop × I)
  | some ⟨.int k, _, _, _⟩ => match x, y with
    | .d x, .d y => xBI op k x y
    | _, _ => none
  | some ⟨.bool, _, _, _⟩ => match x, y with
    | .d x, .d y => xBB op x y
    | _, _ => none
  | some ⟨.slice _, _, _, _⟩ => match x, y with
    | .d x, .d .nil => xBS op x
    | .sl i g k lo n, .d .nil => xBL op g k n (rowR (rootAt H i))
    | _, _ => none
  | some ⟨.struct fs, _, _, _⟩ => match x, y with
    | .d (.agg cs), .d (.agg ds) => xBA T fs cs ds op
    | _, _ => none
  | _ => none
@[go_sem] theorem sBin_eq {op : BinOp} {t : Nat} {x y : I} : sBin T H op t x y = xBin T H op x y (T t) := by
  unfold sBin
  cases T t with
  | none => rfl
  | some ti =>
    obtain ⟨ty, sz, b, z⟩ := ti
    cases ty with
    | int k => cases x <;> cases y <;> rfl
    | bool => cases x <;> cases y <;> rfl
    | slice e =>
      cases x <;> cases y <;> first
        | rfl
        | (rename_i yd; cases yd <;> first | rfl | skip)
      rename_i i g k lo n
      simp only [xBin, ← rootAt_eq]
      cases H[i]? with
      | none => rfl
      | some r => cases r <;> rfl
    | struct fs =>
      cases x with
      | d xd =>
        cases y with
        | d yd => cases xd <;> cases yd <;> first | rfl | (cases op <;> rfl)
        | _ => cases xd <;> rfl
      | _ => cases y <;> first | rfl | (rename_i yd; cases yd <;> rfl)
    | _ => rfl
@[go_sem] theorem xBin_struct {op : BinOp} {fs : List (Nat × Nat)} {cs ds : List D} : xBin T H op (.d (.agg cs)) (.d (.agg ds)) (some ⟨.struct fs, sz, b, z⟩) = xBA T fs cs ds op := rfl
@[go_sem] theorem xBA_eql {fs : List (Nat × Nat)} {cs ds : List D} : xBA T fs cs ds .eql = some (cs.length = fs.length ∧ ds.length = fs.length ∧ allI64 T 0 fs ∧ intCells cs ∧ intCells ds, .d (.bool (eqInts cs ds))) := rfl
@[go_sem] theorem xBA_neq {fs : List (Nat × Nat)} {cs ds : List D} : xBA T fs cs ds .neq = some (cs.length = fs.length ∧ ds.length = fs.length ∧ allI64 T 0 fs ∧ intCells cs ∧ intCells ds, .d (.bool (!(eqInts cs ds)))) := rfl
@[go_sem] theorem allI64_nil {j : Nat} : allI64 T j [] = True := rfl
@[go_sem] theorem allI64_cons {j o t : Nat} {r : List (Nat × Nat)} : allI64 T j ((o, t) :: r) = (o = j ∧ isI64 (T t) = true ∧ allI64 T (j + 1) r) := rfl
@[go_sem] theorem isI64_s {a c : Nat} {zz : D} : isI64 (some ⟨.int .i64, a, c, zz⟩) = true := rfl
@[go_sem] theorem intCells_nil : intCells [] = True := rfl
@[go_sem] theorem intCells_cons {x : D} {r : List D} : intCells (x :: r) = (x.isInt .i64 ∧ intCells r) := rfl
@[go_sem] theorem eqInts_nil : eqInts [] [] = true := rfl
@[go_sem] theorem eqInts_cons {x y : D} {r s : List D} : eqInts (x :: r) (y :: s) = (decide (x.toInt = y.toInt) && eqInts r s) := rfl
@[go_sem] theorem xBin_int {op : BinOp} {k : IntKind} {x y : D} : xBin T H op (.d x) (.d y) (some ⟨.int k, sz, b, z⟩) = xBI op k x y := rfl
@[go_sem] theorem xBin_bool {op : BinOp} {x y : D} : xBin T H op (.d x) (.d y) (some ⟨.bool, sz, b, z⟩) = xBB op x y := rfl
@[go_sem] theorem xBin_slice {op : BinOp} {e : Nat} {x : D} : xBin T H op (.d x) (.d .nil) (some ⟨.slice e, sz, b, z⟩) = xBS op x := rfl
@[go_sem] theorem xBin_sl {op : BinOp} {e i g k lo n : Nat} : xBin T H op (.sl i g k lo n) (.d .nil) (some ⟨.slice e, sz, b, z⟩) = xBL op g k n (rowR (rootAt H i)) := rfl
section
variable {k : IntKind} {x y : D}
@[go_sem] theorem xBI_add : xBI .add k x y = some (x.isInt k ∧ y.isInt k ∧ InK k (x.toInt + y.toInt), .d (.int k (x.toInt + y.toInt))) := rfl
@[go_sem] theorem xBI_sub : xBI .sub k x y = some (x.isInt k ∧ y.isInt k ∧ InK k (x.toInt - y.toInt), .d (.int k (x.toInt - y.toInt))) := rfl
@[go_sem] theorem xBI_mul : xBI .mul k x y = some (x.isInt k ∧ y.isInt k ∧ InK k (x.toInt * y.toInt), .d (.int k (x.toInt * y.toInt))) := rfl
@[go_sem] theorem xBI_quo : xBI .quo k x y = some (x.isInt k ∧ y.isInt k ∧ 0 ≤ x.toInt ∧ 0 < y.toInt, .d (.int k (x.toInt / y.toInt))) := rfl
@[go_sem] theorem xBI_rem : xBI .rem k x y = some (x.isInt k ∧ y.isInt k ∧ 0 < y.toInt, .d (.int k (remV x.toInt y.toInt))) := rfl
@[go_sem] theorem xBI_and : xBI .and k x y = some (x.isInt k ∧ y.isInt k ∧ 0 ≤ x.toInt ∧ 0 ≤ y.toInt, .d (.int k ((x.toInt.toNat &&& y.toInt.toNat : Nat) : Int))) := rfl
@[go_sem] theorem xBI_or : xBI .or k x y = some (x.isInt k ∧ y.isInt k ∧ 0 ≤ x.toInt ∧ 0 ≤ y.toInt, .d (.int k ((x.toInt.toNat ||| y.toInt.toNat : Nat) : Int))) := rfl
@[go_sem] theorem xBI_xor : xBI .xor k x y = some (x.isInt k ∧ y.isInt k ∧ 0 ≤ x.toInt ∧ 0 ≤ y.toInt, .d (.int k ((x.toInt.toNat ^^^ y.toInt.toNat : Nat) : Int))) := rfl
@[go_sem] theorem xBI_shl : xBI .shl k x y = some (x.isInt k ∧ y.isInt .i64 ∧ 0 ≤ y.toInt ∧ y.toInt ≤ k.bits ∧ InK k (x.toInt * 2 ^ y.toInt.toNat), .d (.int k (x.toInt * 2 ^ y.toInt.toNat))) := rfl
@[go_sem] theorem xBI_shr : xBI .shr k x y = some (x.isInt k ∧ y.isInt .i64 ∧ 0 ≤ y.toInt ∧ y.toInt ≤ k.bits, .d (.int k (x.toInt / 2 ^ y.toInt.toNat))) := rfl
@[go_sem] theorem xBI_eql : xBI .eql k x y = some (x.isInt k ∧ y.isInt k, .d (.bool (eqB x.toInt y.toInt))) := rfl
@[go_sem] theorem xBI_neq : xBI .neq k x y = some (x.isInt k ∧ y.isInt k, .d (.bool (!eqB x.toInt y.toInt))) := rfl
@[go_sem] theorem xBI_lss : xBI .lss k x y = some (x.isInt k ∧ y.isInt k, .d (.bool (ltB x.toInt y.toInt))) := rfl
@[go_sem] theorem xBI_leq : xBI .leq k x y = some (x.isInt k ∧ y.isInt k, .d (.bool (leB x.toInt y.toInt))) := rfl
@[go_sem] theorem xBI_gtr : xBI .gtr k x y = some (x.isInt k ∧ y.isInt k, .d (.bool (ltB y.toInt x.toInt))) := rfl
@[go_sem] theorem xBI_geq : xBI .geq k x y = some (x.isInt k ∧ y.isInt k, .d (.bool (leB y.toInt x.toInt))) := rfl
@[go_sem] theorem xBB_eql : xBB .eql x y = some (x.isBool ∧ y.isBool, .d (.bool (x.toBool == y.toBool))) := rfl
@[go_sem] theorem xBB_neq : xBB .neq x y = some (x.isBool ∧ y.isBool, .d (.bool (!(x.toBool == y.toBool)))) := rfl
@[go_sem] theorem xBS_eql : xBS .eql x = some (x.isSl ∧ (x = .nil ∨ x.elems ≠ []), .d (.bool x.isNil)) := rfl
@[go_sem] theorem xBS_neq : xBS .neq x = some (x.isSl ∧ (x = .nil ∨ x.elems ≠ []), .d (.bool (!x.isNil))) := rfl
@[go_sem] theorem xBL_eql {g k n g' k' : Nat} : xBL .eql g k n (some (g', k')) = some (g = g' ∧ k = k' ∧ 0 < n, .d (.bool false)) := rfl
@[go_sem] theorem xBL_neq {g k n g' k' : Nat} : xBL .neq g k n (some (g', k')) = some (g = g' ∧ k = k' ∧ 0 < n, .d (.bool true)) := rfl
end
@[go_sem] theorem sUn_not {x : D} : sUn .not (.d x) = some (x.isBool, .d (.bool (!x.toBool))) := rfl
@[go_sem] theorem sUn_neg {x : D} : sUn .neg (.d x) = some (x.isInt .i64 ∧ InK .i64 (- x.toInt), .d (.int .i64 (- x.toInt))) := rfl
@[go_sem] theorem sMM_min {x y : D} : sMM .min (.d x) (.d y) = some (x.isInt .i64 ∧ y.isInt .i64, .d (.int .i64 (minI x.toInt y.toInt))) := rfl
@[go_sem] theorem sMM_max {x y : D} : sMM .max (.d x) (.d y) = some (x.isInt .i64 ∧ y.isInt .i64, .d (.int .i64 (maxI x.toInt y.toInt))) := rfl
@[go_sem] theorem sExtract_tup {vs : List I} {j : Nat} : sExtract (.tup vs) j = some (j < vs.length, vs.getD j .junk) := rfl
@[go_sem] theorem sExtract_d {x : D} {j : Nat} : sExtract (.d x) j = some (x.isTup x.tupLen ∧ j < x.tupLen, .d (x.tupAt j)) := rfl
@[go_sem] theorem sPick_d {c x y : D} {ca cb : Prop} : sPick (.d c) (.d x) (.d y) ca cb = some (c.isBool ∧ (c.toBool = true → ca ∧ x.isBool) ∧ (c.toBool = false → cb ∧ y.isBool), .d (.bool (pickB c.toBool x.toBool y.toBool))) := rfl
@[go_sem] theorem sNil_d {x : D} : sNil H (.d x) = some (x.isPtr, .d x) := rfl
@[go_sem] theorem sNil_ptr {i o : Nat} : sNil H (.ptr i o) = if isBoxR (rootAt H i) = true then some (True, .ptr i o) else none := by
  simp only [sNil, rootAt_eq]
  cases rootAt H i with
  | none => rfl
  | some r => cases r <;> rfl
def xConv (x : I) : Option TI → Option TI → Option (Prop × I)
  | some ⟨.int k, _, _, _⟩, some ⟨.int k', _, _, _⟩ => match x with
    | .d xd => some (xd.isInt k ∧ InK k' xd.toInt, .d (.int k' xd.toInt))
    | _ => none
  | _, _ => none
@[go_sem] theorem sConv_eq {s d : Nat} {x : I} : sConv T s d x = xConv x (T s) (T d) := by
  unfold sConv
  cases T s with
  | none => cases T d <;> cases x <;> rfl
  | some si =>
    obtain ⟨ty, sz, b, z⟩ := si
    cases T d with
    | none => cases ty <;> cases x <;> rfl
    | some di =>
      obtain ⟨ty', sz', b', z'⟩ := di
      cases ty <;> cases ty' <;> cases x <;> rfl
@[go_sem] theorem xConv_d {xd : D} {k k' : IntKind} {sz' b' : Nat} {z' : D} : xConv (.d xd) (some ⟨.int k, sz, b, z⟩) (some ⟨.int k', sz', b', z'⟩) = some (xd.isInt k ∧ InK k' xd.toInt, .d (.int k' xd.toInt)) := rfl
def xLenS (g k n : Nat) : Option (Nat × Nat) → Option (Prop × I)
  | some (g', k') => some (g = g' ∧ k = k', .d (.int .i64 (n : Nat)))
  | none => none
def xLen (H : List R) (x : I) : Option TI → Option (Prop × I)
  | some ⟨.slice _, _, _, _⟩ => match x with
    | .d xd => some (xd.isSl, .d (.int .i64 (xd.elems.length : Nat)))
    | .sl i g k lo n => xLenS g k n (rowR (rootAt H i))
    | _ => none
  | some ⟨.array n _, _, _, _⟩ => some (InK .i64 n, .d (.int .i64 (n : Nat)))
  | _ => none
@[go_sem] theorem sLen_eq {t : Nat} {x : I} : sLen T H t x = xLen H x (T t) := by
  unfold sLen
  cases T t with
  | none => rfl
  | some ti =>
    obtain ⟨ty, sz, b, z⟩ := ti
    cases ty with
    | slice e =>
      cases x <;> simp only [xLen, ← rootAt_eq]
      rename_i i g k lo n
      cases H[i]? with
      | none => rfl
      | some r => cases r <;> rfl
    | _ => rfl
@[go_sem] theorem xLen_d {xd : D} {e : Nat} : xLen H (.d xd) (some ⟨.slice e, sz, b, z⟩) = some (xd.isSl, .d (.int .i64 (xd.elems.length : Nat))) := rfl
@[go_sem] theorem xLen_sl {i g k lo n e : Nat} : xLen H (.sl i g k lo n) (some ⟨.slice e, sz, b, z⟩) = xLenS g k n (rowR (rootAt H i)) := rfl
@[go_sem] theorem xLen_a {x : I} {n e : Nat} : xLen H x (some ⟨.array n e, sz, b, z⟩) = some (InK .i64 n, .d (.int .i64 (n : Nat))) := rfl
@[go_sem] theorem xLenS_some {g k n g' k' : Nat} : xLenS g k n (some (g', k')) = some (g = g' ∧ k = k', .d (.int .i64 (n : Nat))) := rfl

end Go.VL

/- Part 6: the other operations that leave memory alone. Conditions: none; lemmas. -/
import Derived.Test.YtfinoodiofghkaaVL5
set_option linter.unusedVariables false
set_option linter.unusedSimpArgs false
namespace Go.VL

variable {P : Program} {S : Nat → Prop} {φ : List (List Nat)} {H : List R} {w : World} {T : Nat → Option TI}

/-! ### Addresses of fields and elements -/
def sFieldAddr (T : Nat → Option TI) (H : List R) (s : Nat) (x : I) (f : Nat) : Option (Prop × I) :=
  match T s with
  | some ti =>
    match ti.ty with
    | .struct fs =>
      match fs[f]? with
      | some (off, ft) =>
        match T ft with
        | some fi =>
          match x with
          | .d pd => some (0 < fi.size ∧ pd.isPtr, .d (.ptr (pd.ptrs.drop off)))
          | .ptr i o =>
            match H[i]? with
            | some (.box _) => some (0 < fi.size, .ptr i (o + off))
            | _ => none
          | .eptr i g k idx o z =>
            match H[i]? with
            | some (.row g' k' _ _) => some (0 < fi.size ∧ g = g' ∧ k = k', .eptr i g k idx (o + off) z)
            | _ => none
          | _ => none
        | none => none
      | none => none
    | _ => none
  | none => none

theorem run_fieldAt {s ft : Nat} {ti fi : TI} (ht : TIOK P s ti) (hf : TIOK P ft fi) {fs : List (Nat × Nat)} (hy : ti.ty = .struct fs) {f off : Nat} (hfs : fs[f]? = some (off, ft)) (h0 : 0 < fi.size)
    (a : Addr) (w : World) : (Instr.fieldAt s (.pointer (some a)) f).run P w = .ok (.pointer (some (a.add off))) w := by
  obtain ⟨fields, hu, rfl⟩ := ht.und_struct hy
  simp only [List.getElem?_map, Option.map_eq_some_iff] at hfs
  obtain ⟨fd, hfd, he⟩ := hfs
  simp only [Prod.mk.injEq] at he
  obtain ⟨rfl, rfl⟩ := he
  have hfd' : fields[f]? = some fd := by simpa using hfd
  simp only [Instr.fieldAt, Sem.run_bind, run_underlying hu, Result.andThen_ok, hfd', Instr.sureAddr, Sem.run_pure, fieldPlace, hf.run_sizeOf]
  rw [if_neg (by omega)]
  simp

theorem FZ.drop {x : D} {v : Value} (h : FZ S w x v) (hx : x.isPtr) (n : Nat) : ∃ b off, v = .pointer (some ⟨b, off, none⟩) ∧ FZ S w (.ptr (x.ptrs.drop n)) (.pointer (some ⟨b, off + n, none⟩)) := by
  obtain ⟨b, off, rfl, hS, h1, f, hc, hf⟩ := h.ptr_inv hx
  refine ⟨b, off, rfl, .ptr (fun j => f (n + j)) hS (fun c hc => h1 c (List.mem_of_mem_drop hc)) ?_ ?_⟩
  · intro j hj
    rw [Nat.add_assoc]
    exact hc _ (by simp at hj; omega)
  · intro j hj
    rw [getD_drop]
    exact hf _ (by simp at hj; omega)

theorem sFieldAddr_sound (hT : TOK P T) {s f : Nat} {x : I} {vx : Value} (hx : V S φ H w x vx) {vc : Prop} {y : I} (h : sFieldAddr T H s x f = some (vc, y)) (hvc : vc) :
    ∃ v, V S φ H w y v ∧ ∀ w2, (Instr.fieldAt s vx f).run P w2 = .ok v w2 := by
  unfold sFieldAddr at h
  split at h
  · rename_i ti hti
    split at h
    · rename_i fs hy
      split at h
      · rename_i off ft hfs
        split at h
        · rename_i fi hfi
          split at h
          · simp only [Option.some.injEq, Prod.mk.injEq] at h
            obtain ⟨rfl, rfl⟩ := h
            obtain ⟨b, o, rfl, hz⟩ := hx.fz.drop hvc.2 off
            refine ⟨_, .d hz, fun w2 => ?_⟩
            rw [run_fieldAt (hT _ _ hti) (hT _ _ hfi) hy hfs hvc.1, Addr.add_lit]
          · rename_i i o
            split at h
            · rename_i cs hi
              simp only [Option.some.injEq, Prod.mk.injEq] at h
              obtain ⟨rfl, rfl⟩ := h
              cases hx with
              | ptr hlt hrel h1 =>
                obtain ⟨b, hb, rfl⟩ := hrel cs hi
                refine ⟨.pointer (some ⟨b, o + off, none⟩), .ptr hlt (fun cs' hcs => ?_) rfl, fun w2 => ?_⟩
                · obtain ⟨b', hb', he⟩ := hrel cs' hcs
                  simp at he
                  subst he
                  exact ⟨b, hb, rfl⟩
                · rw [run_fieldAt (hT _ _ hti) (hT _ _ hfi) hy hfs hvc, Addr.add_lit]
            · simp at h
          · rename_i i g k idx o z
            split at h
            · rename_i g' k' dp l hi
              simp only [Option.some.injEq, Prod.mk.injEq] at h
              obtain ⟨rfl, rfl⟩ := h
              obtain ⟨h0, rfl, rfl⟩ := hvc
              cases hx with
              | eptr hlt hg hrel h1 =>
                obtain ⟨b, rest, hb, rfl⟩ := hrel dp l hi
                refine ⟨.pointer (some ⟨b, idx * k + (o + off), none⟩), .eptr hlt hg (fun dp' l' hl' => ?_) rfl, fun w2 => ?_⟩
                · obtain ⟨b', rest', hb', he⟩ := hrel dp' l' hl'
                  simp at he
                  subst he
                  exact ⟨b, rest, hb, rfl⟩
                · rw [run_fieldAt (hT _ _ hti) (hT _ _ hfi) hy hfs h0, Addr.add_lit, Nat.add_assoc]
            · simp at h
          · simp at h
        · simp at h
      · simp at h
    · simp at h
  · simp at h

def sIndexAddr (T : Nat → Option TI) (H : List R) (t : Nat) (x ix : I) : Option (Prop × I) :=
  match T t, ix with
  | some ti, .d iv =>
    match ti.ty with
    | .slice e =>
      match T e with
      | some ei =>
        match x with
        | .d xd => some (xd.isLst ei.size ∧ iv.isInt .i64 ∧ 0 ≤ iv.toInt ∧ iv.toInt < xd.elems.length, .d (.ptr (cellsFrom (xd.elems.getD iv.toInt.toNat ei.zero) 0 ei.size)))
        | .sl i g k lo n =>
          match H[i]? with
          | some (.row g' k' _ _) => some (g = g' ∧ k = k' ∧ k = ei.size ∧ iv.isInt .i64 ∧ 0 ≤ iv.toInt ∧ iv.toInt < n, .eptr i g k (lo + iv.toInt.toNat) 0 ei.zero)
          | _ => none
        | _ => none
      | none => none
    | .array n e =>
      match T e with
      | some ei =>
        match x with
        | .d xd => some (xd.isPtr ∧ iv.isInt .i64 ∧ 0 ≤ iv.toInt ∧ iv.toInt < n, .d (.ptr (xd.ptrs.drop (iv.toInt.toNat * ei.size))))
        | .ptr i off =>
          match H[i]? with
          | some (.box _) => some (iv.isInt .i64 ∧ 0 ≤ iv.toInt ∧ iv.toInt < n, .ptr i (off + iv.toInt.toNat * ei.size))
          | _ => none
        | .eptr i g k idx o z =>
          match H[i]? with
          | some (.row g' k' _ _) => some (g = g' ∧ k = k' ∧ iv.isInt .i64 ∧ 0 ≤ iv.toInt ∧ iv.toInt < n, .eptr i g k idx (o + iv.toInt.toNat * ei.size) z)
          | _ => none
        | _ => none
      | none => none
    | _ => none
  | _, _ => none

theorem run_indexAt_s {t e : Nat} {ti ei : TI} (ht : TIOK P t ti) (he : TIOK P e ei) (hy : ti.ty = .slice e) (a : Addr) (len cap : Nat) {i : Int} (h0 : 0 ≤ i) (h1 : i < len) (w : World) :
    (Instr.indexAt t (.slice (some a) len cap) (.int .i64 i)).run P w = .ok (.pointer (some (a.add (i.toNat * ei.size)))) w := by
  simp only [Instr.indexAt, Sem.run_bind, run_underlying (ht.und_slice hy), Result.andThen_ok, asIntOf, Sem.run_pure, he.run_sizeOf, h0, h1, and_self, if_true]

theorem run_indexAt_a {t e n : Nat} {ti ei : TI} (ht : TIOK P t ti) (he : TIOK P e ei) (hy : ti.ty = .array n e) (a : Addr) {i : Int} (h0 : 0 ≤ i) (h1 : i < n) (w : World) :
    (Instr.indexAt t (.pointer (some a)) (.int .i64 i)).run P w = .ok (.pointer (some (a.add (i.toNat * ei.size)))) w := by
  simp only [Instr.indexAt, Sem.run_bind, run_underlying (ht.und_array hy), Result.andThen_ok, asIntOf, Sem.run_pure, Instr.sureAddr, he.run_sizeOf, h0, h1, and_self, if_true]

theorem sIndexAddr_sound (hT : TOK P T) {t : Nat} {x ix : I} {vx vi : Value} (hx : V S φ H w x vx) (hi : V S φ H w ix vi) {vc : Prop} {y : I} (h : sIndexAddr T H t x ix = some (vc, y)) (hvc : vc) :
    ∃ v, V S φ H w y v ∧ ∀ w2, (Instr.indexAt t vx vi).run P w2 = .ok v w2 := by
  unfold sIndexAddr at h
  split at h
  · rename_i ti iv hti
    have ht := hT _ _ hti
    split at h
    · rename_i e hy
      split at h
      · rename_i ei hei
        have he := hT _ _ hei
        split at h
        · rename_i xd
          simp only [Option.some.injEq, Prod.mk.injEq] at h
          obtain ⟨rfl, rfl⟩ := h
          obtain ⟨hl, hii, h0, h1⟩ := hvc
          obtain ⟨_, rfl, _⟩ := hi.fz.int_inv hii
          obtain ⟨b, off, cap, rfl, hz, _⟩ := hx.fz.elem hl (i := iv.toInt.toNat) (by omega) ei.zero
          exact ⟨_, .d hz, fun w2 => by rw [run_indexAt_s ht he hy _ _ _ h0 h1, Addr.add_lit]⟩
        · rename_i i g k lo n
          split at h
          · rename_i g' k' dp l hroot
            simp only [Option.some.injEq, Prod.mk.injEq] at h
            obtain ⟨rfl, rfl⟩ := h
            obtain ⟨rfl, rfl, rfl, hii, h0, h1⟩ := hvc
            obtain ⟨_, rfl, _⟩ := hi.fz.int_inv hii
            cases hx with
            | sl hlt hg hrel ho =>
              obtain ⟨hsl, hle⟩ := hrel dp l hroot
              rcases hsl with ⟨_, _, rfl, _⟩ | ⟨b, rest, cap, arr, ty, a, hfp, rfl, hn, hc, hlim, hb, hfit⟩
              · omega
              · obtain ⟨rfl, hfit'⟩ := hfit (.inl (by omega))
                refine ⟨.pointer (some ⟨b, (lo + iv.toInt.toNat) * ei.size + 0, none⟩), .eptr hlt hg (fun dp' l' hl' => ⟨b, rest, hfp, rfl⟩) rfl, fun w2 => ?_⟩
                rw [run_indexAt_s ht he hy _ _ _ h0 h1, Addr.add_lit, Nat.add_mul]
                rfl
          · simp at h
        · simp at h
      · simp at h
    · rename_i n e hy
      split at h
      · rename_i ei hei
        have he := hT _ _ hei
        split at h
        · rename_i xd
          simp only [Option.some.injEq, Prod.mk.injEq] at h
          obtain ⟨rfl, rfl⟩ := h
          obtain ⟨hl, hii, h0, h1⟩ := hvc
          obtain ⟨_, rfl, _⟩ := hi.fz.int_inv hii
          obtain ⟨b, o, rfl, hz⟩ := hx.fz.drop hl (iv.toInt.toNat * ei.size)
          exact ⟨_, .d hz, fun w2 => by rw [run_indexAt_a ht he hy _ h0 h1, Addr.add_lit]⟩
        · rename_i i off
          split at h
          · rename_i cs hroot
            simp only [Option.some.injEq, Prod.mk.injEq] at h
            obtain ⟨rfl, rfl⟩ := h
            obtain ⟨hii, h0, h1⟩ := hvc
            obtain ⟨_, rfl, _⟩ := hi.fz.int_inv hii
            cases hx with
            | ptr hlt hrel ho =>
              obtain ⟨b, hb, rfl⟩ := hrel cs hroot
              exact ⟨.pointer (some ⟨b, off + iv.toInt.toNat * ei.size, none⟩), .ptr hlt (fun cs' hcs => ⟨b, hb, rfl⟩) rfl, fun w2 => by rw [run_indexAt_a ht he hy _ h0 h1, Addr.add_lit]⟩
          · simp at h
        · rename_i i g k idx o z
          split at h
          · rename_i g' k' dp l hroot
            simp only [Option.some.injEq, Prod.mk.injEq] at h
            obtain ⟨rfl, rfl⟩ := h
            obtain ⟨rfl, rfl, hii, h0, h1⟩ := hvc
            obtain ⟨_, rfl, _⟩ := hi.fz.int_inv hii
            cases hx with
            | eptr hlt hg hrel ho =>
              obtain ⟨b, rest, hb, rfl⟩ := hrel dp l hroot
              exact ⟨.pointer (some ⟨b, idx * k + (o + iv.toInt.toNat * ei.size), none⟩), .eptr hlt hg (fun dp' l' hcs => ⟨b, rest, hb, rfl⟩) rfl, fun w2 => by
                rw [run_indexAt_a ht he hy _ h0 h1, Addr.add_lit, Nat.add_assoc]⟩
          · simp at h
        · simp at h
      · simp at h
    · simp at h
  · simp at h

/-! ### Parts of values -/
def sPart (ti : TI) (off : Nat) (x : I) : Option (Prop × I) :=
  match x with
  | .d xd =>
    match ti.ty.agg with
    | true => some (off + ti.size ≤ xd.cells.length ∧ xd.one = false ∧ (∀ n, xd ≠ .tup n), .d (.agg (cellsFrom xd off ti.size)))
    | false => some (off < xd.cells.length ∧ xd.one = false ∧ (∀ n, xd ≠ .tup n) ∧ tchk ti.ty (xd.cellAt off), .d (tnorm ti.ty (xd.cellAt off)))
  | .agg cs =>
    match ti.ty.agg with
    | true => some (off + ti.size ≤ cs.length ∧ allOne ((cs.drop off).take ti.size), mkAgg ((cs.drop off).take ti.size))
    | false => some (off < cs.length ∧ tchkI ti.ty (cs.getD off .junk), tnormI ti.ty (cs.getD off .junk))
  | _ => none

theorem V.tnormI {t : Ty} {y : I} {v : Value} (hv : V S φ H w y v) (hchk : tchkI t y) : V S φ H w (tnormI t y) v := by
  cases y <;> first
    | exact hv
    | exact .d (hv.fz.tnorm hchk)

theorem run_part_one {t : Nat} {ti : TI} (ht : TIOK P t ti) (hy : ti.ty.agg = false) {vs : Array Value} {off : Nat} (ho : off < vs.size) (w : World) :
    (part t vs off).run P w = .ok (vs.getD off undef) w := by
  simp only [part, Sem.run_bind, ht.run_isAgg, hy, Result.andThen_ok]
  simp [Array.getElem?_eq_getElem ho, Array.getD, ho]

theorem run_part_agg {t : Nat} {ti : TI} (ht : TIOK P t ti) (hy : ti.ty.agg = true) {vs : Array Value} {off : Nat} (ho : off + ti.size ≤ vs.size) (w : World) :
    (part t vs off).run P w = .ok (.agg ((List.range ti.size).map fun j => vs.getD (off + j) undef).toArray) w := by
  simp only [part, Sem.run_bind, ht.run_isAgg, hy, Result.andThen_ok, if_true, ht.run_sizeOf, Sem.run_pure]
  congr 2
  apply Array.ext
  · simp; omega
  · intro i h1 h2
    simp at h1 h2
    simp [Array.getD, show off + i < vs.size by omega]

theorem sPart_sound {t : Nat} {ti : TI} (ht : TIOK P t ti) {off : Nat} {x : I} {vx : Value} (hx : V S φ H w x vx) {vc : Prop} {y : I} (h : sPart ti off x = some (vc, y)) (hvc : vc) :
    ∃ vs, vx = .agg vs ∧ ∃ v, V S φ H w y v ∧ ∀ w2, (part t vs off).run P w2 = .ok v w2 := by
  unfold sPart at h
  split at h
  · rename_i xd
    have hz := hx.fz
    split at h
    · rename_i hagg
      simp only [Option.some.injEq, Prod.mk.injEq] at h
      obtain ⟨rfl, rfl⟩ := h
      obtain ⟨hsz, hone, htup⟩ := hvc
      cases hz <;> simp [D.one] at hone
      · rename_i cs vs hl h1 hj
        refine ⟨vs, rfl, _, .d (fz_agg_of (f := fun j => vs.getD (off + j) undef) (n := ti.size) (cellsFrom_length _ _ _) ?_ ?_), fun w2 => run_part_agg ht hagg (by simp [D.cells] at hsz; omega) w2⟩
        · intro c hc
          obtain ⟨j, hj, rfl⟩ := List.getElem_of_mem hc
          rw [cellsFrom_length] at hj
          rw [getElem_eq_getD _ _ _ .nil, cellsFrom_getD _ _ _ _ hj]
          exact h1 _ (getD_mem (by simp [D.cells] at hsz; omega))
        · intro j hj'
          rw [cellsFrom_getD _ _ _ _ hj']
          exact hj _ (by simp [D.cells] at hsz; omega)
      · exact absurd rfl (htup _)
    · rename_i hagg
      simp only [Option.some.injEq, Prod.mk.injEq] at h
      obtain ⟨rfl, rfl⟩ := h
      obtain ⟨hsz, hone, htup, hchk⟩ := hvc
      cases hz <;> simp [D.one] at hone
      · rename_i cs vs hl h1 hj
        have hsz' : off < cs.length := by simpa [D.cells] using hsz
        exact ⟨vs, rfl, _, .d ((hj off hsz').tnorm hchk), fun w2 => run_part_one ht hagg (by omega) w2⟩
      · exact absurd rfl (htup _)
  · rename_i cs
    cases hx with
    | @agg _ vs hl h1 hj =>
      split at h
      · rename_i hagg
        simp only [Option.some.injEq, Prod.mk.injEq] at h
        obtain ⟨rfl, rfl⟩ := h
        obtain ⟨hsz, hone⟩ := hvc
        refine ⟨vs, rfl, _, V.mkAgg (f := fun j => vs.getD (off + j) undef) (n := ti.size) (by simp; omega) hone (fun j hj' => h1 _ (by omega)) ?_, fun w2 => run_part_agg ht hagg (by omega) w2⟩
        intro j hj'
        rw [getD_take _ _ _ _ hj', getD_drop]
        exact hj _ (by omega)
      · rename_i hagg
        simp only [Option.some.injEq, Prod.mk.injEq] at h
        obtain ⟨rfl, rfl⟩ := h
        exact ⟨vs, rfl, _, (hj off hvc.1).tnormI hvc.2, fun w2 => run_part_one ht hagg (by omega) w2⟩
  · simp at h

def sField (T : Nat → Option TI) (s : Nat) (x : I) (f : Nat) : Option (Prop × I) :=
  match T s with
  | some ti =>
    match ti.ty with
    | .struct fs =>
      match fs[f]? with
      | some (off, ft) =>
        match T ft with
        | some fi => sPart fi off x
        | none => none
      | none => none
    | _ => none
  | none => none

theorem sField_sound (hT : TOK P T) {s f : Nat} {x : I} {vx : Value} (hx : V S φ H w x vx) {vc : Prop} {y : I} (h : sField T s x f = some (vc, y)) (hvc : vc) :
    ∃ v, V S φ H w y v ∧ ∀ w2, (Instr.field s vx f).run P w2 = .ok v w2 := by
  unfold sField at h
  split at h
  · rename_i ti hti
    split at h
    · rename_i fs hy
      split at h
      · rename_i off ft hfs
        split at h
        · rename_i fi hfi
          obtain ⟨vs, rfl, v, hv, hr⟩ := sPart_sound (hT _ _ hfi) hx h hvc
          refine ⟨v, hv, fun w2 => ?_⟩
          obtain ⟨fields, hu, rfl⟩ := (hT _ _ hti).und_struct hy
          simp only [List.getElem?_map, Option.map_eq_some_iff] at hfs
          obtain ⟨fd, hfd, he⟩ := hfs
          simp only [Prod.mk.injEq] at he
          obtain ⟨rfl, rfl⟩ := he
          have hfd' : fields[f]? = some fd := by simpa using hfd
          simp only [Instr.field, Sem.run_bind, run_underlying hu, Result.andThen_ok, hfd', asAgg, Sem.run_pure, hr]
        · simp at h
      · simp at h
    · simp at h
  · simp at h

def sIndex (T : Nat → Option TI) (t : Nat) (x ix : I) : Option (Prop × I) :=
  match T t, ix with
  | some ti, .d iv =>
    match ti.ty with
    | .array n e =>
      match T e with
      | some ei =>
        match sPart ei (iv.toInt.toNat * ei.size) x with
        | some (vc, y) => some (iv.isInt .i64 ∧ 0 ≤ iv.toInt ∧ iv.toInt < n ∧ vc, y)
        | none => none
      | none => none
    | _ => none
  | _, _ => none

theorem sIndex_sound (hT : TOK P T) {t : Nat} {x ix : I} {vx vi : Value} (hx : V S φ H w x vx) (hi : V S φ H w ix vi) {vc : Prop} {y : I} (h : sIndex T t x ix = some (vc, y)) (hvc : vc) :
    ∃ v, V S φ H w y v ∧ ∀ w2, (Instr.index t vx vi).run P w2 = .ok v w2 := by
  unfold sIndex at h
  split at h
  · rename_i ti iv hti
    split at h
    · rename_i n e hy
      split at h
      · rename_i ei hei
        split at h
        · rename_i vc' y' hp
          simp only [Option.some.injEq, Prod.mk.injEq] at h
          obtain ⟨rfl, rfl⟩ := h
          obtain ⟨hii, h0, h1, hvc⟩ := hvc
          obtain ⟨vs, rfl, v, hv, hr⟩ := sPart_sound (hT _ _ hei) hx hp hvc
          obtain ⟨_, rfl, _⟩ := hi.fz.int_inv hii
          refine ⟨v, hv, fun w2 => ?_⟩
          simp only [Instr.index, Sem.run_bind, asIntOf, Sem.run_pure, Result.andThen_ok, run_underlying ((hT _ _ hti).und_array hy), h0, h1, and_self, if_true, (hT _ _ hei).run_sizeOf, hr]
        · simp at h
      · simp at h
    · simp at h
  · simp at h

end Go.VL

/- Part 5: the symbolic value of an operation that only reads, and that it is right. Conditions: none; lemmas. -/
import Derived.Test.YtfinoodiofghkaaVL4
set_option linter.unusedVariables false
set_option linter.unusedSimpArgs false
namespace Go.VL

section types
variable {P : Program} {t : Nat} {ti : TI} (h : TIOK P t ti) (w : World)
include h
theorem TIOK.run_sizeOf : (sizeOf t).run P w = .ok ti.size w := by
  obtain ⟨i, d, h1, h2, h3, h4, h5, h6⟩ := h.ex
  simp [sizeOf, typeInfo, h1, h2]
theorem TIOK.run_isAgg : (isAgg t).run P w = .ok ti.ty.agg w := by
  obtain ⟨i, d, h1, h2, h3, h4, h5, h6⟩ := h.ex
  simp only [isAgg, Sem.run_bind, run_underlying h5, Result.andThen_ok]
  rw [← h6]
  cases d <;> rfl
theorem TIOK.run_zero : (zeroValue t).run P w = .ok (zeroVal ti.zero) w := by
  obtain ⟨i, d, h1, h2, h3, h4, h5, h6⟩ := h.ex
  simp [zeroValue, typeInfo, h1, h4]
theorem TIOK.und_slice {e : Nat} (hy : ti.ty = .slice e) : P.underlying t = some (.slice e) := by
  obtain ⟨i, d, h1, h2, h3, h4, h5, h6⟩ := h.ex
  rw [h5]
  rw [hy] at h6
  cases d <;> simp_all [tyOf]
theorem TIOK.und_array {n e : Nat} (hy : ti.ty = .array n e) : P.underlying t = some (.array n e) := by
  obtain ⟨i, d, h1, h2, h3, h4, h5, h6⟩ := h.ex
  rw [h5]
  rw [hy] at h6
  cases d <;> simp_all [tyOf]
theorem TIOK.und_int {k : IntKind} (hy : ti.ty = .int k) : P.underlying t = some (.int k) := by
  obtain ⟨i, d, h1, h2, h3, h4, h5, h6⟩ := h.ex
  rw [h5]
  rw [hy] at h6
  cases d <;> simp_all [tyOf]
theorem TIOK.und_bool (hy : ti.ty = .bool) : P.underlying t = some .bool := by
  obtain ⟨i, d, h1, h2, h3, h4, h5, h6⟩ := h.ex
  rw [h5]
  rw [hy] at h6
  cases d <;> simp_all [tyOf]
theorem TIOK.und_struct {fs : List (Nat × Nat)} (hy : ti.ty = .struct fs) : ∃ fields, P.underlying t = some (.struct fields) ∧ fs = fields.toList.map fun f => (f.offset, f.type) := by
  obtain ⟨i, d, h1, h2, h3, h4, h5, h6⟩ := h.ex
  rw [h5]
  rw [hy] at h6
  cases d <;> simp_all [tyOf]
theorem TIOK.und_some : ∃ d, P.underlying t = some d := by
  obtain ⟨i, d, h1, h2, h3, h4, h5, h6⟩ := h.ex
  exact ⟨d, h5⟩
end types

/-- Worlds that hold what 'w' holds. -/
def Agree (w w2 : World) : Prop := ∀ b, b < w.heap.size → w2.heap[b]? = w.heap[b]?
theorem Agree.refl (w : World) : Agree w w := fun _ _ => rfl
theorem Agree.cell {w w2 : World} (h : Agree w w2) {b o : Nat} {v : Value} (hc : w.cell? ⟨b, o, none⟩ = some v) : w2.cell? ⟨b, o, none⟩ = some v := by
  rw [cell_of_heap (h b (World.block_lt_of_cell? w _ hc))]
  exact hc
theorem Agree.heap {w w2 : World} (h : Agree w w2) {b : Nat} {o : Obj} (hc : w.heap[b]? = some o) : w2.heap[b]? = some o := by
  rw [h b (Array.getElem?_eq_some_iff.1 hc).1]
  exact hc

/-! ### Operands, seen through the guard under which they were computed -/
def evx (fr : Fr) (o : Operand) : I :=
  match ev fr o with
  | .cond _ x => x
  | x => x
def evc (fr : Fr) (o : Operand) : Prop :=
  match ev fr o with
  | .cond e _ => e = true
  | _ => True

def tnorm : Ty → D → D
  | .int k, x => .int k x.toInt
  | .bool, x => .bool x.toBool
  | _, x => x
def tchk : Ty → D → Prop
  | .int k, x => x.isInt k
  | .bool, x => x.isBool
  | _, x => x.one = true
def tnormI (t : Ty) : I → I
  | .d x => .d (tnorm t x)
  | x => x
def tchkI (t : Ty) : I → Prop
  | .d x => tchk t x
  | .agg _ => False
  | .tup _ => False
  | _ => True

def allD : List I → Option (List D)
  | [] => some []
  | .d x :: r => match allD r with
    | some l => some (x :: l)
    | none => none
  | _ :: _ => none
def oneI : I → Prop
  | .d x => x.one = true
  | _ => True
def mkAgg (cs : List I) : I :=
  match allD cs with
  | some ds => .d (.agg ds)
  | none => .agg cs
def allOne : List I → Prop
  | [] => True
  | x :: r => oneI x ∧ allOne r

def sLoad (T : Nat → Option TI) (H : List R) (t : Nat) (p : I) : Option (Prop × I) :=
  match T t, p with
  | some ti, .d pd =>
    match ti.ty.agg with
    | true => some (pd.isPtr ∧ ti.size ≤ pd.ptrs.length, .d (.agg (pd.ptrs.take ti.size)))
    | false => some (pd.isPtr ∧ 0 < pd.ptrs.length ∧ tchk ti.ty (pd.ptrs.getD 0 .nil), .d (tnorm ti.ty (pd.ptrs.getD 0 .nil)))
  | some ti, .ptr i off =>
    match H[i]? with
    | some (.box cs) =>
      match ti.ty.agg with
      | true => some (off + ti.size ≤ cs.length ∧ allOne ((cs.drop off).take ti.size), mkAgg ((cs.drop off).take ti.size))
      | false => some (off < cs.length ∧ tchkI ti.ty (cs.getD off .junk), tnormI ti.ty (cs.getD off .junk))
    | _ => none
  | some ti, .eptr i g k idx off z =>
    match H[i]? with
    | some (.row g' k' dp l) =>
      match ti.ty.agg, dp with
      | true, false => some (g = g' ∧ k = k' ∧ idx < l.length ∧ off + ti.size ≤ k, .d (.agg (cellsFrom (l.getD idx z) off ti.size)))
      | true, true => some (g = g' ∧ k = k' ∧ idx < l.length ∧ off + ti.size ≤ k ∧ ∀ c ∈ cellsFrom (l.getD idx z) off ti.size, c.scalar = true, .d (.agg (cellsFrom (l.getD idx z) off ti.size)))
      | false, false => some (g = g' ∧ k = k' ∧ idx < l.length ∧ off < k ∧ tchk ti.ty ((l.getD idx z).cellAt off), .d (tnorm ti.ty ((l.getD idx z).cellAt off)))
      | false, true =>
        match ti.ty with
        | .int _ | .bool => some (g = g' ∧ k = k' ∧ idx < l.length ∧ off < k ∧ tchk ti.ty ((l.getD idx z).cellAt off), .d (tnorm ti.ty ((l.getD idx z).cellAt off)))
        | _ => none
    | _ => none
  | _, _ => none

theorem tnorm_eq {t : Ty} {x : D} (h : tchk t x) {S : Nat → Prop} {w : World} {v : Value} (hv : FZ S w x v) : tnorm t x = x := by
  cases t <;> first
    | rfl
    | (simp only [tnorm]; exact (hv.int_inv h).1.symm)
    | (simp only [tnorm]; exact (hv.bool_inv h).1.symm)

theorem tchk_one {t : Ty} {x : D} (h : tchk t x) : x.one = true := by
  cases t <;> simp only [tchk] at h <;> first
    | exact h
    | (cases x <;> simp [D.isInt, D.isBool] at h <;> rfl)

theorem FZ.tnorm {t : Ty} {x : D} {S : Nat → Prop} {w : World} {v : Value} (hv : FZ S w x v) (h : tchk t x) : FZ S w (tnorm t x) v := by
  rw [tnorm_eq h hv]; exact hv

theorem ow_scalar {w : World} {x : D} {v : Value} {fp : List Nat} (h : OW w x v fp) (hx : x.scalar = true) (S : Nat → Prop) : FZ S w x v := by
  cases h <;> simp [D.scalar] at hx
  · exact .int (by assumption)
  · exact .bool
  · exact .raw (by assumption)
  · exact .nil

theorem tchk_scalar {t : Ty} {x : D} (ht : (∃ k, t = .int k) ∨ t = .bool) (h : tchk t x) : x.scalar = true := by
  rcases ht with ⟨k, rfl⟩ | rfl <;> cases x <;> simp_all [tchk, D.isInt, D.isBool, D.scalar]

variable {P : Program} {S : Nat → Prop} {φ : List (List Nat)} {H : List R} {w : World}

theorem run_loadVar_agg {t : Nat} {ti : TI} (ht : TIOK P t ti) (hy : ti.ty.agg = true) {b off : Nat} {f : Nat → Value} {w : World}
    (hc : ∀ j, j < ti.size → w.cell? ⟨b, off + j, none⟩ = some (f j)) :
    (loadVar t ⟨b, off, none⟩).run P w = .ok (.agg ((List.range ti.size).map f).toArray) w := by
  simp only [loadVar, Sem.run_bind, ht.run_isAgg, hy, Result.andThen_ok, if_true, ht.run_sizeOf]
  rw [run_loadCells w ⟨b, off, none⟩ ti.size f (fun j hj => by rw [Addr.add_lit]; exact hc j hj)]
  rfl

theorem run_loadVar_one {t : Nat} {ti : TI} (ht : TIOK P t ti) (hy : ti.ty.agg = false) {b off : Nat} {v : Value} {w : World}
    (hc : w.cell? ⟨b, off, none⟩ = some v) : (loadVar t ⟨b, off, none⟩).run P w = .ok v w := by
  simp only [loadVar, Sem.run_bind, ht.run_isAgg, hy, Result.andThen_ok, Bool.false_eq_true, if_false, run_load, hc]

theorem getD_range_map (n : Nat) (f : Nat → Value) (j : Nat) (h : j < n) : ((List.range n).map f).toArray.getD j undef = f j := by
  simp [Array.getD, h]

theorem fz_agg_of {cs : List D} {n : Nat} {f : Nat → Value} (hn : cs.length = n) (h1 : ∀ c ∈ cs, c.one = true) (h : ∀ j, j < n → FZ S w (cs.getD j .nil) (f j)) :
    FZ S w (.agg cs) (.agg ((List.range n).map f).toArray) :=
  .agg (by simp [hn]) h1 fun j hj => by rw [getD_range_map n f j (by omega)]; exact h j (by omega)

theorem getD_mem {α : Type} {l : List α} {j : Nat} {d : α} (h : j < l.length) : l.getD j d ∈ l := by simp [List.getD, h]
theorem getD_take {α : Type} (l : List α) (n j : Nat) (d : α) (h : j < n) : (l.take n).getD j d = l.getD j d := by
  simp [List.getD, List.getElem?_take, h]
theorem getD_drop {α : Type} (l : List α) (n j : Nat) (d : α) : (l.drop n).getD j d = l.getD (n + j) d := by
  simp [List.getD, List.getElem?_drop]

theorem allD_getD : ∀ {cs : List I} {ds : List D}, allD cs = some ds → cs.length = ds.length ∧ ∀ j, j < cs.length → cs.getD j .junk = .d (ds.getD j .nil)
  | [], ds, h => by simp [allD] at h; subst h; simp
  | .d x :: r, ds, h => by
    simp only [allD] at h
    split at h
    · rename_i l hl
      simp at h
      subst h
      obtain ⟨h1, h2⟩ := allD_getD hl
      refine ⟨by simp [h1], ?_⟩
      intro j hj
      cases j with
      | zero => simp [List.getD]
      | succ j => simpa [List.getD] using h2 j (by simpa using hj)
    · simp at h
  | .agg _ :: _, ds, h | .sl .. :: _, ds, h | .ptr .. :: _, ds, h | .eptr .. :: _, ds, h | .bor .. :: _, ds, h | .bptr .. :: _, ds, h | .map _ :: _, ds, h
  | .fn .. :: _, ds, h | .tup _ :: _, ds, h | .own _ :: _, ds, h | .cond .. :: _, ds, h | .junk :: _, ds, h => by simp [allD] at h

theorem allOne_getD : ∀ {cs : List I}, allOne cs → ∀ j, j < cs.length → oneI (cs.getD j .junk)
  | [], _, j, hj => by simp at hj
  | x :: r, h, 0, _ => by simpa [List.getD] using h.1
  | x :: r, h, j + 1, hj => by simpa [List.getD] using allOne_getD h.2 j (by simpa using hj)

theorem V.mkAgg {cs : List I} {n : Nat} {f : Nat → Value} (hn : cs.length = n) (h1 : allOne cs) (ho : ∀ j, j < n → (f j).oneCell' = true) (h : ∀ j, j < n → V S φ H w (cs.getD j .junk) (f j)) :
    V S φ H w (mkAgg cs) (.agg ((List.range n).map f).toArray) := by
  unfold VL.mkAgg
  split
  · rename_i ds hds
    obtain ⟨hl, hd⟩ := allD_getD hds
    refine .d (fz_agg_of (by omega) ?_ ?_)
    · intro c hc
      obtain ⟨j, hj, rfl⟩ := List.getElem_of_mem hc
      have := allOne_getD h1 j (by omega)
      rw [hd j (by omega)] at this
      rw [getElem_eq_getD _ _ _ .nil]
      exact this
    · intro j hj
      have := h j hj
      rw [hd j (by omega)] at this
      exact this.fz
  · refine .agg (by simp [hn]) ?_ ?_
    · intro j hj
      rw [getD_range_map n f j (by omega)]
      exact ho j (by omega)
    · intro j hj
      rw [getD_range_map n f j (by omega)]
      exact h j (by omega)

/-- The cells of a row's element. -/
theorem row_cell (s : Sim S φ H w) {i g k : Nat} {dp : Bool} {l : List D} (hi : H[i]? = some (.row g k dp l)) {idx off : Nat} (hidx : idx < l.length) (hoff : off < k) (z : D) :
    ∃ b rest v, φ.getD i [] = b :: rest ∧ w.cell? ⟨b, idx * k + off, none⟩ = some v ∧ ((l.getD idx z).cellAt off).one = true ∧
      (dp = false → FZ S w ((l.getD idx z).cellAt off) v) ∧ (∃ fp, dp = true → OW w ((l.getD idx z).cellAt off) v fp) := by
  obtain ⟨hk, he, h1, hlim, h⟩ := s.rel i _ hi
  rcases h with ⟨_, rfl⟩ | ⟨b, rest, arr, ty, hfp, hb, hsz, hr⟩
  · simp at hidx
  · have hm := Nat.mul_le_mul_right k hidx
    rw [Nat.succ_mul] at hm
    have hj : idx * k + off < arr.size := by omega
    have hjf : idx * k + off < (flat l).length := by rw [flat_length he]; omega
    have hmem : l.getD idx z ∈ l := by simp [List.getD, hidx]
    have hcl := he _ hmem
    have hc : (l.getD idx z).cellAt off = (flat l).getD (idx * k + off) .nil := by
      rw [cellAt_eq _ _ (by omega), getD_flat he hidx hoff z]
    refine ⟨b, rest, arr.getD (idx * k + off) undef, hfp, by simp [World.cell?, hb, Array.getD, hj], ?_, ?_, ?_⟩
    · rw [hc]
      refine h1 _ ?_
      simp [List.getD, hjf]
    · intro hd
      subst hd
      rw [hc]
      exact hr.2 _ hjf
    · cases dp with
      | false => exact ⟨[], by simp⟩
      | true =>
        obtain ⟨F, _, hF⟩ := hr
        exact ⟨F (idx * k + off), fun _ => by rw [hc]; exact hF _ hjf⟩

theorem box_cell (s : Sim S φ H w) {i : Nat} {cs : List I} (hi : H[i]? = some (.box cs)) : ∃ b, φ.getD i [] = [b] ∧
    ∃ f : Nat → Value, ∀ j, j < cs.length → w.cell? ⟨b, j, none⟩ = some (f j) ∧ (f j).oneCell' = true ∧ V S φ H w (cs.getD j .junk) (f j) := by
  obtain ⟨b, arr, ty, hfp, hb, hsz, hv⟩ := s.rel i _ hi
  exact ⟨b, hfp, fun j => arr.getD j undef, fun j hj => ⟨by simp [World.cell?, hb, Array.getD, show j < arr.size by omega], (hv j hj).1, (hv j hj).2⟩⟩

theorem sLoad_sound {T : Nat → Option TI} (hT : TOK P T) (s : Sim S φ H w) {t : Nat} {p : I} {vp : Value} (hp : V S φ H w p vp) {vc : Prop} {x : I}
    (h : sLoad T H t p = some (vc, x)) (hvc : vc) : ∃ v, V S φ H w x v ∧ ∀ w2, Agree w w2 → (Instr.loadAt t vp).run P w2 = .ok v w2 := by
  unfold sLoad at h
  split at h
  · rename_i ti pd hti
    have ht := hT _ _ hti
    have hfz := hp.fz
    split at h
    · rename_i hagg
      simp only [Option.some.injEq, Prod.mk.injEq] at h
      obtain ⟨rfl, rfl⟩ := h
      obtain ⟨hptr, hsz⟩ := hvc
      obtain ⟨b, off, rfl, hS, h1, f, hc, hf⟩ := hfz.ptr_inv hptr
      refine ⟨_, .d (fz_agg_of (f := f) (n := ti.size) (by simp; omega) (fun c hc => h1 c (List.mem_of_mem_take hc)) ?_), ?_⟩
      · intro j hj
        rw [getD_take _ _ _ _ hj]
        exact hf j (by omega)
      · intro w2 hw2
        simp only [Instr.loadAt, Instr.sureAddr, Sem.run_bind, Sem.run_pure, Result.andThen_ok]
        exact run_loadVar_agg ht hagg fun j hj => hw2.cell (hc j (by omega))
    · rename_i hagg
      simp only [Option.some.injEq, Prod.mk.injEq] at h
      obtain ⟨rfl, rfl⟩ := h
      obtain ⟨hptr, hsz, hchk⟩ := hvc
      obtain ⟨b, off, rfl, hS, h1, f, hc, hf⟩ := hfz.ptr_inv hptr
      refine ⟨f 0, .d ((hf 0 hsz).tnorm hchk), ?_⟩
      intro w2 hw2
      simp only [Instr.loadAt, Instr.sureAddr, Sem.run_bind, Sem.run_pure, Result.andThen_ok]
      exact run_loadVar_one ht hagg (by simpa using hw2.cell (hc 0 hsz))
  · rename_i ti i off hti
    have ht := hT _ _ hti
    split at h
    · rename_i cs hi
      cases hp with
      | ptr hlt hrel h1 =>
        obtain ⟨b, hfp, rfl⟩ := hrel cs hi
        obtain ⟨b', hfp', f, hf⟩ := box_cell s hi
        rw [hfp] at hfp'
        simp at hfp'
        subst hfp'
        split at h
        · rename_i hagg
          simp only [Option.some.injEq, Prod.mk.injEq] at h
          obtain ⟨rfl, rfl⟩ := h
          obtain ⟨hsz, hone⟩ := hvc
          refine ⟨_, V.mkAgg (f := fun j => f (off + j)) (n := ti.size) (by simp; omega) hone (fun j hj => (hf (off + j) (by omega)).2.1) ?_, ?_⟩
          · intro j hj
            rw [getD_take _ _ _ _ hj, getD_drop]
            exact (hf (off + j) (by omega)).2.2
          · intro w2 hw2
            simp only [Instr.loadAt, Instr.sureAddr, Sem.run_bind, Sem.run_pure, Result.andThen_ok]
            exact run_loadVar_agg ht hagg fun j hj => hw2.cell (hf (off + j) (by omega)).1
        · rename_i hagg
          simp only [Option.some.injEq, Prod.mk.injEq] at h
          obtain ⟨rfl, rfl⟩ := h
          obtain ⟨hsz, hchk⟩ := hvc
          obtain ⟨hc, ho, hv⟩ := hf off hsz
          refine ⟨f off, ?_, ?_⟩
          · generalize cs.getD off .junk = y at *
            cases y <;> first
              | exact hv
              | exact .d (hv.fz.tnorm hchk)
          · intro w2 hw2
            simp only [Instr.loadAt, Instr.sureAddr, Sem.run_bind, Sem.run_pure, Result.andThen_ok]
            exact run_loadVar_one ht hagg (hw2.cell hc)
    · simp at h
  · rename_i ti i g k idx off z hti
    have ht := hT _ _ hti
    split at h
    · rename_i g' k' dp l hi
      cases hp with
      | eptr hlt hg hrel h1 =>
        have key : ∀ (hgk : g = g' ∧ k = k'), idx < l.length → ∀ off', off' < k → ∃ b v, vp = .pointer (some ⟨b, idx * k + off, none⟩) ∧ w.cell? ⟨b, idx * k + off', none⟩ = some v ∧
            ((l.getD idx z).cellAt off').one = true ∧ (dp = false → FZ S w ((l.getD idx z).cellAt off') v) ∧ (∃ fp, dp = true → OW w ((l.getD idx z).cellAt off') v fp) := by
          rintro ⟨rfl, rfl⟩ hidx off' hoff
          obtain ⟨b, rest, hfp, rfl⟩ := hrel dp l hi
          obtain ⟨b', rest', v, hfp', hc, hone, h2, h3⟩ := row_cell s hi hidx hoff z
          rw [hfp] at hfp'
          simp at hfp'
          obtain ⟨rfl, rfl⟩ := hfp'
          exact ⟨b, v, rfl, hc, hone, h2, h3⟩
        have agg : ∀ (hgk : g = g' ∧ k = k'), idx < l.length → off + ti.size ≤ k → ti.ty.agg = true → (dp = true → ∀ c ∈ cellsFrom (l.getD idx z) off ti.size, c.scalar = true) → 0 < k →
            ∃ v, V S φ H w (.d (.agg (cellsFrom (l.getD idx z) off ti.size))) v ∧ ∀ w2, Agree w w2 → (Instr.loadAt t vp).run P w2 = .ok v w2 := by
          intro hgk hidx hsz hagg hsc hk0
          obtain ⟨b, _, rfl, _⟩ := key hgk hidx 0 hk0
          have hall : ∀ j, j < ti.size → ∃ v, w.cell? ⟨b, idx * k + off + j, none⟩ = some v ∧ ((l.getD idx z).cellAt (off + j)).one = true ∧ FZ S w ((l.getD idx z).cellAt (off + j)) v := by
            intro j hj
            obtain ⟨b', v, e, hc, hone, h2, fp, h3⟩ := key hgk hidx (off + j) (by omega)
            simp at e
            subst e
            refine ⟨v, by rw [Nat.add_assoc]; exact hc, hone, ?_⟩
            cases dp with
            | false => exact h2 rfl
            | true =>
              refine ow_scalar (h3 rfl) (hsc rfl _ ?_) S
              have := cellsFrom_getD (l.getD idx z) off ti.size j hj
              rw [← this]
              exact getD_mem (by rw [cellsFrom_length]; exact hj)
          have hc : ∀ j, j < ti.size → w.cell? ⟨b, idx * k + off + j, none⟩ = some ((w.cell? ⟨b, idx * k + off + j, none⟩).getD undef) := by
            intro j hj
            obtain ⟨v, hv, _⟩ := hall j hj
            simp [hv]
          refine ⟨_, .d (fz_agg_of (f := fun j => (w.cell? ⟨b, idx * k + off + j, none⟩).getD undef) (n := ti.size) (cellsFrom_length _ _ _) ?_ ?_), ?_⟩
          · intro c hc
            obtain ⟨j, hj, rfl⟩ := List.getElem_of_mem hc
            rw [cellsFrom_length] at hj
            rw [getElem_eq_getD _ _ _ .nil, cellsFrom_getD _ _ _ _ hj]
            obtain ⟨v, hv, h1, _⟩ := hall j hj
            exact h1
          · intro j hj
            rw [cellsFrom_getD _ _ _ _ hj]
            obtain ⟨v, hv, _, h2⟩ := hall j hj
            simpa [hv] using h2
          · intro w2 hw2
            simp only [Instr.loadAt, Instr.sureAddr, Sem.run_bind, Sem.run_pure, Result.andThen_ok]
            exact run_loadVar_agg ht hagg fun j hj => hw2.cell (hc j hj)
        have one : ∀ (hgk : g = g' ∧ k = k'), idx < l.length → off < k → ti.ty.agg = false → tchk ti.ty ((l.getD idx z).cellAt off) → (dp = true → (∃ k, ti.ty = .int k) ∨ ti.ty = .bool) →
            ∃ v, V S φ H w (.d (tnorm ti.ty ((l.getD idx z).cellAt off))) v ∧ ∀ w2, Agree w w2 → (Instr.loadAt t vp).run P w2 = .ok v w2 := by
          intro hgk hidx hoff hagg hchk hty
          obtain ⟨b, v, rfl, hc, hone, h2, fp, h3⟩ := key hgk hidx off hoff
          refine ⟨v, .d (FZ.tnorm ?_ hchk), ?_⟩
          · cases dp with
            | false => exact h2 rfl
            | true => exact ow_scalar (h3 rfl) (tchk_scalar (hty rfl) hchk) S
          · intro w2 hw2
            simp only [Instr.loadAt, Instr.sureAddr, Sem.run_bind, Sem.run_pure, Result.andThen_ok]
            exact run_loadVar_one ht hagg (hw2.cell hc)
        have hk0 : 0 < k' := (s.rel i _ hi).1
        split at h
        · rename_i hagg
          simp only [Option.some.injEq, Prod.mk.injEq] at h
          obtain ⟨rfl, rfl⟩ := h
          exact agg ⟨hvc.1, hvc.2.1⟩ hvc.2.2.1 hvc.2.2.2 hagg (by simp) (by rw [hvc.2.1]; exact hk0)
        · rename_i hagg
          simp only [Option.some.injEq, Prod.mk.injEq] at h
          obtain ⟨rfl, rfl⟩ := h
          exact agg ⟨hvc.1, hvc.2.1⟩ hvc.2.2.1 hvc.2.2.2.1 hagg (fun _ => hvc.2.2.2.2) (by rw [hvc.2.1]; exact hk0)
        · rename_i hagg
          simp only [Option.some.injEq, Prod.mk.injEq] at h
          obtain ⟨rfl, rfl⟩ := h
          exact one ⟨hvc.1, hvc.2.1⟩ hvc.2.2.1 hvc.2.2.2.1 hagg hvc.2.2.2.2 (by simp)
        · rename_i hagg
          split at h
          · rename_i k0 hty
            simp only [Option.some.injEq, Prod.mk.injEq] at h
            obtain ⟨rfl, rfl⟩ := h
            exact one ⟨hvc.1, hvc.2.1⟩ hvc.2.2.1 hvc.2.2.2.1 hagg hvc.2.2.2.2 (fun _ => .inl ⟨_, hty⟩)
          · rename_i hty
            simp only [Option.some.injEq, Prod.mk.injEq] at h
            obtain ⟨rfl, rfl⟩ := h
            exact one ⟨hvc.1, hvc.2.1⟩ hvc.2.2.1 hvc.2.2.2.1 hagg hvc.2.2.2.2 (fun _ => .inr hty)
          · simp at h
    · simp at h
  · simp at h

end Go.VL

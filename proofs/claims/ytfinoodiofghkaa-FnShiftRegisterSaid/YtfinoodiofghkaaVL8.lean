/- Part 8: every operation that leaves memory alone, in one function. Conditions: none; lemmas. -/
import Derived.Test.YtfinoodiofghkaaVL7
set_option linter.unusedVariables false
set_option linter.unusedSimpArgs false
namespace Go.VL

variable {P : Program} {S : Nat → Prop} {φ : List (List Nat)} {H : List R} {w : World} {T : Nat → Option TI}

/-! ### Struct values -/
def setCells : List I → Nat → List I → List I
  | cs, _, [] => cs
  | cs, off, x :: r => setCells (cs.set off x) (off + 1) r
/-- The cells of a value of type 'ti'. -/
def cellsI (ti : TI) (x : I) : Option (Prop × List I) :=
  match ti.ty.agg, x with
  | true, .d xd => some (xd.cells.length = ti.size ∧ xd.one = false ∧ (∀ n, xd ≠ .tup n), (cellsFrom xd 0 ti.size).map .d)
  | true, .agg cs => some (cs.length = ti.size, cs)
  | false, .d xd => some (ti.size = 1 ∧ xd.one = true, [.d xd])
  | false, .sl i g k lo n => some (ti.size = 1, [.sl i g k lo n])
  | false, .ptr i off => some (ti.size = 1, [.ptr i off])
  | false, .map i => some (ti.size = 1, [.map i])
  | false, .fn f caps => some (ti.size = 1, [.fn f caps])
  | _, _ => none

theorem cellsI_sound {ti : TI} {x : I} {vx : Value} (hx : V S φ H w x vx) {vc : Prop} {cs : List I} (h : cellsI ti x = some (vc, cs)) (hvc : vc) :
    cs.length = ti.size ∧ vx.cells.size = ti.size ∧ ∀ j, j < ti.size → (vx.cells.getD j undef).oneCell' = true ∧ V S φ H w (cs.getD j .junk) (vx.cells.getD j undef) := by
  unfold cellsI at h
  split at h
  · rename_i xd hagg
    simp only [Option.some.injEq, Prod.mk.injEq] at h
    obtain ⟨rfl, rfl⟩ := h
    obtain ⟨hl, hone, htup⟩ := hvc
    have hz := hx.fz
    cases hz <;> simp [D.one] at hone
    · rename_i cs vs hl' h1 hj
      simp only [D.cells] at hl
      refine ⟨by simp [cellsFrom_length], by simp [Value.cells, ← hl', hl], fun j hj' => ?_⟩
      have hjl : j < (cellsFrom (D.agg cs) 0 ti.size).length := by rw [cellsFrom_length]; exact hj'
      have e : ((cellsFrom (D.agg cs) 0 ti.size).map I.d).getD j .junk = .d (cs.getD j .nil) := by
        have := cellsFrom_getD (D.agg cs) 0 ti.size j hj'
        simp only [List.getD, List.getElem?_map, List.getElem?_eq_getElem hjl, Option.map_some, Option.getD_some] at this ⊢
        rw [this]
        simp [D.cellAt]
      rw [e]
      have hz := hj j (by omega)
      exact ⟨hz.one (h1 _ (getD_mem (by omega))), .d hz⟩
    · exact absurd rfl (htup _)
  · rename_i cs' hagg
    simp only [Option.some.injEq, Prod.mk.injEq] at h
    obtain ⟨rfl, rfl⟩ := h
    cases hx with
    | @agg _ vs hl h1 hj => exact ⟨hvc, by simp [Value.cells, ← hl, hvc], fun j hj' => ⟨h1 j (by omega), hj j (by omega)⟩⟩
  all_goals simp only [Option.some.injEq, Prod.mk.injEq, reduceCtorEq] at h
  all_goals obtain ⟨rfl, rfl⟩ := h
  · rename_i xd hagg
    obtain ⟨h1, h2⟩ := hvc
    have ho := hx.fz.one h2
    have hc : vx.cells = #[vx] := by cases vx <;> first | rfl | simp [Value.oneCell'] at ho
    refine ⟨by simp [h1], by simp [hc, h1], fun j hj => ?_⟩
    obtain rfl : j = 0 := by omega
    rw [hc]
    exact ⟨ho, hx⟩
  all_goals
    have ho : vx.oneCell' = true := by cases hx <;> first | assumption | rfl
    have hc : vx.cells = #[vx] := by cases vx <;> first | rfl | simp [Value.oneCell'] at ho
    refine ⟨by simp [hvc], by simp [hc, hvc], fun j hj => ?_⟩
    obtain rfl : j = 0 := by omega
    rw [hc]
    exact ⟨ho, hx⟩

/-- The parts of a struct literal laid into its zero. -/
def fillI (T : Nat → Option TI) (fs : List (Nat × Nat)) : List I → List (Nat × I) → Option (Prop × List I)
  | cs, [] => some (True, cs)
  | cs, (i, x) :: rest =>
    match fs[i]? with
    | some (off, ft) =>
      match T ft with
      | some fi =>
        match cellsI fi x with
        | some (vc, xs) =>
          match fillI T fs (setCells cs off xs) rest with
          | some (vc', r) => some (vc ∧ off + fi.size ≤ cs.length ∧ vc', r)
          | none => none
        | none => none
      | none => none
    | none => none
  
def evParts (fr : Fr) : List (Nat × Operand) → List (Nat × I)
  | [] => []
  | (i, x) :: r => (i, evx fr x) :: evParts fr r
def evcParts (fr : Fr) : List (Nat × Operand) → Prop
  | [] => True
  | (i, x) :: r => evc fr x ∧ evcParts fr r

/-- The places of an array's elements. -/
def arrF (n e sz : Nat) : List (Nat × Nat) := (List.range n).map fun i => (i * sz, e)
theorem arrF_get (n e sz i : Nat) : (arrF n e sz)[i]? = if i < n then some (i * sz, e) else none := by
  simp only [arrF, List.getElem?_map]
  by_cases h : i < n
  · simp [h]
  · simp [h]
def sBuild (T : Nat → Option TI) (t : Nat) (parts : List (Nat × I)) : Option (Prop × I) :=
  match T t with
  | some ti =>
    match ti.ty with
    | .array n e =>
      match T e with
      | some ei =>
        match fillI T (arrF n e ei.size) ((cellsFrom ti.zero 0 ti.size).map .d) parts with
        | some (vc, cs) => some (vc ∧ allOne cs, mkAgg cs)
        | none => none
      | none => none
    | .struct fs =>
      match fillI T fs ((cellsFrom ti.zero 0 ti.size).map .d) parts with
      | some (vc, cs) => some (vc ∧ allOne cs ∧ fs.all (fun f => (T f.2).isSome) = true, mkAgg cs)
      | none => none
    | _ => none
  | none => none

theorem length_setCells (cs : List I) (off : Nat) (xs : List I) : (setCells cs off xs).length = cs.length := by
  induction xs generalizing cs off with
  | nil => rfl
  | cons x r ih => simp [setCells, ih]

theorem getD_setCells (cs : List I) (off : Nat) (xs : List I) (h : off + xs.length ≤ cs.length) (j : Nat) :
    (setCells cs off xs).getD j .junk = if off ≤ j ∧ j < off + xs.length then xs.getD (j - off) .junk else cs.getD j .junk := by
  induction xs generalizing cs off with
  | nil => simp [setCells]; omega
  | cons x r ih =>
    simp only [List.length_cons] at h ⊢
    simp only [setCells]
    rw [ih _ _ (by simp; omega)]
    by_cases h1 : off + 1 ≤ j ∧ j < off + 1 + r.length
    · rw [if_pos h1, if_pos (by omega)]
      rw [show j - off = (j - (off + 1)) + 1 by omega]
      simp [List.getD]
    · rw [if_neg h1]
      by_cases h2 : j = off
      · subst h2
        rw [if_pos (by omega)]
        simp [List.getD, show j < cs.length by omega]
      · rw [if_neg (by omega)]
        simp [List.getD, List.getElem?_set, Ne.symm h2]

theorem foldl_set (vs : List Value) (off : Nat) (arr : Array Value) (n0 : Nat) (h : off + n0 + vs.length ≤ arr.size) :
    ((vs.zipIdx n0).foldl (fun cs (cj : Value × Nat) => cs.setIfInBounds (off + cj.2) cj.1) arr).size = arr.size ∧
    ∀ j, ((vs.zipIdx n0).foldl (fun cs (cj : Value × Nat) => cs.setIfInBounds (off + cj.2) cj.1) arr).getD j undef = if off + n0 ≤ j ∧ j < off + n0 + vs.length then vs.getD (j - (off + n0)) undef else arr.getD j undef := by
  induction vs generalizing arr n0 with
  | nil => simp; omega
  | cons v r ih =>
    simp only [List.length_cons] at h ⊢
    simp only [List.zipIdx_cons, List.foldl_cons]
    obtain ⟨h1, h2⟩ := ih (arr.setIfInBounds (off + n0) v) (n0 + 1) (by simp; omega)
    refine ⟨by rw [h1]; simp, fun j => ?_⟩
    rw [h2]
    by_cases h3 : off + (n0 + 1) ≤ j ∧ j < off + (n0 + 1) + r.length
    · rw [if_pos h3, if_pos (by omega), show j - (off + n0) = (j - (off + (n0 + 1))) + 1 by omega]
      simp [List.getD]
    · rw [if_neg h3]
      by_cases h4 : j = off + n0
      · subst h4
        rw [if_pos (by omega)]
        simp [List.getD, Array.getD, show off + n0 < arr.size by omega]
      · rw [if_neg (by omega)]
        simp [Array.getD_eq_getD_getElem?, Array.getElem?_setIfInBounds, Ne.symm h4]

theorem fold_pairs (vs : Array Value) (off : Nat) (arr : Array Value) (h : off + vs.size ≤ arr.size) :
    (vs.zipIdx.foldl (fun cs (c, j) => cs.setIfInBounds (off + j) c) arr).size = arr.size ∧
    ∀ j, (vs.zipIdx.foldl (fun cs (c, j) => cs.setIfInBounds (off + j) c) arr).getD j undef = if off ≤ j ∧ j < off + vs.size then vs.getD (j - off) undef else arr.getD j undef := by
  have := foldl_set vs.toList off arr 0 (by simpa using h)
  simp only [Nat.add_zero, Array.length_toList] at this
  rw [← Array.foldl_toList, Array.toList_zipIdx]
  simpa [List.getD, Array.getD_eq_getD_getElem?] using this

/-- Cells of a struct under construction. -/
def CellsOK (S : Nat → Prop) (φ : List (List Nat)) (H : List R) (w : World) (cs : List I) (arr : Array Value) : Prop :=
  arr.size = cs.length ∧ ∀ j, j < cs.length → (arr.getD j undef).oneCell' = true ∧ V S φ H w (cs.getD j .junk) (arr.getD j undef)

theorem fillI_sound (hT : TOK P T) {fs : List (Nat × Nat)} (place : Nat → Option (Nat × Nat)) (hpl : ∀ i off ft fi, fs[i]? = some (off, ft) → T ft = some fi → place i = some (off, fi.size)) :
    ∀ (parts : List (Nat × I)) (vps : List (Nat × Value)), parts.length = vps.length → (∀ (j i : Nat) (x : I), parts[j]? = some (i, x) → ∃ v : Value, vps[j]? = some (i, v) ∧ V S φ H w x v) →
    ∀ (cs : List I) (arr : Array Value), CellsOK S φ H w cs arr → ∀ {vc : Prop} {r : List I}, fillI T fs cs parts = some (vc, r) → vc → ∃ arr', Instr.fill place arr vps = some arr' ∧ CellsOK S φ H w r arr'
  | [], [], _, _, cs, arr, hok, vc, r, h, hvc => by
    simp [fillI] at h
    obtain ⟨_, rfl⟩ := h
    exact ⟨arr, rfl, hok⟩
  | [], _ :: _, hl, _, _, _, _, _, _, _, _ => by simp at hl
  | _ :: _, [], hl, _, _, _, _, _, _, _, _ => by simp at hl
  | (i, x) :: rest, (i', v) :: vrest, hl, hv, cs, arr, hok, vc, r, h, hvc => by
    simp only [fillI] at h
    split at h
    · rename_i off ft hfs
      split at h
      · rename_i fi hfi
        split at h
        · rename_i vc1 xs hc
          split at h
          · rename_i vc2 r' hr
            simp only [Option.some.injEq, Prod.mk.injEq] at h
            obtain ⟨rfl, rfl⟩ := h
            obtain ⟨hvc1, hfit, hvc2⟩ := hvc
            obtain ⟨v0, he, hx⟩ := hv 0 i x rfl
            simp only [List.getElem?_cons_zero, Option.some.injEq, Prod.mk.injEq] at he
            obtain ⟨rfl, rfl⟩ := he
            obtain ⟨h1, h2, h3⟩ := cellsI_sound hx hc hvc1
            obtain ⟨hsz, hcell⟩ := hok
            obtain ⟨f1, f2⟩ := fold_pairs v.cells off arr (by omega)
            have := fillI_sound hT place hpl rest vrest (by simpa using hl) (fun j i x hj => hv (j + 1) i x (by simpa using hj)) (setCells cs off xs)
              (v.cells.zipIdx.foldl (fun cs (c, j) => cs.setIfInBounds (off + j) c) arr) ⟨by rw [f1, length_setCells]; exact hsz, ?_⟩ hr hvc2
            · obtain ⟨arr', ha, hok'⟩ := this
              refine ⟨arr', ?_, hok'⟩
              simp only [Instr.fill, hpl i' off ft fi hfs hfi]
              rw [if_neg (by simp; omega)]
              exact ha
            · intro j hj
              rw [length_setCells] at hj
              rw [f2, getD_setCells cs off xs (by omega)]
              by_cases hin : off ≤ j ∧ j < off + xs.length
              · rw [if_pos hin, if_pos (by omega)]
                exact h3 _ (by omega)
              · rw [if_neg hin, if_neg (by omega)]
                exact hcell j hj
          · simp at h
        · simp at h
      · simp at h
    · simp at h

theorem zero_cells {t : Nat} {ti : TI} (ht : TIOK P t ti) : CellsOK S φ H w ((cellsFrom ti.zero 0 ti.size).map .d) (zeroVal ti.zero).cells := by
  have hc := ht.const
  have hs := ht.size
  have hz : FZ S w ti.zero (zeroVal ti.zero) := fz_zero hc
  generalize hzz : ti.zero = z at *
  cases z with
  | agg cs =>
    simp only [zeroVal, Value.cells, D.cells] at hs ⊢
    refine ⟨by simp [cellsFrom_length, ← hs], fun j hj => ?_⟩
    simp only [List.length_map, cellsFrom_length] at hj
    have hjl : j < (cellsFrom (D.agg cs) 0 ti.size).length := by rw [cellsFrom_length]; exact hj
    have e : ((cellsFrom (D.agg cs) 0 ti.size).map I.d).getD j .junk = .d (cs.getD j .nil) := by
      have := cellsFrom_getD (D.agg cs) 0 ti.size j hj
      simp only [List.getD, List.getElem?_map, List.getElem?_eq_getElem hjl, Option.map_some, Option.getD_some] at this ⊢
      rw [this]
      simp [D.cellAt]
    rw [e]
    cases hz with
    | agg hl h1 hj' =>
      have := hj' j (by omega)
      exact ⟨this.one (h1 _ (getD_mem (by omega))), .d this⟩
  | _ =>
    first
      | (simp [constD, const1] at hc; done)
      | (simp only [D.cells, List.length_cons, List.length_nil] at hs
         have ho := hz.one rfl
         have hcell : ∀ v : Value, v.oneCell' = true → v.cells = #[v] := fun v hv => by cases v <;> first | rfl | simp [Value.oneCell'] at hv
         rw [hcell _ ho, ← hs]
         refine ⟨by simp [cellsFrom], fun j hj => ?_⟩
         simp [cellsFrom] at hj
         subst hj
         exact ⟨ho, .d hz⟩)

theorem CellsOK.agg {cs : List I} {arr : Array Value} (h : CellsOK S φ H w cs arr) (h1 : allOne cs) : V S φ H w (mkAgg cs) (.agg arr) := by
  have := V.mkAgg (S := S) (φ := φ) (H := H) (w := w) (cs := cs) (n := cs.length) (f := fun j => arr.getD j undef) rfl h1 (fun j hj => (h.2 j hj).1) (fun j hj => (h.2 j hj).2)
  have e : ((List.range cs.length).map fun j => arr.getD j undef).toArray = arr := by
    apply Array.ext
    · simp [h.1]
    · intro i h1 h2
      simp [Array.getD, h2]
  rwa [e] at this

theorem run_mapM_list {α β : Type} (l : List α) (f : α → Sem β) (g : α → β) (h : ∀ x ∈ l, ∀ w : World, (f x).run P w = .ok (g x) w) (w : World) : (l.mapM f).run P w = .ok (l.map g) w := by
  induction l with
  | nil => simp
  | cons x r ih =>
    simp only [List.mapM_cons, Sem.run_bind, h x (by simp), Result.andThen_ok, ih (fun y hy => h y (List.mem_cons_of_mem _ hy)), Sem.run_pure, List.map_cons]
theorem run_mapM {α β : Type} (l : Array α) (f : α → Sem β) (g : α → β) (h : ∀ x ∈ l, ∀ w : World, (f x).run P w = .ok (g x) w) (w : World) : (l.mapM f).run P w = .ok (l.map g) w := by
  rw [Array.mapM_eq_mapM_toList, Sem.run_map, run_mapM_list l.toList f g (fun x hx => h x (by simpa using hx))]
  simp only [Result.andThen_ok]
  rw [← Array.toList_map]

theorem sBuild_sound (hT : TOK P T) {t : Nat} {parts : List (Nat × I)} {vps : List (Nat × Value)} (hl : parts.length = vps.length)
    (hv : ∀ (j i : Nat) (x : I), parts[j]? = some (i, x) → ∃ v : Value, vps[j]? = some (i, v) ∧ V S φ H w x v) {vc : Prop} {y : I} (h : sBuild T t parts = some (vc, y)) (hvc : vc) :
    ∃ v, V S φ H w y v ∧ ∀ w2, (Instr.build t vps.toArray).run P w2 = .ok v w2 := by
  unfold sBuild at h
  split at h
  · rename_i ti hti
    have ht := hT _ _ hti
    split at h
    · rename_i n e hy
      split at h
      · rename_i ei hei
        split at h
        · rename_i vc' cs hf
          simp only [Option.some.injEq, Prod.mk.injEq] at h
          obtain ⟨rfl, rfl⟩ := h
          obtain ⟨hvc1, hone⟩ := hvc
          obtain ⟨arr, hfill, hok⟩ := fillI_sound hT (fun i => some (i * ei.size, ei.size)) (by
            intro i off ft fi h1 h2
            rw [arrF_get] at h1
            split at h1
            · simp only [Option.some.injEq, Prod.mk.injEq] at h1
              obtain ⟨rfl, rfl⟩ := h1
              rw [hei] at h2
              obtain rfl := Option.some.inj h2
              rfl
            · simp at h1) parts vps hl hv _ _ (zero_cells ht) hf hvc1
          refine ⟨.agg arr, hok.agg hone, fun w2 => ?_⟩
          simp only [Instr.build, Sem.run_bind, ht.run_zero, Result.andThen_ok, run_underlying (ht.und_array hy), (hT _ _ hei).run_sizeOf, List.toList_toArray, hfill, Sem.run_pure]
        · simp at h
      · simp at h
    · rename_i fs hy
      obtain ⟨fields, hu, rfl⟩ := ht.und_struct hy
      split at h
      · rename_i vc' cs hf
        simp only [Option.some.injEq, Prod.mk.injEq] at h
        obtain ⟨rfl, rfl⟩ := h
        obtain ⟨hvc1, hone, hall⟩ := hvc
        have hm : ∀ w2 : World, (fields.mapM fun f => do pure (f.offset, ← sizeOf f.type) : Sem (Array (Nat × Nat))).run P w2 = .ok (fields.map fun f => (f.offset, ((T f.type).map TI.size).getD 0)) w2 := by
          intro w2
          refine run_mapM _ _ _ (fun f hf => ?_) w2
          intro w2
          simp only [List.all_eq_true, List.mem_map, Option.isSome_iff_exists] at hall
          obtain ⟨fi, hfi⟩ := hall (f.offset, f.type) ⟨f, by simpa using hf, rfl⟩
          simp [(hT _ _ hfi).run_sizeOf, hfi]
        obtain ⟨arr, hfill, hok⟩ := fillI_sound hT (fun i => (fields.map fun f => (f.offset, ((T f.type).map TI.size).getD 0))[i]?) (by
          intro i off ft fi h1 h2
          simp only [List.getElem?_map, Option.map_eq_some_iff] at h1
          obtain ⟨fd, hfd, he⟩ := h1
          simp only [Prod.mk.injEq] at he
          obtain ⟨rfl, rfl⟩ := he
          have hfd' : fields[i]? = some fd := by simpa using hfd
          simp [hfd', h2]) parts vps hl hv _ _ (zero_cells ht) hf hvc1
        refine ⟨.agg arr, hok.agg hone, fun w2 => ?_⟩
        simp only [Instr.build, Sem.run_bind, ht.run_zero, Result.andThen_ok, run_underlying hu, hm, List.toList_toArray, hfill, Sem.run_pure]
      · simp at h
    · simp at h
  · simp at h

/-! ### Small ones -/
def sLen (T : Nat → Option TI) (H : List R) (t : Nat) (x : I) : Option (Prop × I) :=
  match T t with
  | some ti =>
    match ti.ty with
    | .slice _ =>
      match x with
      | .d xd => some (xd.isSl, .d (.int .i64 (xd.elems.length : Nat)))
      | .sl i g k lo n =>
        match H[i]? with
        | some (.row g' k' _ _) => some (g = g' ∧ k = k', .d (.int .i64 (n : Nat)))
        | _ => none
      | _ => none
    | .array n _ => some (InK .i64 n, .d (.int .i64 (n : Nat)))
    | _ => none
  | none => none

theorem inK_len {n : Nat} (h : n ≤ lim) : InK .i64 (n : Int) := by
  unfold lim at h
  refine ⟨?_, ?_⟩ <;> simp [IntKind.min, IntKind.max, IntKind.bits, IntKind.signed] <;> omega

theorem sLen_sound (hT : TOK P T) {t ty : Nat} {x : I} {vx : Value} (hx : V S φ H w x vx) {vc : Prop} {y : I} (h : sLen T H t x = some (vc, y)) (hvc : vc) :
    ∃ v, V S φ H w y v ∧ ∀ w2, (Builtin.len_ #[t] ty #[vx]).run P w2 = .ok v w2 := by
  unfold sLen at h
  split at h
  · rename_i ti hti
    have ht := hT _ _ hti
    split at h
    · rename_i e hy
      have hu := ht.und_slice hy
      split at h
      · simp only [Option.some.injEq, Prod.mk.injEq] at h
        obtain ⟨rfl, rfl⟩ := h
        obtain ⟨a, cap, rfl, hlim⟩ := hx.fz.slice_inv hvc
        exact ⟨_, .d (.int (inK_len hlim)), fun w2 => by simp [Builtin.len_, run_underlying hu, goInt]⟩
      · rename_i i g k lo n
        split at h
        · rename_i g' k' dp l hroot
          simp only [Option.some.injEq, Prod.mk.injEq] at h
          obtain ⟨rfl, rfl⟩ := h
          obtain ⟨rfl, rfl⟩ := hvc
          cases hx with
          | sl hlt hg hrel ho =>
            obtain ⟨hsl, hle⟩ := hrel dp l hroot
            rcases hsl with ⟨hfp, rfl, rfl, rfl⟩ | ⟨b, rest, cap, arr, ty, a, hfp, rfl, hn, hc, hlim, hb, hfit⟩
            · exact ⟨_, .d (.int (inK_len (Nat.zero_le _))), fun w2 => by simp [Builtin.len_, run_underlying hu, goInt]⟩
            · exact ⟨_, .d (.int (inK_len hlim)), fun w2 => by simp [Builtin.len_, run_underlying hu, goInt]⟩
        · simp at h
      · simp at h
    · rename_i n e hy
      have hu := ht.und_array hy
      simp only [Option.some.injEq, Prod.mk.injEq] at h
      obtain ⟨rfl, rfl⟩ := h
      exact ⟨_, .d (.int hvc), fun w2 => by simp [Builtin.len_, run_underlying hu, goInt]⟩
    · simp at h
  · simp at h

def sConv (T : Nat → Option TI) (src dst : Nat) (x : I) : Option (Prop × I) :=
  match T src, T dst, x with
  | some si, some di, .d xd =>
    match si.ty, di.ty with
    | .int k, .int k' => some (xd.isInt k ∧ InK k' xd.toInt, .d (.int k' xd.toInt))
    | _, _ => none
  | _, _, _ => none

theorem sConv_sound (hT : TOK P T) {src dst : Nat} {x : I} {vx : Value} (hx : V S φ H w x vx) {vc : Prop} {y : I} (h : sConv T src dst x = some (vc, y)) (hvc : vc) :
    ∃ v, V S φ H w y v ∧ ∀ w2, (convert src dst vx).run P w2 = .ok v w2 := by
  unfold sConv at h
  split at h
  · rename_i si di xd hsi hdi
    split at h
    · rename_i k k' hk hk'
      simp only [Option.some.injEq, Prod.mk.injEq] at h
      obtain ⟨rfl, rfl⟩ := h
      obtain ⟨_, rfl, _⟩ := hx.fz.int_inv hvc.1
      refine ⟨_, .d (.int hvc.2), fun w2 => ?_⟩
      simp only [convert, Sem.run_bind, run_underlying ((hT _ _ hsi).und_int hk), run_underlying ((hT _ _ hdi).und_int hk'), Result.andThen_ok, Conv.intToInt, Sem.run_pure, wrap_in hvc.2]
    · simp at h
  · simp at h

def sUn (op : UnOp) (x : I) : Option (Prop × I) :=
  match op, x with
  | .not, .d xd => some (xd.isBool, .d (.bool (!xd.toBool)))
  | .neg, .d xd => some (xd.isInt .i64 ∧ InK .i64 (- xd.toInt), .d (.int .i64 (- xd.toInt)))
  | _, _ => none

theorem sUn_sound {op : UnOp} {x : I} {vx : Value} (hx : V S φ H w x vx) {vc : Prop} {y : I} (h : sUn op x = some (vc, y)) (hvc : vc) :
    ∃ v, V S φ H w y v ∧ ∀ w2, (Op.unary op vx).run P w2 = .ok v w2 := by
  unfold sUn at h
  split at h
  · simp only [Option.some.injEq, Prod.mk.injEq] at h
    obtain ⟨rfl, rfl⟩ := h
    obtain ⟨_, rfl⟩ := hx.fz.bool_inv hvc
    exact ⟨_, .d .bool, fun w2 => by simp [Op.unary]⟩
  · simp only [Option.some.injEq, Prod.mk.injEq] at h
    obtain ⟨rfl, rfl⟩ := h
    obtain ⟨_, rfl, _⟩ := hx.fz.int_inv hvc.1
    refine ⟨_, .d (.int hvc.2), fun w2 => ?_⟩
    simp only [Op.unary, Op.intArith, Sem.run_pure, Int.zero_sub, wrap_in hvc.2]
  · simp at h

def sMM (b : Builtin) (x y : I) : Option (Prop × I) :=
  match b, x, y with
  | .min, .d x, .d y => some (x.isInt .i64 ∧ y.isInt .i64, .d (.int .i64 (if y.toInt < x.toInt then y.toInt else x.toInt)))
  | .max, .d x, .d y => some (x.isInt .i64 ∧ y.isInt .i64, .d (.int .i64 (if x.toInt < y.toInt then y.toInt else x.toInt)))
  | _, _, _ => none

theorem sMM_sound {b : Builtin} {x y : I} {vx vy : Value} (hx : V S φ H w x vx) (hy : V S φ H w y vy) {vc : Prop} {z : I} (h : sMM b x y = some (vc, z)) (hvc : vc) (ts : Array TypeId) (ty : TypeId) :
    ∃ v, V S φ H w z v ∧ ∀ (cs : Array Bool) w2, (builtin b ts ty cs #[vx, vy]).run P w2 = .ok (.value v) w2 := by
  unfold sMM at h
  split at h
  all_goals simp only [Option.some.injEq, Prod.mk.injEq, reduceCtorEq] at h
  all_goals
    obtain ⟨rfl, rfl⟩ := h
    obtain ⟨_, rfl, k1⟩ := hx.fz.int_inv hvc.1
    obtain ⟨_, rfl, k2⟩ := hy.fz.int_inv hvc.2
    refine ⟨_, .d (.int (by split <;> assumption)), fun cs w2 => ?_⟩
    simp [builtin, run_min_int2, run_max_int2]

def sExtract (x : I) (j : Nat) : Option (Prop × I) :=
  match x with
  | .tup vs => some (j < vs.length, vs.getD j .junk)
  | .d xd => some (xd.isTup xd.tupLen ∧ j < xd.tupLen, .d (xd.tupAt j))
  | _ => none

theorem sExtract_sound {x : I} {j : Nat} {vx : Value} (hx : V S φ H w x vx) {vc : Prop} {z : I} (h : sExtract x j = some (vc, z)) (hvc : vc) :
    ∃ v, V S φ H w z v ∧ ∀ w2, (Instr.extract vx j).run P w2 = .ok v w2 := by
  unfold sExtract at h
  split at h
  · simp only [Option.some.injEq, Prod.mk.injEq] at h
    obtain ⟨rfl, rfl⟩ := h
    cases hx with
    | @tup _ vs hl hj =>
      refine ⟨_, hj j hvc, fun w2 => ?_⟩
      simp [Instr.extract, Array.getD, show j < vs.size by omega, Array.getElem?_eq_getElem (show j < vs.size by omega)]
  · rename_i xd
    simp only [Option.some.injEq, Prod.mk.injEq] at h
    obtain ⟨rfl, rfl⟩ := h
    have hz := hx.fz
    cases hz <;> simp [D.isTup, D.tupLen] at hvc
    rename_i xs vs hl hj
    refine ⟨_, .d (hj j hvc), fun w2 => ?_⟩
    simp [Instr.extract, Array.getD, show j < vs.size by omega, Array.getElem?_eq_getElem (show j < vs.size by omega)]
  · simp at h

def sPick (c a b : I) (ca cb : Prop) : Option (Prop × I) :=
  match c, a, b with
  | .d c, .d a, .d b => some (c.isBool ∧ (c.toBool = true → ca ∧ a.isBool) ∧ (c.toBool = false → cb ∧ b.isBool), .d (.bool (if c.toBool = true then a.toBool else b.toBool)))
  | _, _, _ => none

def sNil (H : List R) (x : I) : Option (Prop × I) :=
  match x with
  | .d xd => some (xd.isPtr, .d xd)
  | .ptr i off =>
    match H[i]? with
    | some (.box _) => some (True, .ptr i off)
    | _ => none
  | _ => none

theorem sNil_sound {x : I} {vx : Value} (hx : V S φ H w x vx) {vc : Prop} {z : I} (h : sNil H x = some (vc, z)) (hvc : vc) : V S φ H w z vx ∧ ∃ a, vx = .pointer (some a) := by
  unfold sNil at h
  split at h
  · simp only [Option.some.injEq, Prod.mk.injEq] at h
    obtain ⟨rfl, rfl⟩ := h
    obtain ⟨b, off, rfl, _⟩ := hx.fz.ptr_inv hvc
    exact ⟨hx, _, rfl⟩
  · split at h
    · rename_i cs hroot
      simp only [Option.some.injEq, Prod.mk.injEq] at h
      obtain ⟨rfl, rfl⟩ := h
      cases hx with
      | ptr hlt hrel ho =>
        obtain ⟨b, hb, rfl⟩ := hrel cs hroot
        exact ⟨.ptr hlt hrel ho, _, rfl⟩
    · simp at h
  · simp at h

end Go.VL

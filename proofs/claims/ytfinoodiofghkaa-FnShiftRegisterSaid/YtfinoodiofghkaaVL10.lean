/- Part 10: operations that make memory: boxes, literals of slices. Conditions: none; lemmas. -/
import Derived.Test.YtfinoodiofghkaaVL9
import Derived.Laws.MakeOwn
import Derived.Laws.CopyOwn
set_option linter.unusedVariables false
set_option linter.unusedSimpArgs false
namespace Go.VL

variable {P : Program} {S : Nat → Prop} {φ : List (List Nat)} {H : List R} {w : World} {T : Nat → Option TI} {fr : Fr} {a : Act}

/-- What an operation that touches memory leaves. -/
def StepOK (S : Nat → Prop) (φ : List (List Nat)) (H : List R) (w : World) (r : Result Next) (x : I) (H' : List R) : Prop :=
  ∃ v w' φ', (r = .ok (.value v) w' ∨ (r = .ok .skip w' ∧ v = undef)) ∧ Sim S φ' H' w' ∧ Tr H.length S φ H w S φ' H' w' ∧ Ext S φ w S φ' w' ∧ V S φ' H' w' x v

theorem upd_alloc (s : Sim S φ H w) (o : Obj) : Upd φ w H.length [w.heap.size] (w.alloc o) :=
  ⟨rfl, rfl, rfl, by simp, fun b hb _ => heap_alloc_old w o hb, by simp, fun b hb => by simp at hb; subst hb; exact ⟨.inr (Nat.le_refl _), by simp⟩⟩

theorem upd_drew_alloc (s : Sim S φ H w) (o : Obj) : Upd φ w H.length [w.heap.size] (w.drew.alloc o) :=
  ⟨rfl, rfl, rfl, by simp, fun b hb _ => heap_alloc_old w.drew o hb, by simp, fun b hb => by simp at hb; subst hb; exact ⟨.inr (Nat.le_refl _), by simp⟩⟩

theorem getD_push_new (s : Sim S φ H w) (fp : List Nat) : (φ ++ [fp]).getD H.length [] = fp := by
  rw [getD_push, s.len, if_pos rfl]

theorem rget_push_new (H : List R) (r : R) : (H ++ [r])[H.length]? = some r := by simp

/-- A new box. -/
theorem new_box (s : Sim S φ H w) {cs : List I} {arr : Array Value} (h : CellsOK S φ H w cs arr) (ty : TypeId) :
    ∃ φ', Sim S φ' (H ++ [.box cs]) (w.alloc (.cells arr ty)) ∧ Tr H.length S φ H w S φ' (H ++ [.box cs]) (w.alloc (.cells arr ty)) ∧ Ext S φ w S φ' (w.alloc (.cells arr ty)) ∧
      V S φ' (H ++ [.box cs]) (w.alloc (.cells arr ty)) (.ptr H.length 0) (.pointer (some ⟨w.heap.size, 0, none⟩)) := by
  obtain ⟨h1, h2, h3⟩ := s.push (r' := .box cs) (upd_alloc s (.cells arr ty)) (fun t => ⟨w.heap.size, arr, ty, rfl, heap_alloc_new w _, h.1, fun j hj => ⟨(h.2 j hj).1, (h.2 j hj).2.tr t⟩⟩)
  refine ⟨_, h1, h2, h3, .ptr (by simp) (fun cs' hcs => ⟨w.heap.size, getD_push_new s _, rfl⟩) rfl⟩

/-- A new row. -/
theorem new_row (s : Sim S φ H w) {k : Nat} {dp : Bool} {l : List D} {arr : Array Value} {cap : Nat} (hk : 0 < k) (he : ∀ x ∈ l, x.cells.length = k) (h1 : ∀ c ∈ flat l, c.one = true)
    (hlim : l.length ≤ lim) (hn : l.length ≤ cap) (hcap : cap ≤ maxLen) (hsz : cap * k ≤ arr.size) (ty : TypeId) {w1 : World} (u : Upd φ w H.length [w.heap.size] w1) (hb : w1.heap[w.heap.size]? = some (.cells arr ty (0, 0)))
    (hr : RowRel S w dp (flat l) arr []) :
    ∃ φ', Sim S φ' (H ++ [.row 0 k dp l]) w1 ∧ Tr H.length S φ H w S φ' (H ++ [.row 0 k dp l]) w1 ∧ Ext S φ w S φ' w1 ∧
      V S φ' (H ++ [.row 0 k dp l]) w1 (.sl H.length 0 k 0 l.length) (.slice (some ⟨w.heap.size, 0, none⟩) l.length cap) := by
  have hm := Nat.mul_le_mul_right k hn
  obtain ⟨g1, g2, g3⟩ := s.push (r' := .row 0 k dp l) u (fun t => ⟨hk, he, h1, hlim, .inr ⟨w.heap.size, [], arr, ty, rfl, hb, by omega, hr.keep t.sub t.keep (by simp)⟩⟩)
  refine ⟨_, g1, g2, g3, .sl (by simp) (by simp) (fun dp' l' hl' => ?_) rfl⟩
  rw [rget_push_new] at hl'
  simp at hl'
  obtain ⟨rfl, rfl⟩ := hl'
  exact ⟨.inr ⟨w.heap.size, [], cap, arr, ty, _, getD_push_new s _, rfl, hn, hcap, hlim, hb, fun _ => ⟨by simp, by omega⟩⟩, by simp⟩

/-- A new row without a block: the nil slice. -/
theorem new_row0 (s : Sim S φ H w) {k : Nat} (dp : Bool) (hk : 0 < k) :
    ∃ φ', Sim S φ' (H ++ [.row 0 k dp []]) w ∧ Tr H.length S φ H w S φ' (H ++ [.row 0 k dp []]) w ∧ Ext S φ w S φ' w ∧
      V S φ' (H ++ [.row 0 k dp []]) w (.sl H.length 0 k 0 0) (.slice none 0 0) := by
  obtain ⟨g1, g2, g3⟩ := s.push (w' := w) (r' := .row 0 k dp []) (fp' := []) ⟨rfl, rfl, rfl, Nat.le_refl _, fun _ _ _ => rfl, by simp, by simp⟩ (fun t => ⟨hk, by simp, by simp [flat], Nat.zero_le _, .inl ⟨rfl, rfl⟩⟩)
  refine ⟨_, g1, g2, g3, .sl (by simp) (by simp) (fun dp' l' hl' => ⟨.inl ⟨getD_push_new s _, rfl, rfl, rfl⟩, by simp⟩) rfl⟩

/-! ### Boxes -/
def sBox (T : Nat → Option TI) (H : List R) (e : Nat) (x : I) : Option (Prop × I × List R) :=
  match T e with
  | some ti =>
    match cellsI ti x with
    | some (vc, cs) => some (vc, .ptr H.length 0, H ++ [.box cs])
    | none => none
  | none => none

theorem sBox_sound (s : Sim S φ H w) {e : Nat} {x : I} {vx : Value} (hx : V S φ H w x vx) {vc : Prop} {y : I} {H' : List R} (h : sBox T H e x = some (vc, y, H')) (hvc : vc) :
    StepOK S φ H w (((do pure (.value (← Instr.box e vx)) : Sem Next)).run P w) y H' := by
  unfold sBox at h
  split at h
  · rename_i ti hti
    split at h
    · rename_i vc' cs hc
      simp only [Option.some.injEq, Prod.mk.injEq] at h
      obtain ⟨rfl, rfl, rfl⟩ := h
      obtain ⟨h1, h2, h3⟩ := cellsI_sound hx hc hvc
      obtain ⟨φ', a1, a2, a3, a4⟩ := new_box s (cs := cs) (arr := vx.cells) ⟨by omega, fun j hj => h3 j (by omega)⟩ e
      exact ⟨_, _, φ', .inl (by simp [Instr.box, newVar, newRow]), a1, a2, a3, a4⟩
    · simp at h
  · simp at h

def sAlloc (T : Nat → Option TI) (H : List R) (e : Nat) : Option (Prop × I × List R) :=
  match T e with
  | some ti => some (True, .ptr H.length 0, H ++ [.box ((cellsFrom ti.zero 0 ti.size).map .d)])
  | none => none

theorem sAlloc_sound (hT : TOK P T) (s : Sim S φ H w) {e : Nat} {vc : Prop} {y : I} {H' : List R} (h : sAlloc T H e = some (vc, y, H')) (hvc : vc) :
    StepOK S φ H w (((do pure (.value (← Instr.alloc e true (.tuple #[]))) : Sem Next)).run P w) y H' := by
  unfold sAlloc at h
  split at h
  · rename_i ti hti
    simp only [Option.some.injEq, Prod.mk.injEq] at h
    obtain ⟨rfl, rfl, rfl⟩ := h
    have ht := hT _ _ hti
    obtain ⟨φ', a1, a2, a3, a4⟩ := new_box s (zero_cells (S := S) (φ := φ) (H := H) (w := w) ht) e
    exact ⟨_, _, φ', .inl (by simp [Instr.alloc, newVar, newRow, ht.run_zero]), a1, a2, a3, a4⟩
  · simp at h

/-! ### Slice literals -/
def litParts (size : Nat) : Nat → List (Nat × I) → Option (Prop × List D)
  | _, [] => some (True, [])
  | i, (j, .d x) :: r =>
    match litParts size (i + 1) r with
    | some (vc, l) => some (j = i ∧ x.cells.length = size ∧ x.notTup ∧ vc, x :: l)
    | none => none
  | _, _ :: _ => none

def scalars : List D → Bool
  | [] => true
  | x :: r => x.cells.all D.scalar && scalars r

def sLit (T : Nat → Option TI) (H : List R) (t len : Nat) (parts : List (Nat × I)) : Option (Prop × I × List R) :=
  match T t with
  | some ti =>
    match ti.ty with
    | .slice e =>
      match T e with
      | some ei =>
        match litParts ei.size 0 parts with
        | some (vc, l) => some (vc ∧ l.length = len ∧ 0 < ei.size ∧ len * ei.size ≤ 1000, .sl H.length 0 ei.size 0 l.length, H ++ [.row 0 ei.size (scalars l) l])
        | none => none
      | none => none
    | _ => none
  | none => none

theorem fz_cells {x : D} {v : Value} (h : FZ S w x v) (ht : x.notTup) : v.cells.size = x.cells.length ∧ (∀ c ∈ x.cells, c.one = true) ∧ ∀ j, j < x.cells.length → FZ S w (x.cells.getD j .nil) (v.cells.getD j undef) := by
  cases h <;> simp [D.notTup] at ht
  case agg cs vs hl h1 hj => exact ⟨by simp [Value.cells, D.cells, hl], h1, hj⟩
  case raw hv =>
    have hc : v.cells = #[v] := by cases v <;> first | rfl | simp [rawOk] at hv
    rw [hc]
    exact ⟨rfl, by simp [D.cells, D.one], fun j hj => by simp [D.cells] at hj; subst hj; exact .raw hv⟩
  all_goals
    refine ⟨rfl, by simp [D.cells, D.one], fun j hj => ?_⟩
    simp [D.cells] at hj
    subst hj
    simp only [D.cells, Value.cells]
    first
      | exact .int (by assumption)
      | exact .bool
      | exact .nil
      | exact .lst0 (by assumption)
      | exact .lst _ (by assumption) (by assumption) (by assumption) (by assumption) (by assumption) (by assumption) (by assumption) (by assumption)
      | exact .ptr _ (by assumption) (by assumption) (by assumption) (by assumption)
      | exact .fn (by assumption) (by assumption)

theorem scalars_cells {l : List D} (h : scalars l = true) : ∀ c ∈ flat l, c.scalar = true := by
  induction l with
  | nil => simp [flat]
  | cons x r ih =>
    simp only [scalars, Bool.and_eq_true, List.all_eq_true] at h
    intro c hc
    simp only [flat, List.flatMap_cons, List.mem_append] at hc
    rcases hc with hc | hc
    · exact h.1 c hc
    · exact ih h.2 c hc

theorem fz_ow {x : D} {v : Value} (h : FZ S w x v) (hx : x.scalar = true) : OW w x v [] := by
  cases h <;> simp [D.scalar] at hx
  · exact .int (by assumption)
  · exact .bool
  · exact .raw (by assumption)
  · exact .nil

theorem rowRel_of_fz {l : List D} {arr : Array Value} (dp : Bool) (hd : dp = true → ∀ c ∈ l, c.scalar = true) (h : ∀ j, j < l.length → FZ S w (l.getD j .nil) (arr.getD j undef)) : RowRel S w dp l arr [] := by
  cases dp with
  | false => exact ⟨rfl, h⟩
  | true =>
    refine ⟨fun _ => [], by simp, fun j hj => fz_ow (h j hj) (hd rfl _ (getD_mem hj))⟩

/-- Filling the places of a slice literal, one after the other. -/
theorem fill_lit {size : Nat} (hs : 0 < size) : ∀ (parts : List (Nat × I)) (vps : List (Nat × Value)) (i : Nat), parts.length = vps.length → (∀ (j i : Nat) (x : I), parts[j]? = some (i, x) → ∃ v : Value, vps[j]? = some (i, v) ∧ V S φ H w x v) →
    ∀ {vc : Prop} {l : List D}, litParts size i parts = some (vc, l) → vc → ∀ (done : List D) (arr : Array Value), done.length = i * size → done.length + l.length * size ≤ arr.size →
    (∀ j, j < done.length → FZ S w (done.getD j .nil) (arr.getD j undef)) →
    ∃ arr', Instr.fill (fun i => some (i * size, size)) arr vps = some arr' ∧ arr'.size = arr.size ∧ (∀ x ∈ l, x.cells.length = size) ∧ (∀ c ∈ flat l, c.one = true) ∧
      ∀ j, j < (done ++ flat l).length → FZ S w ((done ++ flat l).getD j .nil) (arr'.getD j undef)
  | [], [], i, _, _, vc, l, h, hvc, done, arr, hd, hfit, hfz => by
    simp only [litParts, Option.some.injEq, Prod.mk.injEq] at h
    obtain ⟨_, rfl⟩ := h
    exact ⟨arr, rfl, rfl, by simp, by simp [flat], by simpa [flat] using hfz⟩
  | [], _ :: _, _, hl, _, _, _, _, _, _, _, _, _, _ => by simp at hl
  | _ :: _, [], _, hl, _, _, _, _, _, _, _, _, _, _ => by simp at hl
  | (j0, y) :: rest, (j1, v) :: vrest, i, hl, hv, vc, l, h, hvc, done, arr, hd, hfit, hfz => by
    cases y with
    | d x =>
      simp only [litParts] at h
      split at h
      · rename_i vc' l' hr
        simp only [Option.some.injEq, Prod.mk.injEq] at h
        obtain ⟨rfl, rfl⟩ := h
        obtain ⟨rfl, hxs, hnt, hvc'⟩ := hvc
        obtain ⟨v0, hv0, hx⟩ := hv 0 j0 (.d x) rfl
        simp only [List.getElem?_cons_zero, Option.some.injEq, Prod.mk.injEq] at hv0
        obtain ⟨rfl, rfl⟩ := hv0
        obtain ⟨c1, c2, c3⟩ := fz_cells hx.fz hnt
        simp only [List.length_cons, Nat.add_mul, Nat.one_mul] at hfit
        obtain ⟨f1, f2⟩ := fold_pairs v.cells (j1 * size) arr (by omega)
        have hlen1 : (done ++ x.cells).length = (j1 + 1) * size := by rw [List.length_append, hd, hxs, Nat.add_mul]; omega
        obtain ⟨arr', e1, e2, e3, e4, e5⟩ := fill_lit hs rest vrest (j1 + 1) (by simpa using hl) (fun j i x hj => hv (j + 1) i x (by simpa using hj)) hr hvc' (done ++ x.cells)
          (v.cells.zipIdx.foldl (fun cs (c, j) => cs.setIfInBounds (j1 * size + j) c) arr) hlen1 (by rw [List.length_append, f1]; omega) (by
            intro j hj
            rw [f2]
            by_cases hjd : j < done.length
            · rw [if_neg (by omega)]
              have : (done ++ x.cells).getD j .nil = done.getD j .nil := by simp [List.getD, List.getElem?_append_left hjd]
              rw [this]
              exact hfz j hjd
            · rw [List.length_append] at hj
              rw [if_pos (by omega)]
              have : (done ++ x.cells).getD j .nil = x.cells.getD (j - j1 * size) .nil := by simp [List.getD, List.getElem?_append_right (Nat.le_of_not_lt hjd), hd]
              rw [this]
              exact c3 _ (by omega))
        refine ⟨arr', ?_, by rw [e2, f1], ?_, ?_, ?_⟩
        · simp only [Instr.fill]
          rw [if_neg (by simp; omega)]
          exact e1
        · intro z hz
          rcases List.mem_cons.1 hz with rfl | hz
          · exact hxs
          · exact e3 z hz
        · intro c hc
          simp only [flat, List.flatMap_cons, List.mem_append] at hc
          rcases hc with hc | hc
          · exact c2 c hc
          · exact e4 c hc
        · have : done ++ flat (x :: l') = done ++ x.cells ++ flat l' := by simp [flat]
          rw [this]
          exact e5
      · simp at h
    | _ => simp [litParts] at h

end Go.VL

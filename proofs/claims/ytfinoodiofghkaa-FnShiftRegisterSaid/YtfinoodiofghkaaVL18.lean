/- Part 18: functions: from a body's verification condition to its contract. Conditions: none; lemmas. -/
import Derived.Test.YtfinoodiofghkaaVL17
set_option linter.unusedVariables false
set_option linter.unusedSimpArgs false
namespace Go.VL

variable {P : Program} {S : Nat → Prop} {φ : List (List Nat)} {H : List R} {w : World} {T : Nat → Option TI} {fr : Fr} {a : Act} {n : Nat}

/-! ### Results -/
/-- What the results read as. -/
def resC (T : Nat → Option TI) (H : List R) (fr : Fr) : List ResultVar → Option (Prop × List I)
  | [] => some (True, [])
  | .tmp t :: r =>
    match resC T H fr r with
    | some (vc, l) => some (vc, fr.get t :: l)
    | none => none
  | .cell a ty :: r =>
    match sLoad T H ty (fr.get a), resC T H fr r with
    | some (c, x), some (vc, l) => some (c ∧ vc, x :: l)
    | _, _ => none

def resI (T : Nat → Option TI) (H : List R) (fr : Fr) (rs : List ResultVar) : Option (Prop × I) :=
  match resC T H fr rs with
  | some (vc, [x]) => some (vc, x)
  | some (vc, l) => some (vc, .tup l)
  | none => none

def actR (tmps : Array Value) : ResultVar → Sem Value
  | .tmp t => pure (tmps.getD t undef)
  | .cell a t => do loadVar t (← asAddr (tmps.getD a undef))

theorem actR_cell {tmps : Array Value} {x : Nat} {t : TypeId} {v : Value} (h : (Instr.loadAt t (tmps.getD x undef)).run P w = .ok v w) : (actR tmps (.cell x t)).run P w = .ok v w := by
  have e : actR tmps (.cell x t) = (do loadVar t (← asAddr (tmps.getD x undef)) : Sem Value) := rfl
  rw [e]
  unfold Instr.loadAt at h
  generalize tmps.getD x undef = u at *
  have nope : ∀ {α : Type} (s : String) (k : Addr → Sem Value), ((stuck s : Sem Addr) >>= k).run P w ≠ .ok v w := fun s k hk => by
    simp only [Sem.run_bind, stuck] at hk
    cases hk
  cases u with
  | pointer a =>
    cases a with
    | some a => exact h
    | none => exact absurd h (nope (α := Value) _ _)
  | _ => exact absurd h (nope (α := Value) _ _)

theorem list_mapM_at {α β : Type} (f : α → Sem β) (g : α → β) (w : World) : ∀ (l : List α), (∀ x ∈ l, (f x).run P w = .ok (g x) w) → (l.mapM f).run P w = .ok (l.map g) w
  | [], _ => rfl
  | x :: r, h => by
    rw [List.mapM_cons]
    simp only [Sem.run_bind]
    rw [h x (by simp)]
    simp only [Result.andThen_ok, Sem.run_bind]
    rw [list_mapM_at f g w r fun y hy => h y (by simp [hy])]
    rfl
theorem run_mapM_at {α β : Type} (l : Array α) (f : α → Sem β) (g : α → β) (w : World) (h : ∀ x ∈ l, (f x).run P w = .ok (g x) w) : (l.mapM f).run P w = .ok (l.map g) w := by
  rw [Array.mapM_eq_mapM_toList, Sem.run_map, list_mapM_at f g w l.toList (fun x hx => h x (by simpa using hx))]
  simp only [Result.andThen_ok]
  rw [← Array.toList_map]

theorem resC_sound (hT : TOK P T) (s : Sim S φ H w) (hf : FrR S φ H w fr a) : ∀ {rs : List ResultVar} {vc : Prop} {l : List I}, resC T H fr rs = some (vc, l) → vc →
    l.length = rs.length ∧ ∀ j, j < rs.length → ∃ v, (actR a.tmps (rs.getD j (.tmp 0))).run P w = .ok v w ∧ V S φ H w (l.getD j .junk) v
  | [], vc, l, h, _ => by
    simp only [resC, Option.some.injEq, Prod.mk.injEq] at h
    obtain ⟨_, rfl⟩ := h
    exact ⟨rfl, by simp⟩
  | .tmp t :: r, vc, l, h, hvc => by
    simp only [resC] at h
    split at h
    · rename_i vc' l' hr
      simp only [Option.some.injEq, Prod.mk.injEq] at h
      obtain ⟨rfl, rfl⟩ := h
      obtain ⟨h1, h2⟩ := resC_sound hT s hf hr hvc
      refine ⟨by simp [h1], fun j hj => ?_⟩
      cases j with
      | zero => exact ⟨_, rfl, by simpa using hf.val t⟩
      | succ j => simpa using h2 j (by simpa using hj)
    · simp at h
  | .cell x ty :: r, vc, l, h, hvc => by
    simp only [resC] at h
    split at h
    · rename_i c y vc' l' hl hr
      simp only [Option.some.injEq, Prod.mk.injEq] at h
      obtain ⟨rfl, rfl⟩ := h
      obtain ⟨h1, h2⟩ := resC_sound hT s hf hr hvc.2
      refine ⟨by simp [h1], fun j hj => ?_⟩
      cases j with
      | zero =>
        obtain ⟨v, hv, hrun⟩ := sLoad_sound hT s (hf.val x) hl hvc.1
        exact ⟨v, by simpa using actR_cell (hrun w (Agree.refl w)), by simpa using hv⟩
      | succ j => simpa using h2 j (by simpa using hj)
    · simp at h

open Classical in
noncomputable def gR (P : Program) (w : World) (tmps : Array Value) (rv : ResultVar) : Value := if h : ∃ v, (actR tmps rv).run P w = .ok v w then Classical.choose h else undef
theorem gR_eq {tmps : Array Value} {rv : ResultVar} {v : Value} (h : (actR tmps rv).run P w = .ok v w) : gR P w tmps rv = v := by
  have he : ∃ v, (actR tmps rv).run P w = .ok v w := ⟨v, h⟩
  unfold gR
  rw [dif_pos he]
  have := h.symm.trans (Classical.choose_spec he)
  injection this with h1
  exact h1.symm

theorem resI_sound (hT : TOK P T) (s : Sim S φ H w) (hf : FrR S φ H w fr a) {fn : Func} {vc : Prop} {r : I} (h : resI T H fr fn.results.toList = some (vc, r)) (hvc : vc) : ∃ v, (results fn a.tmps).run P w = .ok v w ∧ V S φ H w r v := by
  unfold resI at h
  have main : ∀ {vc : Prop} {l : List I}, resC T H fr fn.results.toList = some (vc, l) → vc → (results fn a.tmps).run P w = .ok (if h : (fn.results.map (gR P w a.tmps)).size = 1 then (fn.results.map (gR P w a.tmps))[0] else .tuple (fn.results.map (gR P w a.tmps))) w ∧
      l.length = fn.results.size ∧ ∀ j, j < l.length → V S φ H w (l.getD j .junk) ((fn.results.map (gR P w a.tmps)).getD j undef) := by
    intro vc l hc hvc
    obtain ⟨h1, h2⟩ := resC_sound hT s hf hc hvc
    have hev : ∀ x ∈ fn.results, (actR a.tmps x).run P w = .ok (gR P w a.tmps x) w := by
      intro x hx
      obtain ⟨j, hj, rfl⟩ := Array.getElem_of_mem hx
      obtain ⟨v, hv, _⟩ := h2 j (by simpa using hj)
      have e : fn.results.toList.getD j (.tmp 0) = fn.results[j] := by simp [List.getD, hj]
      rw [e] at hv
      rw [hv, gR_eq hv]
    refine ⟨?_, by simpa using h1, fun j hj => ?_⟩
    · have er : results fn a.tmps = (do let vs ← fn.results.mapM (actR a.tmps); pure (if h : vs.size = 1 then vs[0] else .tuple vs) : Sem Value) := rfl
      rw [er]
      simp only [Sem.run_bind]
      rw [run_mapM_at fn.results _ (gR P w a.tmps) w (fun x hx => hev x hx)]
      simp only [Result.andThen_ok, Sem.run_pure]
    · have hj' : j < fn.results.toList.length := by omega
      obtain ⟨v, hv, hV⟩ := h2 j hj'
      have hj2 : j < fn.results.size := by simpa using hj'
      have e : fn.results.toList.getD j (.tmp 0) = fn.results[j] := by simp [List.getD, hj2]
      rw [e] at hv
      have e2 : (fn.results.map (gR P w a.tmps)).getD j undef = v := by
        simp [Array.getD, hj2, gR_eq hv]
      rw [e2]
      exact hV
  split at h
  · rename_i vc' x hc
    simp only [Option.some.injEq, Prod.mk.injEq] at h
    obtain ⟨rfl, rfl⟩ := h
    obtain ⟨m1, m2, m3⟩ := main hc hvc
    have hs : (fn.results.map (gR P w a.tmps)).size = 1 := by simpa using m2.symm
    rw [dif_pos hs] at m1
    refine ⟨_, m1, ?_⟩
    have := m3 0 (by simp)
    have e : (fn.results.map (gR P w a.tmps)).getD 0 undef = (fn.results.map (gR P w a.tmps))[0] := by simp [Array.getD, hs]
    rw [e] at this
    simpa using this
  · rename_i vc' l hne hc
    simp only [Option.some.injEq, Prod.mk.injEq] at h
    obtain ⟨rfl, rfl⟩ := h
    obtain ⟨m1, m2, m3⟩ := main hc hvc
    have hs : ¬ (fn.results.map (gR P w a.tmps)).size = 1 := by
      intro h1
      have hl1 : l.length = 1 := by rw [m2]; simpa using h1
      match l, hne, hl1 with
      | [x], hne, _ => exact hne x rfl
    rw [dif_neg hs] at m1
    exact ⟨_, m1, .tup (by simp [m2]) m3⟩
  · simp at h

/-! ### Packing what is owned -/
def free1 : D → Bool
  | .int _ _ => true
  | .bool _ => true
  | .raw _ => true
  | .nil => true
  | _ => false
def free2 : D → Bool
  | .agg cs => cs.all free1
  | x => free1 x
def free3 : D → Bool
  | .tup xs => xs.all free2
  | x => free2 x

def pkL (f : I → Option (Prop × D × List Nat)) : List I → Option (Prop × List D × List Nat)
  | [] => some (True, [], [])
  | x :: r =>
    match f x, pkL f r with
    | some (vc, d, l), some (vc', ds, l') => some (vc ∧ vc', d :: ds, l ++ l')
    | _, _ => none
def ones : List D → Prop
  | [] => True
  | x :: r => x.one = true ∧ ones r

def pk (H : List R) : Nat → I → Option (Prop × D × List Nat)
  | _, .d x => some (free3 x = true, x, [])
  | _, .sl i g k lo m =>
    match H[i]? with
    | some (.row g' k' true l) => some (g = g' ∧ k = k' ∧ lo = 0 ∧ m = l.length, .lst k l, [i])
    | _ => none
  | f + 1, .agg cs =>
    match pkL (pk H f) cs with
    | some (vc, ds, l) => some (vc ∧ ones ds, .agg ds, l)
    | none => none
  | f + 1, .tup cs =>
    match pkL (pk H f) cs with
    | some (vc, ds, l) => some (vc, .tup ds, l)
    | none => none
  | _, .own i =>
    match H[i]? with
    | some (.val x) => some (True, x, [i])
    | _ => none
  | _, _ => none

theorem free1_ow {x : D} {v : Value} (h : FZ S w x v) (hx : free1 x = true) : OW w x v [] := by
  cases h <;> simp [free1] at hx
  · exact .int (by assumption)
  · exact .bool
  · exact .raw (by assumption)
  · exact .nil
theorem flatMap_nil (m : Nat) : (List.range m).flatMap (fun _ => ([] : List Nat)) = [] := by simp
theorem free2_ow {x : D} {v : Value} (h : FZ S w x v) (hx : free2 x = true) : OW w x v [] := by
  cases x with
  | agg cs =>
    cases h with
    | agg hl h1 hj =>
      simp only [free2, List.all_eq_true] at hx
      have := OW.agg (w := w) (cs := cs) (fun _ => []) hl h1 (fun j hj' => free1_ow (hj j hj') (hx _ (getD_mem hj')))
      rwa [flatMap_nil] at this
  | _ => exact free1_ow h hx
theorem free3_ow {x : D} {v : Value} (h : FZ S w x v) (hx : free3 x = true) : OW w x v [] := by
  cases x with
  | tup cs =>
    cases h with
    | tup hl hj =>
      simp only [free3, List.all_eq_true] at hx
      have := OW.tup (w := w) (xs := cs) (fun _ => []) hl (fun j hj' => free2_ow (hj j hj') (hx _ (getD_mem hj')))
      rwa [flatMap_nil] at this
  | _ => exact free2_ow h hx

def fps (φ : List (List Nat)) (ids : List Nat) : List Nat := ids.flatMap fun i => φ.getD i []

theorem pkL_sound {f : I → Option (Prop × D × List Nat)} (hf : ∀ x v vc d l, V S φ H w x v → f x = some (vc, d, l) → vc → OW w d v (fps φ l)) :
    ∀ (cs : List I) {vc : Prop} {ds : List D} {l : List Nat}, pkL f cs = some (vc, ds, l) → vc → ds.length = cs.length ∧
      ∃ F : Nat → List Nat, fps φ l = (List.range cs.length).flatMap F ∧ ∀ j, j < cs.length → ∀ v, V S φ H w (cs.getD j .junk) v → OW w (ds.getD j .nil) v (F j)
  | [], vc, ds, l, h, hvc => by
    simp only [pkL, Option.some.injEq, Prod.mk.injEq] at h
    obtain ⟨_, rfl, rfl⟩ := h
    exact ⟨rfl, fun _ => [], by simp [fps], by simp⟩
  | x :: r, vc, ds, l, h, hvc => by
    simp only [pkL] at h
    split at h
    · rename_i vc1 d l1 vc2 ds' l2 h1 h2
      simp only [Option.some.injEq, Prod.mk.injEq] at h
      obtain ⟨rfl, rfl, rfl⟩ := h
      obtain ⟨e1, F, e2, e3⟩ := pkL_sound hf r h2 hvc.2
      refine ⟨by simp [e1], fun j => match j with | 0 => fps φ l1 | j + 1 => F j, ?_, fun j hj v hv => ?_⟩
      · simp only [List.length_cons, List.range_succ_eq_map, List.flatMap_cons, List.flatMap_map]
        rw [← e2]
        simp [fps]
      · cases j with
        | zero => exact hf x v vc1 d l1 (by simpa [List.getD] using hv) h1 hvc.1
        | succ j => simpa [List.getD] using e3 j (by simpa using hj) v (by simpa [List.getD] using hv)
    · simp at h

theorem ones_mem : ∀ {ds : List D}, ones ds → ∀ c ∈ ds, c.one = true
  | [], _, c, hc => by simp at hc
  | x :: r, h, c, hc => by
    rcases List.mem_cons.1 hc with rfl | hc
    · exact h.1
    · exact ones_mem h.2 c hc

theorem pk_sound (s : Sim S φ H w) : ∀ (f : Nat) {x : I} {v : Value} {vc : Prop} {d : D} {l : List Nat}, V S φ H w x v → pk H f x = some (vc, d, l) → vc → OW w d v (fps φ l) := by
  have row : ∀ {i g k lo m : Nat} {v : Value} {vc : Prop} {d : D} {l : List Nat}, V S φ H w (.sl i g k lo m) v →
      (match H[i]? with | some (.row g' k' true l) => some (g = g' ∧ k = k' ∧ lo = 0 ∧ m = l.length, D.lst k l, [i]) | _ => none) = some (vc, d, l) → vc → OW w d v (fps φ l) := by
    intro i g k lo m v vc d l hv h hvc
    split at h
    · rename_i g' k' L hi
      simp only [Option.some.injEq, Prod.mk.injEq] at h
      obtain ⟨rfl, rfl, rfl⟩ := h
      obtain ⟨rfl, rfl, rfl, rfl⟩ := hvc
      have hfp : fps φ [i] = φ.getD i [] := by simp [fps]
      rw [hfp]
      cases hv with
      | sl hlt hg hrel h1 =>
        obtain ⟨hsl, hle⟩ := hrel true L hi
        obtain ⟨hk, he, ho, hlim, hr⟩ := s.rel i _ hi
        rcases hsl with ⟨hfp, _, hl0, rfl⟩ | ⟨b, rest, cap, arr, ty, a, hfp, rfl, hn, hcp, hlim', hb, hfit⟩
        · rw [hfp, List.eq_nil_of_length_eq_zero hl0]
          exact .lst0 hk
        · obtain ⟨rfl, hfit'⟩ := hfit (.inr rfl)
          rcases hr with ⟨e, _⟩ | ⟨b', rest', arr', ty', e, hb', hsz, F, rfl, hF⟩
          · rw [hfp] at e; simp at e
          · rw [hfp] at e
            simp at e
            obtain ⟨rfl, rfl⟩ := e
            rw [hb] at hb'
            simp at hb'
            obtain ⟨rfl, rfl⟩ := hb'
            rw [hfp]
            have := OW.lst (w := w) F hk he ho hn hcp hlim' hb (by omega) hF
            simpa using this
    · simp at h
  have own : ∀ {i : Nat} {v : Value} {vc : Prop} {d : D} {l : List Nat}, V S φ H w (.own i) v →
      (match H[i]? with | some (.val x) => some (True, x, [i]) | _ => none) = some (vc, d, l) → vc → OW w d v (fps φ l) := by
    intro i v vc d l hv h hvc
    split at h
    · rename_i x hi
      simp only [Option.some.injEq, Prod.mk.injEq] at h
      obtain ⟨rfl, rfl, rfl⟩ := h
      have hfp : fps φ [i] = φ.getD i [] := by simp [fps]
      rw [hfp]
      cases hv with
      | own hlt hrel => exact hrel x hi
    · simp at h
  have dat : ∀ {x : D} {v : Value} {vc : Prop} {d : D} {l : List Nat}, V S φ H w (.d x) v → some (free3 x = true, x, ([] : List Nat)) = some (vc, d, l) → vc → OW w d v (fps φ l) := by
    intro x v vc d l hv h hvc
    simp only [Option.some.injEq, Prod.mk.injEq] at h
    obtain ⟨rfl, rfl, rfl⟩ := h
    exact free3_ow hv.fz hvc
  intro f
  induction f with
  | zero =>
    intro x v vc d l hv h hvc
    cases x <;> simp only [pk, reduceCtorEq] at h
    · exact dat hv h hvc
    · exact row hv h hvc
    · exact own hv h hvc
  | succ f ih =>
    intro x v vc d l hv h hvc
    cases x <;> simp only [pk, reduceCtorEq] at h
    · exact dat hv h hvc
    · rename_i cs
      split at h
      · rename_i vc' ds l' hp
        simp only [Option.some.injEq, Prod.mk.injEq] at h
        obtain ⟨rfl, rfl, rfl⟩ := h
        obtain ⟨e1, F, e2, e3⟩ := pkL_sound (fun x v vc d l h1 h2 h3 => ih h1 h2 h3) cs hp hvc.1
        cases hv with
        | agg hl h1 hj =>
          rw [e2, ← e1]
          exact .agg F (by omega) (ones_mem hvc.2) fun j hj' => e3 j (by omega) _ (hj j (by omega))
      · simp at h
    · exact row hv h hvc
    · rename_i cs
      split at h
      · rename_i vc' ds l' hp
        simp only [Option.some.injEq, Prod.mk.injEq] at h
        obtain ⟨rfl, rfl, rfl⟩ := h
        obtain ⟨e1, F, e2, e3⟩ := pkL_sound (fun x v vc d l h1 h2 h3 => ih h1 h2 h3) cs hp hvc
        cases hv with
        | tup hl hj =>
          rw [e2, ← e1]
          exact .tup F (by omega) fun j hj' => e3 j (by omega) _ (hj j (by omega))
      · simp at h
    · exact own hv h hvc

/-! ### A nil slice may be seen as an empty one -/
def wk1 : D → D → Prop
  | .nil, .lst k l => 0 < k ∧ l = []
  | x, y => x = y
def wkL : List D → List D → Prop
  | [], [] => True
  | x :: r, y :: s => wk1 x y ∧ wkL r s
  | _, _ => False
def wk2 : D → D → Prop
  | .agg xs, .agg ys => wkL xs ys
  | x, y => wk1 x y
def wkT : List D → List D → Prop
  | [], [] => True
  | x :: r, y :: s => wk2 x y ∧ wkT r s
  | _, _ => False
def wk : D → D → Prop
  | .tup xs, .tup ys => wkT xs ys
  | x, y => wk2 x y

theorem wk1_one {x y : D} (h : wk1 x y) : y.one = x.one := by
  unfold wk1 at h
  split at h
  · rfl
  · rw [h]
theorem wkL_get : ∀ {xs ys : List D}, wkL xs ys → xs.length = ys.length ∧ ∀ j, j < xs.length → wk1 (xs.getD j .nil) (ys.getD j .nil)
  | [], [], _ => ⟨rfl, by simp⟩
  | x :: r, y :: s, h => by
    obtain ⟨h1, h2⟩ := wkL_get h.2
    refine ⟨by simp [h1], fun j hj => ?_⟩
    cases j with
    | zero => simpa [List.getD] using h.1
    | succ j => simpa [List.getD] using h2 j (by simpa using hj)
  | [], _ :: _, h => h.elim
  | _ :: _, [], h => h.elim
theorem wkT_get : ∀ {xs ys : List D}, wkT xs ys → xs.length = ys.length ∧ ∀ j, j < xs.length → wk2 (xs.getD j .nil) (ys.getD j .nil)
  | [], [], _ => ⟨rfl, by simp⟩
  | x :: r, y :: s, h => by
    obtain ⟨h1, h2⟩ := wkT_get h.2
    refine ⟨by simp [h1], fun j hj => ?_⟩
    cases j with
    | zero => simpa [List.getD] using h.1
    | succ j => simpa [List.getD] using h2 j (by simpa using hj)
  | [], _ :: _, h => h.elim
  | _ :: _, [], h => h.elim
theorem ow_wk1 {x y : D} {v : Value} {fp : List Nat} (h : wk1 x y) (ho : OW w x v fp) : OW w y v fp := by
  unfold wk1 at h
  split at h
  · obtain ⟨hk, rfl⟩ := h
    cases ho
    exact .lst0 hk
  · rw [← h]; exact ho
theorem ow_wk2 {x y : D} {v : Value} {fp : List Nat} (h : wk2 x y) (ho : OW w x v fp) : OW w y v fp := by
  unfold wk2 at h
  split at h
  · rename_i xs ys
    obtain ⟨hl, hg⟩ := wkL_get h
    cases ho with
    | agg F hl' h1 hj =>
      rw [hl]
      refine .agg F (by omega) ?_ fun j hj' => ow_wk1 (hg j (by omega)) (hj j (by omega))
      intro c hc
      obtain ⟨j, hj', rfl⟩ := List.getElem_of_mem hc
      rw [getElem_eq_getD _ _ _ .nil, wk1_one (hg j (by omega))]
      exact h1 _ (getD_mem (by omega))
  · exact ow_wk1 h ho
theorem ow_wk {x y : D} {v : Value} {fp : List Nat} (h : wk x y) (ho : OW w x v fp) : OW w y v fp := by
  unfold wk at h
  split at h
  · rename_i xs ys
    obtain ⟨hl, hg⟩ := wkT_get h
    cases ho with
    | tup F hl' hj =>
      rw [hl]
      exact .tup F (by omega) fun j hj' => ow_wk2 (hg j (by omega)) (hj j (by omega))
  · exact ow_wk2 h ho
theorem fz_wk1 {x y : D} {v : Value} (h : wk1 x y) (ho : FZ S w x v) : FZ S w y v := by
  unfold wk1 at h
  split at h
  · obtain ⟨hk, rfl⟩ := h
    cases ho
    exact .lst0 hk
  · rw [← h]; exact ho
theorem fz_wk2 {x y : D} {v : Value} (h : wk2 x y) (ho : FZ S w x v) : FZ S w y v := by
  unfold wk2 at h
  split at h
  · rename_i xs ys
    obtain ⟨hl, hg⟩ := wkL_get h
    cases ho with
    | agg hl' h1 hj =>
      refine .agg (by omega) ?_ fun j hj' => fz_wk1 (hg j (by omega)) (hj j (by omega))
      intro c hc
      obtain ⟨j, hj', rfl⟩ := List.getElem_of_mem hc
      rw [getElem_eq_getD _ _ _ .nil, wk1_one (hg j (by omega))]
      exact h1 _ (getD_mem (by omega))
  · exact fz_wk1 h ho
theorem fz_wk {x y : D} {v : Value} (h : wk x y) (ho : FZ S w x v) : FZ S w y v := by
  unfold wk at h
  split at h
  · rename_i xs ys
    obtain ⟨hl, hg⟩ := wkT_get h
    cases ho with
    | tup hl' hj => exact .tup (by omega) fun j hj' => fz_wk2 (hg j (by omega)) (hj j (by omega))
  · exact fz_wk2 h ho

/-! ### Types of a program, from closed facts -/
theorem tiok_of {t : Nat} {ti : TI} (h1 : (P.info? t).map (fun i => (i.size, i.bytes, i.zero)) = some (ti.size, ti.bytes, some (zeroVal ti.zero))) (h2 : (P.underlying t).map tyOf = some ti.ty)
    (h3 : constD ti.zero = true) (h4 : ti.zero.cells.length = ti.size) (h5 : (match ti.zero with | .agg _ => true | _ => false) = ti.ty.agg) (h6 : eqChk P t = true) : TIOK P t ti := by
  cases hi : P.info? t with
  | none => simp [hi] at h1
  | some i =>
    cases hu : P.underlying t with
    | none => simp [hu] at h2
    | some d =>
      simp [hi] at h1
      simp [hu] at h2
      exact ⟨⟨i, d, hi, h1.1, h1.2.1, h1.2.2, hu, h2⟩, h3, h4, h5, h6⟩

def pkR (x : D) : Option (Prop × D × List Nat) → Prop
  | some (vc, x', ids) => vc ∧ ids.Nodup ∧ wk x' x
  | none => False
def vwR (x : D) : Option (Prop × D) → Prop
  | some (vc, x') => vc ∧ wk x' x
  | none => False

/-! ### Functions -/
def initM : Nat → List I → List (Nat × I)
  | _, [] => []
  | t, x :: r => (t, x) :: initM (t + 1) r

theorem look_initM (args : List I) (t s : Nat) : look s (initM t args) = if t ≤ s ∧ s < t + args.length then args.getD (s - t) .junk else .junk := by
  induction args generalizing t with
  | nil => simp [initM, look]
  | cons x r ih =>
    simp only [initM, look, ih, List.length_cons]
    by_cases h : t = s
    · subst h
      simp [List.getD]
    · rw [if_neg h]
      by_cases h2 : t + 1 ≤ s ∧ s < t + 1 + r.length
      · rw [if_pos h2, if_pos (by omega), show s - t = (s - (t + 1)) + 1 by omega]
        simp [List.getD]
      · rw [if_neg h2, if_neg (by omega)]

theorem enter_frame {args : List I} {vs : Array Value} {nt : Nat} (hl : vs.size = args.length) (hv : ∀ j, j < args.length → V S φ H w (args.getD j .junk) (vs.getD j undef)) (hn : args.length ≤ nt) :
    FrR S φ H w ⟨nt, initM 0 args⟩ { tmps := vs ++ Array.replicate (nt - vs.size) undef, defers := [] } := by
  refine ⟨rfl, by simp; omega, fun t => ?_⟩
  show V S φ H w (look t (initM 0 args)) _
  rw [look_initM]
  by_cases h : t < args.length
  · rw [if_pos ⟨Nat.zero_le _, by omega⟩]
    have e : (vs ++ Array.replicate (nt - vs.size) undef).getD t undef = vs.getD t undef := by
      simp only [Array.getD_eq_getD_getElem?]
      rw [Array.getElem?_append_left (by omega)]
    rw [e]
    exact hv t h
  · rw [if_neg (by omega)]
    exact .junk

/-- What a body must come to. -/
def endsWith (T : Nat → Option TI) (fn : Func) (Po : Fr → I → List R → Prop) : Post := fun e fr H =>
  match e with
  | .normal => match resI T H fr fn.results.toList with | some (vc, r) => vc ∧ Po fr r H | none => False
  | .ret => match resI T H fr fn.results.toList with | some (vc, r) => vc ∧ Po fr r H | none => False
  | _ => False

theorem icall_intro (hT : TOK P T) {f : Nat} {fn : Func} {c : Code} {args : List I} {Po : I → List R → Prop} (hf : P.funcs[f]? = some fn) (hb : fn.body = some c) (hnm : (fn.name == "runtime.NumGoroutine") = false) (hn : args.length ≤ fn.ntmps)
    (h : iwp P H.length c (endsWith T fn (fun fr r H' => ∃ fr' H'', Ghost H.length (⟨1, [(0, r)]⟩ : Fr) H' fr' H'' ∧ fr'.n = 1 ∧ Po (fr'.get 0) H'')) ⟨fn.ntmps, initM 0 args⟩ H) : ICall P f args H Po := by
  refine ⟨ent_of hf hb hnm, fun S φ vs w Rr s hl hv hr => calls_of_wp hf hb ?_⟩
  refine h S φ _ w _ (Nat.le_refl _) s (enter_frame hl hv hn) ?_
  intro e a' w' S' φ' fr' H' s' hf' he ht hq
  have fin : ∀ vc r, resI T H' fr' fn.results.toList = some (vc, r) → vc ∧ (∃ fr'' H'', Ghost H.length (⟨1, [(0, r)]⟩ : Fr) H' fr'' H'' ∧ fr''.n = 1 ∧ Po (fr''.get 0) H'') → a'.defers = [] ∧ ∃ v, (results fn a'.tmps).run P w' = .ok v w' ∧ Rr (.returned v) w' := by
    rintro vc0 r hres ⟨hvc0, fr'', H'', g, hn1, hpo⟩
    obtain ⟨v, hrun, hv⟩ := resI_sound hT s' hf' hres hvc0
    refine ⟨hf'.defers, v, hrun, ?_⟩
    obtain ⟨S2, φ2, s2, hf2, he2, ht2⟩ := g S' φ' w' { tmps := #[v], defers := [] } ht.len s' ⟨rfl, rfl, fun t => by
      show V S' φ' H' w' (look t [(0, r)]) _
      simp only [look]
      by_cases h0 : 0 = t
      · subst h0; rw [if_pos rfl]; exact hv
      · rw [if_neg h0]; exact .junk⟩
    exact hr v w' S2 φ2 _ H'' s2 (hf2.val 0) (he.trans he2) (ht.trans ht2) hpo
  cases e <;> simp only [endsWith] at hq
  · split at hq
    · exact fin _ _ (by assumption) hq
    · exact hq.elim
  all_goals first
    | exact hq.elim
    | (split at hq
       · exact fin _ _ (by assumption) hq
       · exact hq.elim)

theorem grow_of_ext {S' : Nat → Prop} {φ' : List (List Nat)} {w' : World} (he : Ext S [] w S' φ' w') : Grow w w' :=
  ⟨he.os, he.tape, he.output, he.size, fun b hb => he.keep b hb (by rintro ⟨i, hi⟩; simp [List.getD] at hi)⟩

theorem sim_nil (hS : ∀ b, S b → b < w.heap.size) : Sim S [] [] w :=
  ⟨rfl, fun i => by simp [List.getD], fun i j b hb => by simp [List.getD] at hb, fun b ⟨i, hi⟩ => by simp [List.getD] at hi, fun b ⟨i, hi⟩ => by simp [List.getD] at hi, hS, fun i r hr => by simp at hr⟩

theorem fps_nodup (s : Sim S φ H w) {ids : List Nat} (h : ids.Nodup) : (fps φ ids).Nodup := by
  unfold fps
  induction ids with
  | nil => simp
  | cons i r ih =>
    rw [List.nodup_cons] at h
    simp only [List.flatMap_cons]
    rw [List.nodup_append]
    refine ⟨s.nd i, ih h.2, ?_⟩
    intro b hb c hc hbc
    subst hbc
    obtain ⟨j, hj, hc⟩ := List.mem_flatMap.1 hc
    have := s.dj i j b hb hc
    subst this
    exact h.1 hj

/-- The contract of a function on data, out of its body's verification condition. -/
theorem pure_intro (hT : TOK P T) {f : Nat} {fn : Func} {c : Code} {ds : List D} {x : D} (hf : P.funcs[f]? = some fn) (hb : fn.body = some c) (hnm : (fn.name == "runtime.NumGoroutine") = false) (hn : ds.length ≤ fn.ntmps)
    (h : iwp P 0 c (endsWith T fn (fun fr r H' => pkR x (pk H' 3 r))) ⟨fn.ntmps, initM 0 (ds.map .d)⟩ []) : Pure P f ds x := by
  refine ⟨ent_of hf hb hnm, fun S vs w Rr hS ha hr => calls_of_wp hf hb ?_⟩
  have s := sim_nil hS
  refine h S [] _ w _ (Nat.le_refl _) s (enter_frame (by simpa using ha.1) (fun j hj => ?_) (by simpa using hn)) ?_
  · simp only [List.length_map] at hj
    have e : (ds.map I.d).getD j .junk = .d (ds.getD j .nil) := by simp [List.getD, hj]
    rw [e]
    exact .d (ha.2 j hj)
  intro e a' w' S' φ' fr' H' s' hf' he ht hq
  have fin : ∀ vc r, resI T H' fr' fn.results.toList = some (vc, r) → vc ∧ (pkR x (pk H' 3 r)) → a'.defers = [] ∧ ∃ v, (results fn a'.tmps).run P w' = .ok v w' ∧ Rr (.returned v) w' := by
    rintro vc0 r hres ⟨hvc0, hp⟩
    obtain ⟨v, hrun, hv⟩ := resI_sound hT s' hf' hres hvc0
    refine ⟨hf'.defers, v, hrun, ?_⟩
    unfold pkR at hp
    split at hp
    · rename_i vc x' ids hpk
      obtain ⟨hvc, hnd, hw⟩ := hp
      have how := ow_wk hw (pk_sound s' 3 hv hpk hvc)
      refine hr v w' _ how (fps_nodup s' hnd) ?_ (grow_of_ext he)
      intro b hb
      obtain ⟨i, _, hb⟩ := List.mem_flatMap.1 hb
      rcases he.fp b ⟨i, hb⟩ with ⟨j, hj⟩ | h
      · simp [List.getD] at hj
      · exact h
    · exact hp.elim
  cases e <;> simp only [endsWith] at hq
  · split at hq
    · exact fin _ _ (by assumption) hq
    · exact hq.elim
  all_goals first
    | exact hq.elim
    | (split at hq
       · exact fin _ _ (by assumption) hq
       · exact hq.elim)

theorem pureF_intro (hT : TOK P T) {f : Nat} {fn : Func} {c : Code} {ds : List D} {x : D} (hf : P.funcs[f]? = some fn) (hb : fn.body = some c) (hnm : (fn.name == "runtime.NumGoroutine") = false) (hn : ds.length ≤ fn.ntmps)
    (h : iwp P 0 c (endsWith T fn (fun fr r H' => vwR x (view H' 3 r))) ⟨fn.ntmps, initM 0 (ds.map .d)⟩ []) : PureF P f ds x := by
  refine ⟨ent_of hf hb hnm, fun S vs w Rr hS ha hr => calls_of_wp hf hb ?_⟩
  have s := sim_nil hS
  refine h S [] _ w _ (Nat.le_refl _) s (enter_frame (by simpa using ha.1) (fun j hj => ?_) (by simpa using hn)) ?_
  · simp only [List.length_map] at hj
    have e : (ds.map I.d).getD j .junk = .d (ds.getD j .nil) := by simp [List.getD, hj]
    rw [e]
    exact .d (ha.2 j hj)
  intro e a' w' S' φ' fr' H' s' hf' he ht hq
  have fin : ∀ vc r, resI T H' fr' fn.results.toList = some (vc, r) → vc ∧ (vwR x (view H' 3 r)) → a'.defers = [] ∧ ∃ v, (results fn a'.tmps).run P w' = .ok v w' ∧ Rr (.returned v) w' := by
    rintro vc0 r hres ⟨hvc0, hp⟩
    obtain ⟨v, hrun, hv⟩ := resI_sound hT s' hf' hres hvc0
    refine ⟨hf'.defers, v, hrun, ?_⟩
    unfold vwR at hp
    split at hp
    · rename_i vc x' hvw
      refine hr v w' (Lent S' φ') (fun b hb => .inl (he.sub b hb)) ?_ (fun b hb => hb.elim (s'.slt b) (s'.lt b)) (fz_wk hp.2 (view_sound s' 3 hv hvw hp.1)) (grow_of_ext he)
      intro b hb
      have hno : ¬ Foot [] b := by rintro ⟨i, hi⟩; simp [List.getD] at hi
      rcases hb with hb | hb
      · rcases he.sfp b hb with h | h | h
        · exact .inl h
        · exact absurd h hno
        · exact .inr h
      · rcases he.fp b hb with h | h
        · exact absurd h hno
        · exact .inr h
    · exact hp.elim
  cases e <;> simp only [endsWith] at hq
  · split at hq
    · exact fin _ _ (by assumption) hq
    · exact hq.elim
  all_goals first
    | exact hq.elim
    | (split at hq
       · exact fin _ _ (by assumption) hq
       · exact hq.elim)

end Go.VL

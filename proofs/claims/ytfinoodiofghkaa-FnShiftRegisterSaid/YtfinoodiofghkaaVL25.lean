/- Part 25: what data that some value reads as must be like: numbers in range, lists not too long. Conditions: none; lemmas. -/
import Derived.Test.YtfinoodiofghkaaVL24
set_option linter.unusedVariables false
set_option linter.unusedSimpArgs false
namespace Go.VL

mutual
/-- Numbers in range, lists not too long. -/
def D.ok : D → Prop
  | .int k n => InK k n
  | .agg cs => okL cs
  | .lst _ l => l.length ≤ 281474976710656 ∧ okL l
  | .ptr cs => okL cs
  | .fn _ cs => okL cs
  | .tup cs => okL cs
  | _ => True
def okL : List D → Prop
  | [] => True
  | x :: r => x.ok ∧ okL r
end

theorem okL_iff : ∀ (l : List D), okL l ↔ ∀ x ∈ l, x.ok
  | [] => by simp [okL]
  | x :: r => by simp [okL, okL_iff r]
theorem okL_getD {l : List D} (h : ∀ j, j < l.length → (l.getD j .nil).ok) : okL l := by
  rw [okL_iff]
  intro x hx
  obtain ⟨j, hj, rfl⟩ := List.getElem_of_mem hx
  have := h j hj
  simpa [List.getD, hj] using this
theorem ok_cells {x : D} (h : ∀ c ∈ x.cells, c.ok) : x.ok := by
  cases x with
  | agg cs => simp only [D.ok]; rw [okL_iff]; exact h
  | int k n => exact h _ (by simp [D.cells])
  | bool b => exact h _ (by simp [D.cells])
  | raw b => exact h _ (by simp [D.cells])
  | lst k l => exact h _ (by simp [D.cells])
  | nil => exact h _ (by simp [D.cells])
  | ptr l => exact h _ (by simp [D.cells])
  | fn f l => exact h _ (by simp [D.cells])
  | tup l => exact h _ (by simp [D.cells])
theorem okL_flat {l : List D} (h : okL (flat l)) : okL l := by
  rw [okL_iff] at *
  intro x hx
  exact ok_cells fun c hc => h c (List.mem_flatMap.2 ⟨x, hx, hc⟩)

theorem FZ.isOk {S : Nat → Prop} {w : World} {x : D} {v : Value} (h : FZ S w x v) : x.ok := by
  induction h with
  | int h => simpa only [D.ok] using h
  | bool => simp only [D.ok]
  | raw h => simp only [D.ok]
  | agg hl h1 h ih => simp only [D.ok]; exact okL_getD ih
  | nil => simp only [D.ok]
  | lst0 hk => simp [D.ok, okL]
  | lst f hk he h1 hn hlim hS hc hf ih => simp only [D.ok]; exact ⟨hlim, okL_flat (okL_getD ih)⟩
  | ptr f hS h1 hc hf ih => simp only [D.ok]; exact okL_getD ih
  | fn hl h ih => simp only [D.ok]; exact okL_getD ih
  | tup hl h ih => simp only [D.ok]; exact okL_getD ih

/-- A contract may take its arguments' data to be in range. -/
theorem pure_ok {P : Program} {f : Nat} {ds : List D} {x : D} (he : Ent P f) (h : okL ds → Pure P f ds x) : Pure P f ds x := by
  refine ⟨he, fun S vs w Rr hS ha hr => ?_⟩
  have : okL ds := okL_getD fun j hj => (ha.2 j hj).isOk
  exact (h this).2 S vs w Rr hS ha hr
theorem pureF_ok {P : Program} {f : Nat} {ds : List D} {x : D} (he : Ent P f) (h : okL ds → PureF P f ds x) : PureF P f ds x := by
  refine ⟨he, fun S vs w Rr hS ha hr => ?_⟩
  have : okL ds := okL_getD fun j hj => (ha.2 j hj).isOk
  exact (h this).2 S vs w Rr hS ha hr

/-- The same as 'pure_of', and the arguments' data may be taken to be in range. -/
theorem pure_of' {E : Env} (hT : TOK E.P E.T) (hn : E.n = 0) {f : Nat} {fn : Func} {c : Code} {nt : Nat} {ds : List D} {x : D} (fuel : Nat) (hf : E.P.funcs[f]? = some fn) (hb : fn.body = some c) (hnm : (fn.name == "runtime.NumGoroutine") = false) (hnt : fn.ntmps = nt) (hl : ds.length ≤ nt)
    (h : okL ds → execC E fuel c [] (endsWith E.T fn (fun fr r H' => pkR x (pk H' 3 r))) ⟨nt, initM 0 (ds.map .d)⟩ []) : Pure E.P f ds x :=
  pure_ok (ent_of hf hb hnm) fun ho => pure_of hT hn fuel hf hb hnm hnt hl (h ho)
theorem pureF_of' {E : Env} (hT : TOK E.P E.T) (hn : E.n = 0) {f : Nat} {fn : Func} {c : Code} {nt : Nat} {ds : List D} {x : D} (fuel : Nat) (hf : E.P.funcs[f]? = some fn) (hb : fn.body = some c) (hnm : (fn.name == "runtime.NumGoroutine") = false) (hnt : fn.ntmps = nt) (hl : ds.length ≤ nt)
    (h : okL ds → execC E fuel c [] (endsWith E.T fn (fun fr r H' => vwR x (view H' 3 r))) ⟨nt, initM 0 (ds.map .d)⟩ []) : PureF E.P f ds x :=
  pureF_ok (ent_of hf hb hnm) fun ho => pureF_of hT hn fuel hf hb hnm hnt hl (h ho)

@[go_sem] theorem ok_int {k : IntKind} {n : Int} : (D.int k n).ok = InK k n := by simp only [D.ok]
@[go_sem] theorem ok_bool {b : Bool} : (D.bool b).ok = True := by simp only [D.ok]
@[go_sem] theorem ok_nil : D.nil.ok = True := by simp only [D.ok]
@[go_sem] theorem ok_raw {v : Value} : (D.raw v).ok = True := by simp only [D.ok]
@[go_sem] theorem ok_agg {cs : List D} : (D.agg cs).ok = okL cs := by simp only [D.ok]
@[go_sem] theorem ok_ptr {cs : List D} : (D.ptr cs).ok = okL cs := by simp only [D.ok]
@[go_sem] theorem ok_tup {cs : List D} : (D.tup cs).ok = okL cs := by simp only [D.ok]
@[go_sem] theorem ok_fn {f : Nat} {cs : List D} : (D.fn f cs).ok = okL cs := by simp only [D.ok]
@[go_sem] theorem ok_lst {k : Nat} {cs : List D} : (D.lst k cs).ok = (cs.length ≤ 281474976710656 ∧ okL cs) := by simp only [D.ok]
@[go_sem] theorem okL_nil : okL [] = True := by simp only [okL]
@[go_sem] theorem okL_cons {x : D} {r : List D} : okL (x :: r) = (x.ok ∧ okL r) := by simp only [okL]
/-- The members of a list of data. -/
theorem okL_map {α : Type} {f : α → D} {l : List α} : okL (l.map f) = ∀ x ∈ l, (f x).ok := by
  rw [okL_iff]
  simp
@[go_sem] theorem okL_ints {k : IntKind} {l : List Int} : okL (l.map (D.int k)) = ∀ x ∈ l, InK k x := by rw [okL_map]; simp only [D.ok]
@[go_sem] theorem okL_bools {l : List Bool} : okL (l.map D.bool) = True := by rw [okL_map]; simp [D.ok]

end Go.VL

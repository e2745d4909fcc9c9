/- Part 30: from a contract of a law, whatever plain types its arguments have, to what a row asks. Conditions: none; lemmas. -/
import Derived.Test.YtfinoodiofghkaaVL29
set_option linter.unusedVariables false
set_option linter.unusedSimpArgs false
namespace Go.VL
open Go.WideShapes Go.ChangeShapes

section
variable {P : Program} {T : Nat → Option TI} {H : Type} {enc : TypeId × Value → H} {w : World} {sp : Nat → Bool}

theorem arg_fz (hT : TOK P T) (K : Kids P (fun t => t < P.types.size)) {f t : Nat} (hk : known T f t) (htt : t < P.types.size) {r : Reach} {b : Nat} {v : Value} {d : DataW H} {p : List MemPlace}
    (hv : Value.okWide P w r b t v) (h : DataW.Trod enc P w 0 sp true t v d p) (hwt : ∀ n ∈ d.weights P t, n ≤ reachBytes) : ∃ x, shp T f t x ∧ FZ (fun b => b < w.heap.size) w x v := by
  obtain ⟨n, hn⟩ := h
  obtain ⟨x, hs, hc⟩ := trod_fz hT K f t n _ _ hk htt hn hwt
  refine ⟨x, hs, ?_⟩
  have single : x.cells = [x] → (∀ cs, v ≠ .agg cs) → FZ (fun b => b < w.heap.size) w x v := by
    intro hx hna
    have e : v.cells.toList = [v] := by
      cases v <;> first | rfl | exact absurd rfl (hna _)
    have := hc.fz 0 (by rw [e]; simp)
    rw [hx, e] at this
    exact this
  cases f with
  | zero => exact hk.elim
  | succ f =>
  simp only [known] at hk
  simp only [shp] at hs
  split at hk
  · rename_i ti hti
    obtain ⟨i, d', hinfo, hsz, hby, hz, hund, hty⟩ := (hT t ti hti).ex
    split at hk
    · rename_i k hk'
      simp only [hti, hk'] at hs
      obtain ⟨m, rfl⟩ := hs
      rw [hk'] at hty
      cases d' <;> simp only [tyOf, reduceCtorEq] at hty
      refine single rfl fun cs e => ?_
      subst e
      simp [Value.okWide, Cell.okWide, Cell.ok, hund] at hv
    · rename_i hk'
      simp only [hti, hk'] at hs
      obtain ⟨m, rfl⟩ := hs
      rw [hk'] at hty
      cases d' <;> simp only [tyOf, reduceCtorEq] at hty
      refine single rfl fun cs e => ?_
      subst e
      simp [Value.okWide, Cell.okWide, Cell.ok, hund] at hv
    · rename_i e hk'
      simp only [hti, hk'] at hs
      rw [hk'] at hty
      cases d' <;> simp only [tyOf, reduceCtorEq] at hty
      split at hs
      · obtain ⟨l, rfl, _⟩ := hs
        refine single rfl fun cs e => ?_
        subst e
        simp [Value.okWide, Cell.okWide, Cell.ok, hund] at hv
      · exact hs.elim
    · rename_i fs hk'
      simp only [hti, hk'] at hs
      rw [hk'] at hty
      cases d' <;> simp only [tyOf, reduceCtorEq] at hty
      obtain ⟨ys, rfl, _⟩ := hs
      obtain ⟨cs, rfl, _⟩ := okWide_struct hund hv
      have h1 := hc.len
      have h2 := hc.one
      have h3 := hc.fz
      simp only [D.cells, Value.cells] at h1 h2 h3
      exact .agg (by simpa using h1) h2 fun j hj => by
        have := h3 j (by omega)
        simpa [Array.getD_eq_getD_getElem?, List.getD] using this
    · exact hk.elim
  · exact hk.elim

def shpAll (T : Nat → Option TI) (f : Nat) : List Nat → List D → Prop
  | [], [] => True
  | t :: ts, x :: xs => shp T f t x ∧ shpAll T f ts xs
  | _, _ => False
theorem shpAll_cons {f t : Nat} {ts : List Nat} {ds : List D} (h : shpAll T f (t :: ts) ds) : ∃ x xs, ds = x :: xs ∧ shp T f t x ∧ shpAll T f ts xs := by
  cases ds with
  | nil => exact h.elim
  | cons x xs => exact ⟨x, xs, rfl, h.1, h.2⟩
theorem shpAll_nil {f : Nat} {ds : List D} (h : shpAll T f [] ds) : ds = [] := by
  cases ds with
  | nil => rfl
  | cons x xs => exact h.elim
def knownAll (T : Nat → Option TI) (f : Nat) : List Nat → Prop
  | [] => True
  | t :: ts => known T f t ∧ knownAll T f ts

theorem args_fz (hT : TOK P T) (K : Kids P (fun t => t < P.types.size)) {f : Nat} {r : Reach} {b : Nat} : ∀ (ts : List Nat) (vs : List Value) (ds : List (DataW H)) (p : List MemPlace), knownAll T f ts → (∀ t ∈ ts, t < P.types.size) →
    (∀ (j : Nat) t v, ts[j]? = some t → vs[j]? = some v → Value.okWide P w r b t v) → DataW.TrodAll enc P w 0 sp true ts vs ds p → (∀ n ∈ DataW.weightsEach P ts ds, n ≤ reachBytes) →
    ∃ xs, shpAll T f ts xs ∧ vs.length = xs.length ∧ ∀ j, j < xs.length → FZ (fun b => b < w.heap.size) w (xs.getD j .nil) (vs.getD j undef)
  | [], vs, ds, p, _, _, _, h, _ => by
    obtain ⟨rfl, rfl, rfl⟩ := trodAll_nil h
    exact ⟨[], trivial, rfl, by simp⟩
  | t :: ts, vs, ds, p, hk, htt, hv, h, hw => by
    obtain ⟨v, vs1, d, ds1, p1, p2, rfl, rfl, rfl, h1, h2⟩ := trodAll_cons h
    have hw' : (∀ n ∈ d.weights P t, n ≤ reachBytes) ∧ ∀ n ∈ DataW.weightsEach P ts ds1, n ≤ reachBytes := by
      simp only [DataW.weightsEach, List.mem_append] at hw
      exact ⟨fun n hn => hw n (.inl hn), fun n hn => hw n (.inr hn)⟩
    obtain ⟨x, hx1, hx2⟩ := arg_fz hT K hk.1 (htt t (by simp)) (hv 0 t v rfl rfl) h1 hw'.1
    obtain ⟨xs, hs1, hs2, hs3⟩ := args_fz hT K ts vs1 ds1 p2 hk.2 (fun t ht => htt t (by simp [ht])) (fun j t v ht hv' => hv (j + 1) t v (by simpa using ht) (by simpa using hv')) h2 hw'.2
    refine ⟨x :: xs, ⟨hx1, hs1⟩, by simp [hs2], fun j hj => ?_⟩
    cases j with
    | zero => simpa using hx2
    | succ j => simpa using hs3 j (by simpa using hj)

theorem trodAll_dlen {base : Nat} {held : Bool} : ∀ {ts : List TypeId} {vs : List Value} {ds : List (DataW H)} {ps : List MemPlace}, DataW.TrodAll enc P w base sp held ts vs ds ps → ds.length = ts.length
  | [], vs, ds, ps, h => by
    obtain ⟨rfl, rfl, rfl⟩ := trodAll_nil h
    rfl
  | t :: ts, vs, ds, ps, h => by
    obtain ⟨v, vs1, d, ds1, p1, p2, rfl, rfl, rfl, h1, h2⟩ := trodAll_cons h
    simp [trodAll_dlen h2]
theorem trodAll_carry {w' : World} {base : Nat} {held : Bool} : ∀ {ts : List TypeId} {vs : List Value} {ds : List (DataW H)} {ps : List MemPlace}, DataW.TrodAll enc P w base sp held ts vs ds ps → (∀ p ∈ ps, w.sameAt w' p) →
    DataW.TrodAll enc P w' base sp held ts vs ds ps
  | [], vs, ds, ps, h, _ => by
    obtain ⟨rfl, rfl, rfl⟩ := trodAll_nil h
    exact rfl
  | t :: ts, vs, ds, ps, h, hs => by
    obtain ⟨v, vs1, d, ds1, p1, p2, rfl, rfl, rfl, ⟨n, h1⟩, h2⟩ := trodAll_cons h
    exact ⟨p1, p2, ⟨n, DataW.trod_carry n t _ _ h1 fun p hp => hs p (List.mem_append.2 (.inl hp))⟩, trodAll_carry h2 (fun p hp => hs p (List.mem_append.2 (.inr hp))), rfl⟩

theorem Grow.sameAt {w' : World} (g : Grow w w') {p : MemPlace} (hp : p.block < w.heap.size) : w.sameAt w' p := by
  cases p with
  | cell b o => exact World.cell?_of_block (w := w) (g.keep b hp)
  | map b => exact g.keep b hp

/-- A LAW's CALL, over whatever plain arguments. -/
theorem calls_law (hT : TOK P T) (K : Kids P (fun t => t < P.types.size)) (hz : ∀ t e, t < P.types.size → P.underlying t = some (.slice e) → 0 < P.cellsOf e) {fn : Func} {fi : Nat} {s : ChangeSpec} {base : Nat} {args : Array Value} {ds gs : List (DataW H)} {before : List MemPlace}
    (hvars : s.vars = []) {f : Nat} (hk : knownAll T f fn.params.toList) (htt : ∀ t ∈ fn.params.toList, t < P.types.size)
    (hval : ∀ (j : Nat) t v, fn.params[j]? = some t → args[j]? = some v → Value.okWide P w .any base t v)
    (hW : DataW.Whole enc P fn.params.toList s.vars false w args.toList ds gs before)
    (hwt : (DataW.weightsEach P (fn.params.toList ++ s.plain.varTypes P) (ds ++ gs)).all (· ≤ reachBytes) = true) (hvt : s.plain.varTypes P = [])
    (hfn : ∀ (ds : List (DataW H)), ds.length = fn.params.size → s.fn H ds = { results := [.lit (.bool true)], args := ds })
    (hres : ∀ (W' : World) (b : Nat) (sp : Nat → Bool) (hd : Bool), DataW.TrodAll enc P W' b sp hd fn.resultTypes.toList ((Value.bool true).resultList fn.resultTypes.size) [.lit (.bool true)] [])
    (hok : ∀ (W' : World) (j : Nat) (t : TypeId) (r : Value), fn.resultTypes[j]? = some t → ((Value.bool true).resultList fn.resultTypes.size)[j]? = some r → Value.okWide P W' .any 0 t r)
    (hc : ∀ xs, shpAll T f fn.params.toList xs → Pure P fi xs (.bool true)) :
    Calls P fi args w fun e W' => ∃ v, e = .returned v ∧ s.post enc P fn false true false false w args v W' := by
  have hW' := hW
  obtain ⟨p, q, hA, hV, rfl, hfz, hnd⟩ := hW
  rw [hvars] at hV
  obtain ⟨rfl, rfl⟩ := trodVars_none hV
  rw [hvt] at hwt
  simp only [List.append_nil] at hwt hW' hfz hnd
  have hw : ∀ n ∈ DataW.weightsEach P fn.params.toList ds, n ≤ reachBytes := by simpa using hwt
  obtain ⟨xs, hs1, hs2, hs3⟩ := args_fz hT K fn.params.toList args.toList ds p hk htt (fun j t v h1 h2 => hval j t v (by simpa using h1) (by simpa using h2)) hA hw
  have hp := hc xs hs1
  refine hp.2 (fun b => b < w.heap.size) args w _ (fun b hb => hb) ⟨by simpa using hs2, fun j hj => ?_⟩ ?_
  · have := hs3 j hj
    simpa [Array.getD_eq_getD_getElem?, List.getD] using this
  · intro v W' fp how _ _ hg
    cases how
    have hlen : ds.length = fn.params.size := by simpa using trodAll_dlen hA
    refine ⟨_, rfl, post_of_old (pa := p) (pv := []) hW' ?_ ?_ ?_ (by simp) hg ?_⟩
    · simp only [List.append_nil, hfn ds hlen]; exact hres W'
    · intro sp' hsp
      simp only [List.append_nil, hfn ds hlen]
      exact trodAll_carry (DataW.TrodAll.respare K hz htt hA hsp) fun p' hp' => hg.sameAt (hA.lt p' hp')
    · intro sp' _
      simp only [List.append_nil, hfn ds hlen, hvars]
      exact rfl
    · exact hok W'
end

theorem lst_shape {α : Type} {f : α → D} : ∀ {l : List D}, (∀ y ∈ l, ∃ a, y = f a) → ∃ as : List α, l = as.map f
  | [], _ => ⟨[], rfl⟩
  | y :: r, h => by
    obtain ⟨a, rfl⟩ := h y (by simp)
    obtain ⟨as, rfl⟩ := lst_shape (l := r) (fun z hz => h z (by simp [hz]))
    exact ⟨a :: as, rfl⟩
theorem shpF_c {R : Nat → D → Prop} {p : Nat × Nat} {fs : List (Nat × Nat)} {ys : List D} (h : shpF R (p :: fs) ys) : ∃ y r, ys = y :: r ∧ R p.2 y ∧ shpF R fs r := by
  cases ys with
  | nil => exact h.elim
  | cons y r => exact ⟨y, r, rfl, h.1, h.2⟩
theorem shpF_n {R : Nat → D → Prop} {ys : List D} (h : shpF R [] ys) : ys = [] := by
  cases ys with
  | nil => rfl
  | cons y r => exact h.elim

section shapes
variable {T : Nat → Option TI} {f t e : Nat} {x : D} {sz b : Nat} {z : D}
theorem shp_int {k : IntKind} (ht : T t = some ⟨.int k, sz, b, z⟩) (h : shp T (f + 1) t x) : ∃ n, x = .int k n := by simpa only [shp, ht] using h
theorem shp_bool (ht : T t = some ⟨.bool, sz, b, z⟩) (h : shp T (f + 1) t x) : ∃ n, x = .bool n := by simpa only [shp, ht] using h
theorem shp_slice {sz' b' : Nat} {z' : D} {ty' : Ty} (ht : T t = some ⟨.slice e, sz, b, z⟩) (he : T e = some ⟨ty', sz', b', z'⟩) {α : Type} {g : α → D} (hg : ∀ y, shp T f e y → ∃ a, y = g a) (h : shp T (f + 1) t x) : ∃ l : List α, x = .lst sz' (l.map g) := by
  simp only [shp, ht, he] at h
  obtain ⟨l, rfl, hl⟩ := h
  obtain ⟨as, rfl⟩ := lst_shape (fun y hy => hg y (hl y hy))
  exact ⟨as, rfl⟩
theorem shp_struct {fs : List (Nat × Nat)} (ht : T t = some ⟨.struct fs, sz, b, z⟩) (h : shp T (f + 1) t x) : ∃ ys, x = .agg (ys.flatMap D.cells) ∧ shpF (shp T f) fs ys := by simpa only [shp, ht] using h
end shapes

end Go.VL

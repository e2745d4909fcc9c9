/- Part 31: ends of procedures: freezing what is one's own; contracts that say only something of the result. Conditions: none; lemmas. -/
import Derived.Test.YtfinoodiofghkaaVL30
set_option linter.unusedVariables false
set_option linter.unusedSimpArgs false
namespace Go.VL

variable {E : Env} {P : Program} {S : Nat → Prop} {φ : List (List Nat)} {H : List R} {w : World} {n : Nat} {fr : Fr}

/-- What a procedure comes to: a result and roots, after ghost steps. -/
def endI (n : Nat) (Po : I → List R → Prop) (r : I) (H : List R) : Prop :=
  ∃ fr' H', Ghost n (⟨1, [(0, r)]⟩ : Fr) H fr' H' ∧ fr'.n = 1 ∧ Po (fr'.get 0) H'

theorem endI_same {Po : I → List R → Prop} {r : I} (h : Po r H) : endI n Po r H :=
  ⟨⟨1, [(0, r)]⟩, H, Ghost.refl _ _ _, rfl, by simpa [Fr.get, look] using h⟩

theorem endI_fit {Po : I → List R → Prop} {r r0 : I} {H1 : List R} (hf : fitE n r H r0 H1) (h : Po r0 H1) : endI n Po r H := by
  obtain ⟨h1, h2, h3, h4, h5⟩ := hf
  refine ⟨⟨1, [(0, r0)]⟩, H1, fit_ghost ⟨rfl, h2, ⟨?_, trivial⟩, h3, ⟨h4, trivial⟩, h5⟩, rfl, ?_⟩
  · show fit1 _ (look 0 [(0, r)]) r0
    simpa [look] using h1
  · show Po (look 0 [(0, r0)]) H1
    simpa [look] using h

theorem icall_of' {E : Env} (hT : TOK E.P E.T) {f : Nat} {fn : Func} {c : Code} {nt : Nat} {args : List I} {H : List R} {Po : I → List R → Prop} (hn : E.n = H.length) (fuel : Nat) (hf : E.P.funcs[f]? = some fn) (hb : fn.body = some c)
    (hnm : (fn.name == "runtime.NumGoroutine") = false) (hnt : fn.ntmps = nt) (hl : args.length ≤ nt)
    (h : execC E fuel c [] (endsWith E.T fn (fun fr r H' => endI E.n Po r H')) ⟨nt, initM 0 args⟩ H) : ICall E.P f args H Po := by
  subst hnt
  refine icall_intro hT hf hb hnm hl ?_
  have := run_code hT fuel h
  rw [hn] at this
  exact this

/-! ### Freezing -/
/-- What was made is frozen. -/
def frzO (Po : I → List R → Prop) (H : List R) : Option (Prop × D) → Prop
  | some (vc, d) => vc ∧ Po (.d d) H
  | none => False
@[go_sem] theorem frzO_s {Po : I → List R → Prop} {vc : Prop} {d : D} : frzO Po H (some (vc, d)) = (vc ∧ Po (.d d) H) := rfl
theorem endI_frz {Po : I → List R → Prop} {r : I} (hn : n ≤ H.length) (hH : idltH n (H.take n)) (h : frzO Po (H.take n) (view (killH n H) 3 r)) : endI n Po r H := by
  unfold frzO at h
  split at h
  · rename_i vc d hv
    refine ⟨⟨1, [(0, .d d)]⟩, H.take n, ?_, rfl, by simpa [Fr.get, look] using h.2⟩
    intro S φ w a _ s hf
    obtain ⟨s1, t1⟩ := s.kill n
    have h0 := (hf.val 0).tr t1
    have hr : (⟨1, [(0, r)]⟩ : Fr).get 0 = r := by simp [Fr.get, look]
    rw [hr] at h0
    have hz := view_sound s1 3 h0 hv h.1
    obtain ⟨s2, t2, e2⟩ := take_kill s hn hH
    refine ⟨_, _, s2, ⟨hf.defers, hf.size, fun t => ?_⟩, e2, t2⟩
    show V _ _ _ _ (look t [(0, .d d)]) _
    simp only [look]
    by_cases ht : 0 = t
    · subst ht
      rw [if_pos rfl]
      exact .d hz
    · rw [if_neg ht]
      exact .junk
  · exact h.elim

/-! ### Contracts that say something of the result -/
def pkE (ψ : D → Prop) : Option (Prop × D × List Nat) → Prop
  | some (vc, x', ids) => vc ∧ ids.Nodup ∧ ∃ x, wk x' x ∧ ψ x
  | none => False
def vwE (ψ : D → Prop) : Option (Prop × D) → Prop
  | some (vc, x') => vc ∧ ∃ x, wk x' x ∧ ψ x
  | none => False
@[go_sem] theorem pkE_s {ψ : D → Prop} {vc : Prop} {x : D} {ids : List Nat} : pkE ψ (some (vc, x, ids)) = (vc ∧ ids.Nodup ∧ ∃ y, wk x y ∧ ψ y) := rfl
@[go_sem] theorem vwE_s {ψ : D → Prop} {vc : Prop} {x : D} : vwE ψ (some (vc, x)) = (vc ∧ ∃ y, wk x y ∧ ψ y) := rfl

theorem pureE_ok {f : Nat} {ds : List D} {ψ : D → Prop} (he : Ent P f) (h : okL ds → PureE P f ds ψ) : PureE P f ds ψ := by
  refine ⟨he, fun S vs w Rr hS ha hr => ?_⟩
  have : okL ds := okL_getD fun j hj => (ha.2 j hj).isOk
  exact (h this).2 S vs w Rr hS ha hr
theorem pureFE_ok {f : Nat} {ds : List D} {ψ : D → Prop} (he : Ent P f) (h : okL ds → PureFE P f ds ψ) : PureFE P f ds ψ := by
  refine ⟨he, fun S vs w Rr hS ha hr => ?_⟩
  have : okL ds := okL_getD fun j hj => (ha.2 j hj).isOk
  exact (h this).2 S vs w Rr hS ha hr

theorem pureE_of' {E : Env} (hT : TOK E.P E.T) (hn : E.n = 0) {f : Nat} {fn : Func} {c : Code} {nt : Nat} {ds : List D} {ψ : D → Prop} (fuel : Nat) (hf : E.P.funcs[f]? = some fn) (hb : fn.body = some c) (hnm : (fn.name == "runtime.NumGoroutine") = false) (hnt : fn.ntmps = nt) (hl : ds.length ≤ nt)
    (h : okL ds → execC E fuel c [] (endsWith E.T fn (fun fr r H' => pkE ψ (pk H' 3 r))) ⟨nt, initM 0 (ds.map .d)⟩ []) : PureE E.P f ds ψ := by
  subst hnt
  refine pureE_ok (ent_of hf hb hnm) fun hok => ?_
  have hrun := run_code hT fuel (h hok)
  rw [hn] at hrun
  refine ⟨ent_of hf hb hnm, fun S vs w Rr hS ha hr => calls_of_wp hf hb ?_⟩
  have s := sim_nil hS
  refine hrun S [] _ w _ (Nat.le_refl _) s (enter_frame (by simpa using ha.1) (fun j hj => ?_) (by simpa using hl)) ?_
  · simp only [List.length_map] at hj
    have e : (ds.map I.d).getD j .junk = .d (ds.getD j .nil) := by simp [List.getD, hj]
    rw [e]
    exact .d (ha.2 j hj)
  intro e a' w' S' φ' fr' H' s' hf' he ht hq
  have fin : ∀ vc r, resI E.T H' fr' fn.results.toList = some (vc, r) → vc ∧ (pkE ψ (pk H' 3 r)) → a'.defers = [] ∧ ∃ v, (results fn a'.tmps).run E.P w' = .ok v w' ∧ Rr (.returned v) w' := by
    rintro vc0 r hres ⟨hvc0, hp⟩
    obtain ⟨v, hrun, hv⟩ := resI_sound hT s' hf' hres hvc0
    refine ⟨hf'.defers, v, hrun, ?_⟩
    unfold pkE at hp
    split at hp
    · rename_i vc x' ids hpk
      obtain ⟨hvc, hnd, x, hw, hψ⟩ := hp
      have how := ow_wk hw (pk_sound s' 3 hv hpk hvc)
      refine hr x v w' _ hψ how (fps_nodup s' hnd) ?_ (grow_of_ext he)
      intro b hb
      obtain ⟨i, _, hb⟩ := List.mem_flatMap.1 hb
      rcases he.fp b ⟨i, hb⟩ with ⟨j, hj⟩ | h
      · simp [List.getD] at hj
      · exact h
    · exact hp.elim
  cases e <;> simp only [endsWith] at hq
  · split at hq
    · exact fin _ _ (by assumption) hq
    · exact hq.elim
  all_goals first
    | exact hq.elim
    | (split at hq
       · exact fin _ _ (by assumption) hq
       · exact hq.elim)

theorem pureFE_of' {E : Env} (hT : TOK E.P E.T) (hn : E.n = 0) {f : Nat} {fn : Func} {c : Code} {nt : Nat} {ds : List D} {ψ : D → Prop} (fuel : Nat) (hf : E.P.funcs[f]? = some fn) (hb : fn.body = some c) (hnm : (fn.name == "runtime.NumGoroutine") = false) (hnt : fn.ntmps = nt) (hl : ds.length ≤ nt)
    (h : okL ds → execC E fuel c [] (endsWith E.T fn (fun fr r H' => vwE ψ (view H' 3 r))) ⟨nt, initM 0 (ds.map .d)⟩ []) : PureFE E.P f ds ψ := by
  subst hnt
  refine pureFE_ok (ent_of hf hb hnm) fun hok => ?_
  have hrun := run_code hT fuel (h hok)
  rw [hn] at hrun
  refine ⟨ent_of hf hb hnm, fun S vs w Rr hS ha hr => calls_of_wp hf hb ?_⟩
  have s := sim_nil hS
  refine hrun S [] _ w _ (Nat.le_refl _) s (enter_frame (by simpa using ha.1) (fun j hj => ?_) (by simpa using hl)) ?_
  · simp only [List.length_map] at hj
    have e : (ds.map I.d).getD j .junk = .d (ds.getD j .nil) := by simp [List.getD, hj]
    rw [e]
    exact .d (ha.2 j hj)
  intro e a' w' S' φ' fr' H' s' hf' he ht hq
  have fin : ∀ vc r, resI E.T H' fr' fn.results.toList = some (vc, r) → vc ∧ (vwE ψ (view H' 3 r)) → a'.defers = [] ∧ ∃ v, (results fn a'.tmps).run E.P w' = .ok v w' ∧ Rr (.returned v) w' := by
    rintro vc0 r hres ⟨hvc0, hp⟩
    obtain ⟨v, hrun, hv⟩ := resI_sound hT s' hf' hres hvc0
    refine ⟨hf'.defers, v, hrun, ?_⟩
    unfold vwE at hp
    split at hp
    · rename_i vc x' hvw
      obtain ⟨hvc, x, hw, hψ⟩ := hp
      refine hr x v w' (Lent S' φ') hψ (fun b hb => .inl (he.sub b hb)) ?_ (fun b hb => hb.elim (s'.slt b) (s'.lt b)) (fz_wk hw (view_sound s' 3 hv hvw hvc)) (grow_of_ext he)
      intro b hb
      have hno : ¬ Foot [] b := by rintro ⟨i, hi⟩; simp [List.getD] at hi
      rcases hb with hb | hb
      · rcases he.sfp b hb with h | h | h
        · exact .inl h
        · exact absurd h hno
        · exact .inr h
      · rcases he.fp b hb with h | h
        · exact absurd h hno
        · exact .inr h
    · exact hp.elim
  cases e <;> simp only [endsWith] at hq
  · split at hq
    · exact fin _ _ (by assumption) hq
    · exact hq.elim
  all_goals first
    | exact hq.elim
    | (split at hq
       · exact fin _ _ (by assumption) hq
       · exact hq.elim)

end Go.VL

/- Part 31: ends of procedures: freezing what is one's own; contracts that say only something of the result. Conditions: none; lemmas. -/
import Derived.Test.YtnpeooegbmljaaaVL30
set_option linter.unusedVariables false
set_option linter.unusedSimpArgs false
namespace Go.VL

variable {E : Env} {P : Program} {S : Nat → Prop} {φ : List (List Nat)} {H : List R} {w : World} {n : Nat} {fr : Fr}

/-- What a procedure comes to: a result and roots, after ghost steps. -/
def endI (n : Nat) (Po : I → List R → Prop) (r : I) (H : List R) : Prop :=
  ∃ fr' H', Ghost n (⟨1, [(0, r)]⟩ : Fr) H fr' H' ∧ fr'.n = 1 ∧ Po (fr'.get 0) H'

theorem endI_same {Po : I → List R → Prop} {r : I} (h : Po r H) : endI n Po r H :=
  ⟨⟨1, [(0, r)]⟩, H, Ghost.refl _ _ _, rfl, by simpa [Fr.get, look] using h⟩

theorem endI_fit {Po : I → List R → Prop} {r r0 : I} {H1 : List R} (hf : fitE n r H r0 H1) (h : Po r0 H1) : endI n Po r H := by
  obtain ⟨h1, h2, h3, h4, h5⟩ := hf
  refine ⟨⟨1, [(0, r0)]⟩, H1, fit_ghost ⟨rfl, h2, ⟨?_, trivial⟩, h3, ⟨h4, trivial⟩, h5⟩, rfl, ?_⟩
  · show fit1 (look 0 [(0, r)]) r0
    simpa [look] using h1
  · show Po (look 0 [(0, r0)]) H1
    simpa [look] using h

theorem icall_of' {E : Env} (hT : TOK E.P E.T) {f : Nat} {fn : Func} {c : Code} {nt : Nat} {args : List I} {H : List R} {Po : I → List R → Prop} (hn : E.n = H.length) (fuel : Nat) (hf : E.P.funcs[f]? = some fn) (hb : fn.body = some c)
    (hnm : (fn.name == "runtime.NumGoroutine") = false) (hnt : fn.ntmps = nt) (hl : args.length ≤ nt)
    (h : execC E fuel c [] (endsWith E.T fn (fun fr r H' => endI E.n Po r H')) ⟨nt, initM 0 args⟩ H) : ICall E.P f args H Po := by
  subst hnt
  refine icall_intro hT hf hb hnm hl ?_
  have := run_code hT fuel h
  rw [hn] at this
  exact this

/-! ### Freezing -/
/-- The roots below 'n' are not looked at. -/
def killH : Nat → List R → List R
  | _, [] => []
  | 0, H => H
  | n + 1, r :: H => .dead r.gen :: killH n H
@[go_sem] theorem killH_zero {H : List R} : killH 0 H = H := by cases H <;> rfl
@[go_sem] theorem killH_nil {n : Nat} : killH n [] = [] := by cases n <;> rfl
@[go_sem] theorem killH_succ {n : Nat} {r : R} {H : List R} : killH (n + 1) (r :: H) = .dead r.gen :: killH n H := rfl
@[go_sem] theorem gen_box {cs : List I} : (R.box cs).gen = 0 := rfl
@[go_sem] theorem gen_row {g k : Nat} {dp : Bool} {l : List D} : (R.row g k dp l).gen = g := rfl
@[go_sem] theorem gen_map {es : List (D × D)} : (R.map es).gen = 0 := rfl
@[go_sem] theorem gen_dead {g : Nat} : (R.dead g).gen = g := rfl

theorem killH_length : ∀ (n : Nat) (H : List R), (killH n H).length = H.length
  | 0, H => by simp [go_sem]
  | n + 1, [] => rfl
  | n + 1, r :: H => by simp [killH, killH_length n H]
theorem killH_lt : ∀ (n : Nat) (H : List R) (i : Nat), i < n → i < H.length → ∃ g, (killH n H)[i]? = some (.dead g) ∧ g = (H.getD i (.dead 0)).gen
  | 0, H, i, h, _ => by omega
  | n + 1, [], i, _, h => by simp at h
  | n + 1, r :: H, 0, _, _ => ⟨_, rfl, rfl⟩
  | n + 1, r :: H, i + 1, h1, h2 => by simpa [killH] using killH_lt n H i (by omega) (by simpa using h2)
theorem killH_ge : ∀ (n : Nat) (H : List R) (i : Nat), n ≤ i → (killH n H)[i]? = H[i]?
  | 0, H, i, _ => by simp [go_sem]
  | n + 1, [], i, _ => rfl
  | n + 1, r :: H, 0, h => by omega
  | n + 1, r :: H, i + 1, h => by simpa [killH] using killH_ge n H i (by omega)

/-- The footprints of the roots below 'n' are left out. -/
def killF (n : Nat) (φ : List (List Nat)) : List (List Nat) := (List.range φ.length).map fun i => if i < n then [] else φ.getD i []
theorem killF_get (n : Nat) (φ : List (List Nat)) (i : Nat) : (killF n φ).getD i [] = if i < n then [] else φ.getD i [] := by
  simp only [killF, List.getD, List.getElem?_map]
  by_cases h : i < φ.length
  · simp [h]
  · simp [h]

theorem Sim.kill (s : Sim S φ H w) (n : Nat) : Sim S (killF n φ) (killH n H) w ∧ Tr H.length S φ H w S (killF n φ) (killH n H) w := by
  have hfoot : ∀ b, Foot (killF n φ) b → Foot φ b := by
    rintro b ⟨i, hi⟩
    rw [killF_get] at hi
    split at hi
    · simp at hi
    · exact ⟨i, hi⟩
  have hsome : ∀ i r, (killH n H)[i]? = some r → (∃ g, r = .dead g) ∨ n ≤ i ∧ H[i]? = some r := by
    intro i r hr
    by_cases h : i < n
    · have hl := (List.getElem?_eq_some_iff.1 hr).1
      rw [killH_length] at hl
      obtain ⟨g, hg, _⟩ := killH_lt n H i h hl
      rw [hg] at hr
      simp at hr
      exact .inl ⟨g, hr.symm⟩
    · rw [killH_ge n H i (by omega)] at hr
      exact .inr ⟨by omega, hr⟩
  have htr : Tr H.length S φ H w S (killF n φ) (killH n H) w := by
    refine ⟨fun _ h => h, fun _ _ => rfl, Nat.le_refl _, by rw [killH_length]; exact Nat.le_refl _, ?_, ?_, ?_, ?_, ?_⟩
    · intro i hi
      by_cases h : i < n
      · obtain ⟨g, hg, e⟩ := killH_lt n H i h hi
        have : (killH n H).getD i (.dead 0) = .dead g := by simp [List.getD, hg]
        rw [this, e]
        exact Nat.le_refl _
      · have : (killH n H).getD i (.dead 0) = H.getD i (.dead 0) := by simp only [List.getD, killH_ge n H i (by omega)]
        rw [this]
        exact Nat.le_refl _
    · intro i g k dp' l' hi hl'
      rcases hsome i _ hl' with ⟨_, h⟩ | ⟨h, h2⟩
      · cases h
      · exact .inr ⟨dp', l', h2, by rw [killF_get, if_neg (by omega)], Nat.le_refl _, fun b rest arr ty e1 e2 => ⟨arr, ty, e2, Nat.le_refl _⟩⟩
    · intro i cs hi hl'
      rcases hsome i _ hl' with ⟨_, h⟩ | ⟨h, h2⟩
      · cases h
      · exact ⟨cs, h2, by rw [killF_get, if_neg (by omega)]⟩
    · intro i cs hi hl'
      rcases hsome i _ hl' with ⟨_, h⟩ | ⟨h, h2⟩
      · cases h
      · exact ⟨cs, h2, by rw [killF_get, if_neg (by omega)]⟩
    · intro i x hi hl'
      rcases hsome i _ hl' with ⟨_, h⟩ | ⟨h, h2⟩
      · cases h
      · exact ⟨h2, by rw [killF_get, if_neg (by omega)], fun _ _ => rfl⟩
  refine ⟨⟨?_, ?_, ?_, fun b hb => s.lt b (hfoot b hb), fun b hb => s.off b (hfoot b hb), s.slt, ?_⟩, htr⟩
  · simp [killF, killH_length, s.len]
  · intro i
    rw [killF_get]
    split
    · simp
    · exact s.nd i
  · intro i j b hb hb'
    rw [killF_get] at hb hb'
    split at hb
    · simp at hb
    · split at hb'
      · simp at hb'
      · exact s.dj i j b hb hb'
  · intro i r hr
    rcases hsome i r hr with ⟨g, rfl⟩ | ⟨h, h2⟩
    · trivial
    · rw [killF_get, if_neg (by omega)]
      exact (s.rel i r h2).tr htr fun _ _ => rfl

theorem take_kill (s : Sim S φ H w) {n : Nat} (hn : n ≤ H.length) (hH : idltH n (H.take n)) :
    Sim (fun b => S b ∨ Foot (killF n φ) b) (φ.take n) (H.take n) w ∧ Tr n S φ H w (fun b => S b ∨ Foot (killF n φ) b) (φ.take n) (H.take n) w ∧ Ext S φ w (fun b => S b ∨ Foot (killF n φ) b) (φ.take n) w := by
  obtain ⟨S1, φ1, s1, hf1, he1, ht1⟩ := Ghost.drop (n := n) n (fr := ⟨0, []⟩) (H := H) (Nat.le_refl _) hn trivial hH S φ w { tmps := #[], defers := [] } hn s ⟨rfl, rfl, fun t => .junk⟩
  have hget : ∀ i, (φ.take n).getD i [] = if i < n then φ.getD i [] else [] := by
    intro i
    by_cases h : i < n
    · rw [if_pos h, getD_take _ _ _ _ h]
    · rw [if_neg h]
      simp [List.getD, List.getElem?_take, h]
  have hfoot : ∀ b, Foot (φ.take n) b → Foot φ b ∧ ¬ Foot (killF n φ) b := by
    rintro b ⟨i, hi⟩
    rw [hget] at hi
    split at hi
    · refine ⟨⟨i, hi⟩, ?_⟩
      rintro ⟨j, hj⟩
      rw [killF_get] at hj
      split at hj
      · simp at hj
      · have := s.dj i j b hi hj
        omega
    · simp at hi
  have hkill : ∀ b, Foot (killF n φ) b → Foot φ b := by
    rintro b ⟨i, hi⟩
    rw [killF_get] at hi
    split at hi
    · simp at hi
    · exact ⟨i, hi⟩
  -- the roots that stay
  have hsub : Tr n S φ H w (fun b => S b ∨ Foot (killF n φ) b) (φ.take n) (H.take n) w := by
    refine ⟨fun _ h => .inl h, fun _ _ => rfl, hn, by simp; omega, fun i hi => by rw [getD_take _ _ _ _ hi]; exact Nat.le_refl _, ?_, ?_, ?_, ?_⟩
    · intro i g k dp' l' hi hl'
      rw [take_get _ _ _ hi] at hl'
      exact .inr ⟨dp', l', hl', getD_take _ _ _ _ hi, Nat.le_refl _, fun b rest arr ty e1 e2 => ⟨arr, ty, e2, Nat.le_refl _⟩⟩
    · intro i cs hi hl'
      rw [take_get _ _ _ hi] at hl'
      exact ⟨cs, hl', getD_take _ _ _ _ hi⟩
    · intro i cs hi hl'
      rw [take_get _ _ _ hi] at hl'
      exact ⟨cs, hl', getD_take _ _ _ _ hi⟩
    · intro i x hi hl'
      rw [take_get _ _ _ hi] at hl'
      exact ⟨hl', getD_take _ _ _ _ hi, fun _ _ => rfl⟩
  refine ⟨⟨by simp [s.len], ?_, ?_, fun b hb => s.lt b (hfoot b hb).1, ?_, ?_, ?_⟩, hsub, ⟨rfl, rfl, rfl, Nat.le_refl _, fun _ _ _ => rfl, fun b hb => .inl (hfoot b hb).1, fun _ h => .inl h, ?_⟩⟩
  · intro i
    rw [hget]
    split
    · exact s.nd i
    · simp
  · intro i j b hb hb'
    rw [hget] at hb hb'
    split at hb
    · split at hb'
      · exact s.dj i j b hb hb'
      · simp at hb'
    · simp at hb
  · intro b hb h
    rcases h with h | h
    · exact s.off b (hfoot b hb).1 h
    · exact (hfoot b hb).2 h
  · intro b h
    rcases h with h | h
    · exact s.slt b h
    · exact s.lt b (hkill b h)
  · intro i r hr
    have hlt : i < n := by
      have := (List.getElem?_eq_some_iff.1 hr).1
      simp at this
      omega
    rw [hget, if_pos hlt]
    have hb := idltH_get hH i r hr
    rw [take_get _ _ _ hlt] at hr
    have h1 := (s.rel i r hr).take hn s.len hb
    -- more may be frozen
    have htr2 : Tr (H.take n).length S (φ.take n) (H.take n) w (fun b => S b ∨ Foot (killF n φ) b) (φ.take n) (H.take n) w := by
      refine ⟨fun _ h => .inl h, fun _ _ => rfl, Nat.le_refl _, Nat.le_refl _, fun _ _ => Nat.le_refl _, fun i g k dp' l' hi hl => .inr ⟨dp', l', hl, rfl, Nat.le_refl _, fun b rest arr ty e1 e2 => ⟨arr, ty, e2, Nat.le_refl _⟩⟩,
        fun i cs hi h => ⟨cs, h, rfl⟩, fun i es hi h => ⟨es, h, rfl⟩, fun i x hi h => ⟨h, rfl, fun _ _ => rfl⟩⟩
    exact h1.tr htr2 fun _ _ => rfl
  · intro b h
    rcases h with h | h
    · exact .inl h
    · exact .inr (.inl (hkill b h))

/-- What was made is frozen. -/
def frzO (Po : I → List R → Prop) (H : List R) : Option (Prop × D) → Prop
  | some (vc, d) => vc ∧ Po (.d d) H
  | none => False
@[go_sem] theorem frzO_s {Po : I → List R → Prop} {vc : Prop} {d : D} : frzO Po H (some (vc, d)) = (vc ∧ Po (.d d) H) := rfl
theorem endI_frz {Po : I → List R → Prop} {r : I} (hn : n ≤ H.length) (hH : idltH n (H.take n)) (h : frzO Po (H.take n) (view (killH n H) 3 r)) : endI n Po r H := by
  unfold frzO at h
  split at h
  · rename_i vc d hv
    refine ⟨⟨1, [(0, .d d)]⟩, H.take n, ?_, rfl, by simpa [Fr.get, look] using h.2⟩
    intro S φ w a _ s hf
    obtain ⟨s1, t1⟩ := s.kill n
    have h0 := (hf.val 0).tr t1
    have hr : (⟨1, [(0, r)]⟩ : Fr).get 0 = r := by simp [Fr.get, look]
    rw [hr] at h0
    have hz := view_sound s1 3 h0 hv h.1
    obtain ⟨s2, t2, e2⟩ := take_kill s hn hH
    refine ⟨_, _, s2, ⟨hf.defers, hf.size, fun t => ?_⟩, e2, t2⟩
    show V _ _ _ _ (look t [(0, .d d)]) _
    simp only [look]
    by_cases ht : 0 = t
    · subst ht
      rw [if_pos rfl]
      exact .d hz
    · rw [if_neg ht]
      exact .junk
  · exact h.elim

/-! ### Contracts that say something of the result -/
def pkE (ψ : D → Prop) : Option (Prop × D × List Nat) → Prop
  | some (vc, x', ids) => vc ∧ ids.Nodup ∧ ∃ x, wk x' x ∧ ψ x
  | none => False
def vwE (ψ : D → Prop) : Option (Prop × D) → Prop
  | some (vc, x') => vc ∧ ∃ x, wk x' x ∧ ψ x
  | none => False
@[go_sem] theorem pkE_s {ψ : D → Prop} {vc : Prop} {x : D} {ids : List Nat} : pkE ψ (some (vc, x, ids)) = (vc ∧ ids.Nodup ∧ ∃ y, wk x y ∧ ψ y) := rfl
@[go_sem] theorem vwE_s {ψ : D → Prop} {vc : Prop} {x : D} : vwE ψ (some (vc, x)) = (vc ∧ ∃ y, wk x y ∧ ψ y) := rfl

theorem pureE_ok {f : Nat} {ds : List D} {ψ : D → Prop} (he : Ent P f) (h : okL ds → PureE P f ds ψ) : PureE P f ds ψ := by
  refine ⟨he, fun S vs w Rr hS ha hr => ?_⟩
  have : okL ds := okL_getD fun j hj => (ha.2 j hj).isOk
  exact (h this).2 S vs w Rr hS ha hr
theorem pureFE_ok {f : Nat} {ds : List D} {ψ : D → Prop} (he : Ent P f) (h : okL ds → PureFE P f ds ψ) : PureFE P f ds ψ := by
  refine ⟨he, fun S vs w Rr hS ha hr => ?_⟩
  have : okL ds := okL_getD fun j hj => (ha.2 j hj).isOk
  exact (h this).2 S vs w Rr hS ha hr

theorem pureE_of' {E : Env} (hT : TOK E.P E.T) (hn : E.n = 0) {f : Nat} {fn : Func} {c : Code} {nt : Nat} {ds : List D} {ψ : D → Prop} (fuel : Nat) (hf : E.P.funcs[f]? = some fn) (hb : fn.body = some c) (hnm : (fn.name == "runtime.NumGoroutine") = false) (hnt : fn.ntmps = nt) (hl : ds.length ≤ nt)
    (h : okL ds → execC E fuel c [] (endsWith E.T fn (fun fr r H' => pkE ψ (pk H' 3 r))) ⟨nt, initM 0 (ds.map .d)⟩ []) : PureE E.P f ds ψ := by
  subst hnt
  refine pureE_ok (ent_of hf hb hnm) fun hok => ?_
  have hrun := run_code hT fuel (h hok)
  rw [hn] at hrun
  refine ⟨ent_of hf hb hnm, fun S vs w Rr hS ha hr => calls_of_wp hf hb ?_⟩
  have s := sim_nil hS
  refine hrun S [] _ w _ (Nat.le_refl _) s (enter_frame (by simpa using ha.1) (fun j hj => ?_) (by simpa using hl)) ?_
  · simp only [List.length_map] at hj
    have e : (ds.map I.d).getD j .junk = .d (ds.getD j .nil) := by simp [List.getD, hj]
    rw [e]
    exact .d (ha.2 j hj)
  intro e a' w' S' φ' fr' H' s' hf' he ht hq
  have fin : ∀ vc r, resI E.T H' fr' fn.results.toList = some (vc, r) → vc ∧ (pkE ψ (pk H' 3 r)) → a'.defers = [] ∧ ∃ v, (results fn a'.tmps).run E.P w' = .ok v w' ∧ Rr (.returned v) w' := by
    rintro vc0 r hres ⟨hvc0, hp⟩
    obtain ⟨v, hrun, hv⟩ := resI_sound hT s' hf' hres hvc0
    refine ⟨hf'.defers, v, hrun, ?_⟩
    unfold pkE at hp
    split at hp
    · rename_i vc x' ids hpk
      obtain ⟨hvc, hnd, x, hw, hψ⟩ := hp
      have how := ow_wk hw (pk_sound s' 3 hv hpk hvc)
      refine hr x v w' _ hψ how (fps_nodup s' hnd) ?_ (grow_of_ext he)
      intro b hb
      obtain ⟨i, _, hb⟩ := List.mem_flatMap.1 hb
      rcases he.fp b ⟨i, hb⟩ with ⟨j, hj⟩ | h
      · simp [List.getD] at hj
      · exact h
    · exact hp.elim
  cases e <;> simp only [endsWith] at hq
  · split at hq
    · exact fin _ _ (by assumption) hq
    · exact hq.elim
  all_goals first
    | exact hq.elim
    | (split at hq
       · exact fin _ _ (by assumption) hq
       · exact hq.elim)

theorem pureFE_of' {E : Env} (hT : TOK E.P E.T) (hn : E.n = 0) {f : Nat} {fn : Func} {c : Code} {nt : Nat} {ds : List D} {ψ : D → Prop} (fuel : Nat) (hf : E.P.funcs[f]? = some fn) (hb : fn.body = some c) (hnm : (fn.name == "runtime.NumGoroutine") = false) (hnt : fn.ntmps = nt) (hl : ds.length ≤ nt)
    (h : okL ds → execC E fuel c [] (endsWith E.T fn (fun fr r H' => vwE ψ (view H' 3 r))) ⟨nt, initM 0 (ds.map .d)⟩ []) : PureFE E.P f ds ψ := by
  subst hnt
  refine pureFE_ok (ent_of hf hb hnm) fun hok => ?_
  have hrun := run_code hT fuel (h hok)
  rw [hn] at hrun
  refine ⟨ent_of hf hb hnm, fun S vs w Rr hS ha hr => calls_of_wp hf hb ?_⟩
  have s := sim_nil hS
  refine hrun S [] _ w _ (Nat.le_refl _) s (enter_frame (by simpa using ha.1) (fun j hj => ?_) (by simpa using hl)) ?_
  · simp only [List.length_map] at hj
    have e : (ds.map I.d).getD j .junk = .d (ds.getD j .nil) := by simp [List.getD, hj]
    rw [e]
    exact .d (ha.2 j hj)
  intro e a' w' S' φ' fr' H' s' hf' he ht hq
  have fin : ∀ vc r, resI E.T H' fr' fn.results.toList = some (vc, r) → vc ∧ (vwE ψ (view H' 3 r)) → a'.defers = [] ∧ ∃ v, (results fn a'.tmps).run E.P w' = .ok v w' ∧ Rr (.returned v) w' := by
    rintro vc0 r hres ⟨hvc0, hp⟩
    obtain ⟨v, hrun, hv⟩ := resI_sound hT s' hf' hres hvc0
    refine ⟨hf'.defers, v, hrun, ?_⟩
    unfold vwE at hp
    split at hp
    · rename_i vc x' hvw
      obtain ⟨hvc, x, hw, hψ⟩ := hp
      refine hr x v w' (Lent S' φ') hψ (fun b hb => .inl (he.sub b hb)) ?_ (fun b hb => hb.elim (s'.slt b) (s'.lt b)) (fz_wk hw (view_sound s' 3 hv hvw hvc)) (grow_of_ext he)
      intro b hb
      have hno : ¬ Foot [] b := by rintro ⟨i, hi⟩; simp [List.getD] at hi
      rcases hb with hb | hb
      · rcases he.sfp b hb with h | h | h
        · exact .inl h
        · exact absurd h hno
        · exact .inr h
      · rcases he.fp b hb with h | h
        · exact absurd h hno
        · exact .inr h
    · exact hp.elim
  cases e <;> simp only [endsWith] at hq
  · split at hq
    · exact fin _ _ (by assumption) hq
    · exact hq.elim
  all_goals first
    | exact hq.elim
    | (split at hq
       · exact fin _ _ (by assumption) hq
       · exact hq.elim)

end Go.VL

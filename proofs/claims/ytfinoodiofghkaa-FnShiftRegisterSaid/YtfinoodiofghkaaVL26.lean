/- Part 26: a contract that was proved over some roots alone holds among other roots too. Conditions: none; lemmas. -/
import Derived.Test.YtfinoodiofghkaaVL25
set_option linter.unusedVariables false
set_option linter.unusedSimpArgs false
namespace Go.VL

mutual
/-- Other numbers for the roots. -/
def renI (ρ : Nat → Nat) : I → I
  | .d x => .d x
  | .agg cs => .agg (renL ρ cs)
  | .sl i g k lo n => .sl (ρ i) g k lo n
  | .ptr i off => .ptr (ρ i) off
  | .eptr i g k idx off z => .eptr (ρ i) g k idx off z
  | .bor i g k idx c lo n => .bor (ρ i) g k idx c lo n
  | .bptr i g k idx c k2 m off => .bptr (ρ i) g k idx c k2 m off
  | .map i => .map (ρ i)
  | .fn f cs => .fn f (renL ρ cs)
  | .tup cs => .tup (renL ρ cs)
  | .own i => .own (ρ i)
  | .cond e x => .cond e (renI ρ x)
  | .junk => .junk
def renL (ρ : Nat → Nat) : List I → List I
  | [] => []
  | x :: r => renI ρ x :: renL ρ r
end
def renR (ρ : Nat → Nat) : R → R
  | .box cs => .box (renL ρ cs)
  | r => r

theorem renL_map (ρ : Nat → Nat) : ∀ (l : List I), renL ρ l = l.map (renI ρ)
  | [] => rfl
  | x :: r => by simp only [renL, List.map_cons, renL_map ρ r]
theorem renL_getD (ρ : Nat → Nat) (l : List I) (j : Nat) : (renL ρ l).getD j .junk = renI ρ (l.getD j .junk) := by
  rw [renL_map]
  have : I.junk = renI ρ .junk := by simp only [renI]
  rw [this, getD_map']
  simp only [renI]
theorem renL_length (ρ : Nat → Nat) (l : List I) : (renL ρ l).length = l.length := by rw [renL_map]; simp

variable {S S' : Nat → Prop} {φ φ0 φ' : List (List Nat)} {H H0 H' : List R} {w w' : World} {ρ : Nat → Nat} {m : Nat}

/-- The roots below 'm', renamed, lie in the other heap. -/
structure Emb (ρ : Nat → Nat) (m : Nat) (H0 : List R) (φ0 : List (List Nat)) (H : List R) (φ : List (List Nat)) : Prop where
  len : H0.length = m
  lt : ∀ j, j < m → ρ j < H.length
  root : ∀ j, j < m → H.getD (ρ j) (.dead 0) = renR ρ (H0.getD j (.dead 0))
  fp : ∀ j, j < m → φ.getD (ρ j) [] = φ0.getD j []

theorem some_getD {α : Type} {l : List α} {j : Nat} {x : α} (z : α) (h : l[j]? = some x) : j < l.length ∧ l.getD j z = x := by
  have := (List.getElem?_eq_some_iff.1 h).1
  exact ⟨this, by simp [List.getD, h]⟩
theorem getD_some {α : Type} {l : List α} {j : Nat} (z : α) (h : j < l.length) : l[j]? = some (l.getD j z) := by
  simp [List.getD, h]

theorem Emb.down (e : Emb ρ m H0 φ0 H φ) {x : I} : ∀ {v : Value}, V S φ H w (renI ρ x) v → x.idlt m → V S φ0 H0 w x v := by
  have main : ∀ (y : I) (v : Value), V S φ H w y v → ∀ x, y = renI ρ x → x.idlt m → V S φ0 H0 w x v := by
    intro y v h
    induction h with
    | d h =>
      intro x hx hb
      cases x <;> simp only [renI, I.d.injEq, reduceCtorEq] at hx
      subst hx
      exact .d h
    | agg hl h1 h ih =>
      intro x hx hb
      cases x <;> simp only [renI, I.agg.injEq, reduceCtorEq] at hx
      subst hx
      rename_i cs
      rw [renL_length] at hl
      simp only [renL_length, renL_getD] at h1 ih
      simp only [I.idlt] at hb
      exact .agg hl h1 fun j hj => ih j hj _ rfl (idltL_getD hb j hj)
    | sl hi hg h h1 =>
      intro x hx hb
      cases x <;> simp only [renI, I.sl.injEq, reduceCtorEq] at hx
      obtain ⟨rfl, rfl, rfl, rfl, rfl⟩ := hx
      simp only [I.idlt] at hb
      refine .sl (by rw [e.len]; exact hb) ?_ ?_ h1
      · rw [e.root _ hb] at hg
        generalize H0.getD _ (.dead 0) = r at hg
        cases r <;> simpa only [renR, R.gen] using hg
      · intro dp l hl
        have hr := e.root _ hb
        rw [(some_getD (.dead 0) hl).2] at hr
        have := h dp l (by rw [getD_some (.dead 0) hi, hr]; rfl)
        rw [e.fp _ hb] at this
        exact this
    | ptr hi h h1 =>
      intro x hx hb
      cases x <;> simp only [renI, I.ptr.injEq, reduceCtorEq] at hx
      obtain ⟨rfl, rfl⟩ := hx
      simp only [I.idlt] at hb
      refine .ptr (by rw [e.len]; exact hb) ?_ h1
      intro cs hl
      have hr := e.root _ hb
      rw [(some_getD (.dead 0) hl).2] at hr
      have := h _ (by rw [getD_some (.dead 0) hi, hr]; rfl)
      rw [e.fp _ hb] at this
      exact this
    | eptr hi hg h h1 =>
      intro x hx hb
      cases x <;> simp only [renI, I.eptr.injEq, reduceCtorEq] at hx
      obtain ⟨rfl, rfl, rfl, rfl, rfl, rfl⟩ := hx
      simp only [I.idlt] at hb
      refine .eptr (by rw [e.len]; exact hb) ?_ ?_ h1
      · rw [e.root _ hb] at hg
        generalize H0.getD _ (.dead 0) = r at hg
        cases r <;> simpa only [renR, R.gen] using hg
      · intro dp l hl
        have hr := e.root _ hb
        rw [(some_getD (.dead 0) hl).2] at hr
        have := h dp l (by rw [getD_some (.dead 0) hi, hr]; rfl)
        rw [e.fp _ hb] at this
        exact this
    | map hi h h1 =>
      intro x hx hb
      cases x <;> simp only [renI, I.map.injEq, reduceCtorEq] at hx
      subst hx
      simp only [I.idlt] at hb
      refine .map (by rw [e.len]; exact hb) ?_ h1
      intro es hl
      have hr := e.root _ hb
      rw [(some_getD (.dead 0) hl).2] at hr
      have := h _ (by rw [getD_some (.dead 0) hi, hr]; rfl)
      rw [e.fp _ hb] at this
      exact this
    | fn hl h ih =>
      intro x hx hb
      cases x <;> simp only [renI, I.fn.injEq, reduceCtorEq] at hx
      obtain ⟨rfl, rfl⟩ := hx
      rw [renL_length] at hl
      simp only [renL_length, renL_getD] at ih
      simp only [I.idlt] at hb
      exact .fn hl fun j hj => ih j hj _ rfl (idltL_getD hb j hj)
    | tup hl h ih =>
      intro x hx hb
      cases x <;> simp only [renI, I.tup.injEq, reduceCtorEq] at hx
      subst hx
      rw [renL_length] at hl
      simp only [renL_length, renL_getD] at ih
      simp only [I.idlt] at hb
      exact .tup hl fun j hj => ih j hj _ rfl (idltL_getD hb j hj)
    | own hi h =>
      intro x hx hb
      cases x <;> simp only [renI, I.own.injEq, reduceCtorEq] at hx
      subst hx
      simp only [I.idlt] at hb
      refine .own (by rw [e.len]; exact hb) ?_
      intro y hl
      have hr := e.root _ hb
      rw [(some_getD (.dead 0) hl).2] at hr
      have := h _ (by rw [getD_some (.dead 0) hi, hr]; rfl)
      rw [e.fp _ hb] at this
      exact this
    | cond h h0 ih =>
      intro x hx hb
      cases x <;> simp only [renI, I.cond.injEq, reduceCtorEq] at hx
      obtain ⟨rfl, rfl⟩ := hx
      simp only [I.idlt] at hb
      exact .cond (fun e' => ih e' _ rfl hb) h0
    | junk =>
      intro x hx hb
      cases x <;> simp only [renI, reduceCtorEq] at hx
      exact .junk
  exact fun {v} h hb => main _ v h x rfl hb

theorem Emb.up (e : Emb ρ m H0 φ0 H φ) {x : I} {v : Value} (h : V S φ0 H0 w x v) : V S φ H w (renI ρ x) v := by
  have hgen : ∀ {i g : Nat}, i < H0.length → g ≤ (H0.getD i (.dead 0)).gen → g ≤ (H.getD (ρ i) (.dead 0)).gen := by
    intro i g hi hg
    rw [e.root _ (e.len ▸ hi)]
    generalize H0.getD i (.dead 0) = r at hg
    cases r <;> simpa only [renR, R.gen] using hg
  have hback : ∀ {i : Nat} {r : R}, i < H0.length → H[ρ i]? = some r → ∃ r0, H0[i]? = some r0 ∧ r = renR ρ r0 := by
    intro i r hi hr
    refine ⟨_, getD_some (.dead 0) hi, ?_⟩
    rw [← e.root _ (e.len ▸ hi)]
    exact (some_getD (.dead 0) hr).2.symm
  induction h with
  | d h => simp only [renI]; exact .d h
  | agg hl h1 h ih => simp only [renI]; exact .agg (by rw [renL_length]; exact hl) (fun j hj => h1 j (by rwa [renL_length] at hj)) fun j hj => by rw [renL_getD]; exact ih j (by rwa [renL_length] at hj)
  | sl hi hg h h1 =>
    simp only [renI]
    refine .sl (e.lt _ (e.len ▸ hi)) (hgen hi hg) ?_ h1
    intro dp l hl
    obtain ⟨r0, h0, hr⟩ := hback hi hl
    cases r0 <;> simp only [renR, R.row.injEq, reduceCtorEq] at hr
    obtain ⟨rfl, rfl, rfl, rfl⟩ := hr
    rw [e.fp _ (e.len ▸ hi)]
    exact h _ _ h0
  | ptr hi h h1 =>
    simp only [renI]
    refine .ptr (e.lt _ (e.len ▸ hi)) ?_ h1
    intro cs hl
    obtain ⟨r0, h0, hr⟩ := hback hi hl
    cases r0 <;> simp only [renR, R.box.injEq, reduceCtorEq] at hr
    rw [e.fp _ (e.len ▸ hi)]
    exact h _ h0
  | eptr hi hg h h1 =>
    simp only [renI]
    refine .eptr (e.lt _ (e.len ▸ hi)) (hgen hi hg) ?_ h1
    intro dp l hl
    obtain ⟨r0, h0, hr⟩ := hback hi hl
    cases r0 <;> simp only [renR, R.row.injEq, reduceCtorEq] at hr
    obtain ⟨rfl, rfl, rfl, rfl⟩ := hr
    rw [e.fp _ (e.len ▸ hi)]
    exact h _ _ h0
  | map hi h h1 =>
    simp only [renI]
    refine .map (e.lt _ (e.len ▸ hi)) ?_ h1
    intro cs hl
    obtain ⟨r0, h0, hr⟩ := hback hi hl
    cases r0 <;> simp only [renR, R.map.injEq, reduceCtorEq] at hr
    subst hr
    rw [e.fp _ (e.len ▸ hi)]
    exact h _ h0
  | fn hl h ih => simp only [renI]; exact .fn (by rw [renL_length]; exact hl) fun j hj => by rw [renL_getD]; exact ih j (by rwa [renL_length] at hj)
  | tup hl h ih => simp only [renI]; exact .tup (by rw [renL_length]; exact hl) fun j hj => by rw [renL_getD]; exact ih j (by rwa [renL_length] at hj)
  | own hi h =>
    simp only [renI]
    refine .own (e.lt _ (e.len ▸ hi)) ?_
    intro x hl
    obtain ⟨r0, h0, hr⟩ := hback hi hl
    cases r0 <;> simp only [renR, R.val.injEq, reduceCtorEq] at hr
    subst hr
    rw [e.fp _ (e.len ▸ hi)]
    exact h _ h0
  | cond h h0 ih => simp only [renI]; exact .cond (fun e' => ih e') h0
  | junk => simp only [renI]; exact .junk

theorem Emb.rdown (e : Emb ρ m H0 φ0 H φ) {r : R} {fp : List Nat} (h : RRel S φ H w fp (renR ρ r)) (hb : r.idlt m) : RRel S φ0 H0 w fp r := by
  cases r with
  | box cs =>
    simp only [renR] at h
    obtain ⟨b, arr, ty, h1, h2, h3, h4⟩ := h
    simp only [R.idlt] at hb
    simp only [renL_length, renL_getD] at h3 h4
    exact ⟨b, arr, ty, h1, h2, h3, fun j hj => ⟨(h4 j hj).1, e.down (h4 j hj).2 (idltL_getD hb j hj)⟩⟩
  | row g k dp l => exact h
  | map es => exact h
  | val x => trivial
  | dead g => trivial
theorem Emb.rup (e : Emb ρ m H0 φ0 H φ) {r : R} {fp : List Nat} (h : RRel S φ0 H0 w fp r) : RRel S φ H w fp (renR ρ r) := by
  cases r with
  | box cs =>
    obtain ⟨b, arr, ty, h1, h2, h3, h4⟩ := h
    exact ⟨b, arr, ty, h1, h2, by rw [renL_length]; exact h3, fun j hj => ⟨(h4 j (by rwa [renL_length] at hj)).1, by rw [renL_getD]; exact e.up (h4 j (by rwa [renL_length] at hj)).2⟩⟩
  | row g k dp l => exact h
  | map es => exact h
  | val x => trivial
  | dead g => trivial

/-! ### Roots put back -/
/-- The root 'j' of the callee: one of the given ones, or a new one, behind all. -/
def rho (is : List Nat) (N : Nat) (j : Nat) : Nat := if j < is.length then is.getD j 0 else N + (j - is.length)
def putR {α : Type} : List Nat → List α → List α → List α
  | i :: is, r :: rs, l => putR is rs (l.set i r)
  | _, rs, l => l ++ rs

theorem putR_length {α : Type} : ∀ (is : List Nat) (rs l : List α), is.length ≤ rs.length → (putR is rs l).length = l.length + (rs.length - is.length)
  | [], rs, l, _ => by simp [putR]
  | i :: is, [], l, h => by simp at h
  | i :: is, r :: rs, l, h => by
    simp only [putR]
    rw [putR_length is rs _ (by simpa using h)]
    simp
theorem putR_other {α : Type} : ∀ (is : List Nat) (rs l : List α) (i : Nat), is.length ≤ rs.length → i < l.length → i ∉ is → (putR is rs l)[i]? = l[i]?
  | [], rs, l, i, _, hi, _ => by simp only [putR]; rw [List.getElem?_append_left hi]
  | i0 :: is, [], l, i, h, _, _ => by simp at h
  | i0 :: is, r :: rs, l, i, h, hi, hn => by
    simp only [putR]
    rw [putR_other is rs _ i (by simpa using h) (by simpa using hi) (fun hm => hn (List.mem_cons_of_mem _ hm))]
    have : i0 ≠ i := fun e => hn (by simp [e])
    simp [List.getElem?_set, this]
theorem putR_at {α : Type} : ∀ (is : List Nat) (rs l : List α) (j : Nat), is.Nodup → (∀ i ∈ is, i < l.length) → is.length ≤ rs.length → j < rs.length → (putR is rs l)[rho is l.length j]? = rs[j]?
  | [], rs, l, j, _, _, _, hj => by
    simp only [putR, rho, List.length_nil, Nat.not_lt_zero, if_false, Nat.sub_zero]
    rw [List.getElem?_append_right (by omega)]
    congr 1
    omega
  | i0 :: is, [], l, j, _, _, h, _ => by simp at h
  | i0 :: is, r :: rs, l, 0, hnd, hlt, h, hj => by
    have hi0 := hlt i0 (by simp)
    have hni := (List.nodup_cons.1 hnd).1
    simp only [putR, rho, List.length_cons, Nat.zero_lt_succ, if_true]
    show (putR is rs (l.set i0 r))[i0]? = some r
    rw [putR_other is rs _ i0 (by simpa using h) (by simpa using hi0) hni]
    simp [hi0]
  | i0 :: is, r :: rs, l, j + 1, hnd, hlt, h, hj => by
    have := putR_at is rs (l.set i0 r) j (List.nodup_cons.1 hnd).2 (fun i hi => by simpa using hlt i (by simp [hi])) (by simpa using h) (by simpa using hj)
    simp only [putR]
    have e : rho (i0 :: is) l.length (j + 1) = rho is (l.set i0 r).length j := by
      simp only [rho, List.length_cons, List.length_set]
      by_cases hj2 : j < is.length
      · rw [if_pos (by omega), if_pos hj2]
        simp [List.getD]
      · rw [if_neg (by omega), if_neg hj2]
        omega
    rw [e, this]
    simp

theorem rho_cases (is : List Nat) (N M i : Nat) (hi : i < N + (M - is.length)) (hm : is.length ≤ M) : (∃ j, j < M ∧ i = rho is N j) ∨ (i < N ∧ i ∉ is) := by
  by_cases h1 : i ∈ is
  · obtain ⟨j, hj, rfl⟩ := List.getElem_of_mem h1
    exact .inl ⟨j, by omega, by simp [rho, hj]⟩
  · by_cases h2 : i < N
    · exact .inr ⟨h2, h1⟩
    · exact .inl ⟨is.length + (i - N), by omega, by unfold rho; rw [if_neg (by omega)]; omega⟩
theorem rho_inj {is : List Nat} {N : Nat} (hnd : is.Nodup) (hlt : ∀ i ∈ is, i < N) {j j' : Nat} (h : rho is N j = rho is N j') : j = j' := by
  have hmem : ∀ j, j < is.length → is.getD j 0 ∈ is := fun j hj => by simp [List.getD, hj]
  unfold rho at h
  split at h
  · rename_i h1
    split at h
    · rename_i h2
      have e1 : is.getD j 0 = is[j] := by simp [List.getD, h1]
      have e2 : is.getD j' 0 = is[j'] := by simp [List.getD, h2]
      rw [e1, e2] at h
      exact (List.getElem?_inj h1 hnd).1 (by rw [List.getElem?_eq_getElem h1, List.getElem?_eq_getElem h2, h])
    · have := hlt _ (hmem j h1); omega
  · split at h
    · rename_i h2
      have := hlt _ (hmem j' h2); omega
    · omega


theorem getD_opt {α : Type} {l l' : List α} {i j : Nat} (z : α) (h : l[i]? = l'[j]?) : l.getD i z = l'.getD j z := by simp only [List.getD, h]

set_option maxHeartbeats 1000000 in
/-- The frame: a contract over the roots 'H0' alone serves where they lie, renamed, among others. -/
theorem ICall.frame {P : Program} {f : Nat} {args : List I} {H0 : List R} {Po : I → List R → Prop} (h : ICall P f args H0 Po) (is : List Nat) (hnd : is.Nodup) (hlen : is.length = H0.length) {H : List R} (hlt : ∀ i ∈ is, i < H.length)
    (hH : ∀ j, j < H0.length → H.getD (rho is H.length j) (.dead 0) = renR (rho is H.length) (H0.getD j (.dead 0))) (ha : ∀ x ∈ args, x.idlt H0.length) (hb : ∀ r ∈ H0, r.idlt H0.length) :
    ICall P f (args.map (renI (rho is H.length))) H (fun r' H'' => ∃ r H', Po r H' ∧ r' = renI (rho is H.length) r ∧ H'' = putR is (H'.map (renR (rho is H.length))) H) := by
  refine ⟨h.1, ?_⟩
  intro S φ vs w Rr s hvl hv hr
  have hmem : ∀ j, j < is.length → is.getD j 0 ∈ is := fun j hj => by simp [List.getD, hj]
  have hrlt : ∀ j, j < H0.length → rho is H.length j = is.getD j 0 ∧ rho is H.length j < H.length := by
    intro j hj
    have : rho is H.length j = is.getD j 0 := by unfold rho; rw [if_pos (by omega)]
    exact ⟨this, this ▸ hlt _ (hmem j (by omega))⟩
  -- the callee's own picture
  have e0 : Emb (rho is H.length) H0.length H0 (is.map fun i => φ.getD i []) H φ := by
    refine ⟨rfl, fun j hj => (hrlt j hj).2, hH, fun j hj => ?_⟩
    rw [(hrlt j hj).1]
    simp [List.getD, show j < is.length by omega]
  have fp0 : ∀ j, j < H0.length → (is.map fun i => φ.getD i []).getD j [] = φ.getD (rho is H.length j) [] := fun j hj => (e0.fp j hj).symm
  have fpo : ∀ j, ¬ j < H0.length → (is.map fun i => φ.getD i []).getD j [] = [] := fun j hj => by
    rw [List.getD, List.getElem?_eq_none (by simp; omega)]; rfl
  have foot0 : ∀ b, Foot (is.map fun i => φ.getD i []) b → ∃ i, i ∈ is ∧ b ∈ φ.getD i [] := by
    rintro b ⟨j, hj⟩
    by_cases hj2 : j < H0.length
    · rw [fp0 j hj2, (hrlt j hj2).1] at hj
      exact ⟨_, hmem j (by omega), hj⟩
    · rw [fpo j hj2] at hj; simp at hj
  have foot0' : ∀ b, Foot (is.map fun i => φ.getD i []) b → Foot φ b := fun b hb => let ⟨i, _, h⟩ := foot0 b hb; ⟨i, h⟩
  have s0 : Sim S (is.map fun i => φ.getD i []) H0 w := by
    refine ⟨by simp [hlen], ?_, ?_, fun b hb => s.lt b (foot0' b hb), fun b hb => s.off b (foot0' b hb), s.slt, ?_⟩
    · intro j
      by_cases hj : j < H0.length
      · rw [fp0 j hj]; exact s.nd _
      · rw [fpo j hj]; simp
    · intro i j b hi hj
      by_cases hi2 : i < H0.length
      · by_cases hj2 : j < H0.length
        · rw [fp0 _ hi2] at hi
          rw [fp0 _ hj2] at hj
          exact rho_inj hnd hlt (s.dj _ _ b hi hj)
        · rw [fpo j hj2] at hj; simp at hj
      · rw [fpo i hi2] at hi; simp at hi
    · intro j r hj
      obtain ⟨hj2, hje⟩ := some_getD (.dead 0) hj
      have := s.rel _ _ (getD_some (.dead 0) (hrlt j hj2).2)
      rw [hH j hj2, hje] at this
      rw [fp0 j hj2]
      exact e0.rdown this (hb r (List.mem_of_getElem? hj))
  have hmap : ∀ j, j < args.length → (args.map (renI (rho is H.length))).getD j .junk = renI (rho is H.length) (args.getD j .junk) := by
    intro j hj
    simp [List.getD, hj]
  refine h.2 S (is.map fun i => φ.getD i []) vs w Rr s0 (by simpa using hvl) (fun j hj => ?_) ?_
  · have := hv j (by simpa using hj)
    rw [hmap j hj] at this
    exact e0.down this (ha _ (by simp [List.getD, hj]))
  intro v w' S' φ' r H' s' hvr he ht hpo
  -- the caller's picture afterwards
  have hle : is.length ≤ φ'.length := by rw [s'.len, hlen]; exact ht.len
  have hle' : is.length ≤ (H'.map (renR (rho is H.length))).length := by simp; rw [hlen]; exact ht.len
  have hφl : φ.length = H.length := s.len
  have hltφ : ∀ i ∈ is, i < φ.length := fun i hi => by rw [hφl]; exact hlt i hi
  have gH : ∀ j, j < H'.length → (putR is (H'.map (renR (rho is H.length))) H)[rho is H.length j]? = some (renR (rho is H.length) (H'.getD j (.dead 0))) := by
    intro j hj
    rw [putR_at is _ H j hnd hlt hle' (by simpa using hj)]
    simp [List.getD, hj]
  have gφ : ∀ j, j < H'.length → (putR is φ' φ).getD (rho is H.length j) [] = φ'.getD j [] := by
    intro j hj
    have := putR_at is φ' φ j hnd hltφ hle (by rw [s'.len]; exact hj)
    rw [hφl] at this
    exact getD_opt _ this
  have oH : ∀ i, i < H.length → i ∉ is → (putR is (H'.map (renR (rho is H.length))) H)[i]? = H[i]? := fun i hi hn => putR_other is _ H i hle' hi hn
  have oφ : ∀ i, i < H.length → i ∉ is → (putR is φ' φ).getD i [] = φ.getD i [] := fun i hi hn => getD_opt _ (putR_other is φ' φ i hle (by rw [hφl]; exact hi) hn)
  have lH : (putR is (H'.map (renR (rho is H.length))) H).length = H.length + (H'.length - is.length) := by rw [putR_length _ _ _ hle']; simp
  have lφ : (putR is φ' φ).length = H.length + (H'.length - is.length) := by rw [putR_length _ _ _ hle, s'.len, hφl]
  have cases' : ∀ i, i < H.length + (H'.length - is.length) → (∃ j, j < H'.length ∧ i = rho is H.length j) ∨ (i < H.length ∧ i ∉ is) := fun i hi => rho_cases is H.length H'.length i hi (by simpa using hle')
  have fpbig : ∀ i b, b ∈ (putR is φ' φ).getD i [] → i < H.length + (H'.length - is.length) := by
    intro i b hb
    by_cases hi : i < (putR is φ' φ).length
    · rw [lφ] at hi; exact hi
    · rw [List.getD, List.getElem?_eq_none (by omega)] at hb; simp at hb
  have e1 : Emb (rho is H.length) H'.length H' φ' (putR is (H'.map (renR (rho is H.length))) H) (putR is φ' φ) := by
    refine ⟨rfl, fun j hj => ?_, fun j hj => (some_getD _ (gH j hj)).2, fun j hj => gφ j hj⟩
    exact (List.getElem?_eq_some_iff.1 (gH j hj)).1
  have offother : ∀ i b, i < H.length → i ∉ is → b ∈ φ.getD i [] → ¬ Foot (is.map fun i => φ.getD i []) b := by
    intro i b hi hn hb hf
    obtain ⟨i', hi', hb'⟩ := foot0 b hf
    exact hn (s.dj i i' b hb hb' ▸ hi')
  have keepo : ∀ i b, i < H.length → i ∉ is → b ∈ φ.getD i [] → w'.heap[b]? = w.heap[b]? := fun i b hi hn hb => he.keep b (s.lt b ⟨i, hb⟩) (offother i b hi hn hb)
  have footc : ∀ b, Foot (putR is φ' φ) b → Foot φ' b ∨ ∃ i, i < H.length ∧ i ∉ is ∧ b ∈ φ.getD i [] := by
    rintro b ⟨i, hb⟩
    rcases cases' i (fpbig i b hb) with ⟨j, hj, rfl⟩ | ⟨hi, hn⟩
    · rw [gφ j hj] at hb; exact .inl ⟨j, hb⟩
    · rw [oφ i hi hn] at hb; exact .inr ⟨i, hi, hn, hb⟩
  have sepo : ∀ i b, i < H.length → i ∉ is → b ∈ φ.getD i [] → ¬ Foot φ' b := by
    intro i b hi hn hb hf
    rcases he.fp b hf with h1 | h1
    · exact offother i b hi hn hb h1
    · have := s.lt b ⟨i, hb⟩; omega
  have tr : Tr H.length S φ H w S' (putR is φ' φ) (putR is (H'.map (renR (rho is H.length))) H) w' := by
    have split : ∀ i, i < H.length → (∃ j, j < H0.length ∧ i = rho is H.length j) ∨ i ∉ is := by
      intro i hi
      by_cases hm : i ∈ is
      · obtain ⟨j, hj, rfl⟩ := List.getElem_of_mem hm
        exact .inl ⟨j, by omega, by simp [rho, hj]⟩
      · exact .inr hm
    have hH0 : ∀ j, j < H0.length → H[rho is H.length j]? = some (renR (rho is H.length) (H0.getD j (.dead 0))) := fun j hj => by rw [getD_some (.dead 0) (hrlt j hj).2, hH j hj]
    have hl0 : H0.length ≤ H'.length := ht.len
    refine ⟨he.sub, ht.keep, Nat.le_refl _, by rw [lH]; omega, ?_, ?_, ?_, ?_, ?_⟩
    · intro i hi
      rcases split i hi with ⟨j, hj, rfl⟩ | hn
      · rw [hH j hj, (some_getD (.dead 0) (gH j (by omega))).2]
        have := ht.gen j hj
        generalize H0.getD j (.dead 0) = a at this
        generalize H'.getD j (.dead 0) = b at this
        cases a <;> cases b <;> simpa only [renR, R.gen] using this
      · rw [getD_opt (.dead 0) (oH i hi hn)]; exact Nat.le_refl _
    · intro i g k dp' l' hi hl'
      rcases split i hi with ⟨j, hj, rfl⟩ | hn
      · rw [gH j (by omega)] at hl'
        have hrow : H'[j]? = some (.row g k dp' l') := by
          rw [getD_some (.dead 0) (show j < H'.length by omega)]
          generalize H'.getD j (.dead 0) = b at hl'
          cases b <;> simp only [renR, Option.some.injEq, reduceCtorEq] at hl'
          rw [hl']
        rcases ht.row j g k dp' l' hj hrow with h1 | ⟨dp, l, h1, h2, h3, h4⟩
        · left
          rw [hH j hj]
          generalize H0.getD j (.dead 0) = a at h1
          cases a <;> simpa only [renR, R.gen] using h1
        · right
          refine ⟨dp, l, ?_, ?_, h3, ?_⟩
          · rw [hH0 j hj, (some_getD (.dead 0) h1).2]; rfl
          · rw [gφ j (by omega), h2, fp0 j hj]
          · rw [← fp0 j hj]; exact h4
      · rw [oH i hi hn] at hl'
        exact .inr ⟨dp', l', hl', oφ i hi hn, Nat.le_refl _, fun b rest arr ty e1 e2 => ⟨arr, ty, by rw [keepo i b hi hn (by rw [e1]; simp)]; exact e2, Nat.le_refl _⟩⟩
    · intro i cs' hi hl'
      rcases split i hi with ⟨j, hj, rfl⟩ | hn
      · rw [gH j (by omega)] at hl'
        have hroot : ∃ cs0, H'[j]? = some (.box cs0) := by
          rw [getD_some (.dead 0) (show j < H'.length by omega)]
          generalize H'.getD j (.dead 0) = b at hl'
          cases b <;> simp only [renR, Option.some.injEq, reduceCtorEq] at hl'
          exact ⟨_, rfl⟩
        obtain ⟨cs0, h0⟩ := hroot
        obtain ⟨cs, h1, h2⟩ := ht.box j cs0 hj h0
        exact ⟨renL _ cs, by rw [hH0 j hj, (some_getD (.dead 0) h1).2]; rfl, by rw [gφ j (by omega), h2, fp0 j hj]⟩
      · rw [oH i hi hn] at hl'
        exact ⟨cs', hl', oφ i hi hn⟩
    · intro i es' hi hl'
      rcases split i hi with ⟨j, hj, rfl⟩ | hn
      · rw [gH j (by omega)] at hl'
        have hroot : ∃ cs0, H'[j]? = some (.map cs0) := by
          rw [getD_some (.dead 0) (show j < H'.length by omega)]
          generalize H'.getD j (.dead 0) = b at hl'
          cases b <;> simp only [renR, Option.some.injEq, reduceCtorEq] at hl'
          exact ⟨_, rfl⟩
        obtain ⟨cs0, h0⟩ := hroot
        obtain ⟨cs, h1, h2⟩ := ht.map j cs0 hj h0
        exact ⟨cs, by rw [hH0 j hj, (some_getD (.dead 0) h1).2]; rfl, by rw [gφ j (by omega), h2, fp0 j hj]⟩
      · rw [oH i hi hn] at hl'
        exact ⟨es', hl', oφ i hi hn⟩
    · intro i x hi hl'
      rcases split i hi with ⟨j, hj, rfl⟩ | hn
      · rw [gH j (by omega)] at hl'
        have hroot : H'[j]? = some (.val x) := by
          rw [getD_some (.dead 0) (show j < H'.length by omega)]
          generalize H'.getD j (.dead 0) = b at hl'
          cases b <;> simp only [renR, Option.some.injEq, reduceCtorEq] at hl'
          rw [hl']
        obtain ⟨h1, h2, h3⟩ := ht.val j x hj hroot
        exact ⟨by rw [hH0 j hj, (some_getD (.dead 0) h1).2]; rfl, by rw [gφ j (by omega), h2, fp0 j hj], by rw [← fp0 j hj]; exact h3⟩
      · rw [oH i hi hn] at hl'
        exact ⟨hl', oφ i hi hn, fun b hb => keepo i b hi hn hb⟩
  refine hr v w' S' (putR is φ' φ) _ _ ⟨by rw [lφ, lH], ?_, ?_, ?_, ?_, s'.slt, ?_⟩ (e1.up hvr) ?_ tr ⟨r, H', hpo, rfl, rfl⟩
  · intro i
    by_cases hi : i < H.length + (H'.length - is.length)
    · rcases cases' i hi with ⟨j, hj, rfl⟩ | ⟨hi, hn⟩
      · rw [gφ j hj]; exact s'.nd j
      · rw [oφ i hi hn]; exact s.nd i
    · rw [List.getD, List.getElem?_eq_none (by omega)]; simp
  · intro i j b hi hj
    rcases cases' i (fpbig i b hi) with ⟨i', hi', rfl⟩ | ⟨hi', hn⟩
    · rw [gφ i' hi'] at hi
      rcases cases' j (fpbig j b hj) with ⟨j', hj', rfl⟩ | ⟨hj', hn'⟩
      · rw [gφ j' hj'] at hj
        rw [s'.dj i' j' b hi hj]
      · rw [oφ j hj' hn'] at hj
        exact absurd ⟨i', hi⟩ (sepo j b hj' hn' hj)
    · rw [oφ i hi' hn] at hi
      rcases cases' j (fpbig j b hj) with ⟨j', hj', rfl⟩ | ⟨hj', hn'⟩
      · rw [gφ j' hj'] at hj
        exact absurd ⟨j', hj⟩ (sepo i b hi' hn hi)
      · rw [oφ j hj' hn'] at hj
        exact s.dj i j b hi hj
  · intro b hb
    rcases footc b hb with h1 | ⟨i, hi, hn, h1⟩
    · exact s'.lt b h1
    · exact Nat.lt_of_lt_of_le (s.lt b ⟨i, h1⟩) he.size
  · intro b hb hS
    rcases footc b hb with h1 | ⟨i, hi, hn, h1⟩
    · exact s'.off b h1 hS
    · rcases he.sfp b hS with h2 | h2 | h2
      · exact s.off b ⟨i, h1⟩ h2
      · exact offother i b hi hn h1 h2
      · have := s.lt b ⟨i, h1⟩; omega
  · intro i r0 hr0
    have hi := (List.getElem?_eq_some_iff.1 hr0).1
    rw [lH] at hi
    rcases cases' i hi with ⟨j, hj, rfl⟩ | ⟨hi, hn⟩
    · rw [gH j hj] at hr0
      simp only [Option.some.injEq] at hr0
      subst hr0
      rw [gφ j hj]
      exact e1.rup (s'.rel j _ (getD_some (.dead 0) hj))
    · rw [oH i hi hn] at hr0
      rw [oφ i hi hn]
      exact (s.rel i r0 hr0).tr tr fun b hb => keepo i b hi hn hb
  · refine ⟨he.os, he.tape, he.output, he.size, fun b hb hf => he.keep b hb fun h1 => hf (foot0' b h1), ?_, he.sub, ?_⟩
    · intro b hb
      rcases footc b hb with h1 | ⟨i, hi, hn, h1⟩
      · exact (he.fp b h1).imp (foot0' b) id
      · exact .inl ⟨i, h1⟩
    · intro b hb
      rcases he.sfp b hb with h2 | h2 | h2
      · exact .inl h2
      · exact .inr (.inl (foot0' b h2))
      · exact .inr (.inr h2)

end Go.VL

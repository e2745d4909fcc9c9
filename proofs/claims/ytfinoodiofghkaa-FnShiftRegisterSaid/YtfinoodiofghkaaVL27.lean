/- Part 27: procedures (functions that write to what they are handed); results taken as roots of one's own. Conditions: none; lemmas. -/
import Derived.Test.YtfinoodiofghkaaVL26
set_option linter.unusedVariables false
set_option linter.unusedSimpArgs false
namespace Go.VL

variable {E : Env} {P : Program} {S : Nat → Prop} {φ : List (List Nat)} {H : List R} {w : World} {n : Nat} {fr : Fr}

/-- Called with these in this heap, the function returns 'r0' and leaves 'H1'. -/
def Proc (P : Program) (f : Nat) (args : List I) (H : List R) (r0 : I) (H1 : List R) : Prop := ICall P f args H (fun r H' => r = r0 ∧ H' = H1)

/-- What is returned and left, read as 'r0' and 'H1'. -/
def fitE (n : Nat) (r : I) (H : List R) (r0 : I) (H1 : List R) : Prop := fit1 (killH H1.length H) r r0 ∧ n ≤ H1.length ∧ fitH H H1 ∧ r0.idlt H1.length ∧ idltH H1.length H1
@[go_sem] theorem fitE_eq {r : I} {r0 : I} {H1 : List R} : fitE n r H r0 H1 = (fit1 (killH H1.length H) r r0 ∧ n ≤ H1.length ∧ fitH H H1 ∧ r0.idlt H1.length ∧ idltH H1.length H1) := rfl
@[go_sem] theorem fit1_tup {K : List R} {xs : List I} {y : I} : fit1 K (.tup xs) y = fitS K (.tup xs) y := fit1_S nofun
@[go_sem] theorem idlt_tup {m : Nat} {cs : List I} : (I.tup cs).idlt m = idltL m cs := by simp only [I.idlt]
attribute [go_sem] I.tup.injEq

theorem icall_of {E : Env} (hT : TOK E.P E.T) {f : Nat} {fn : Func} {c : Code} {nt : Nat} {args : List I} {H : List R} {Po : I → List R → Prop} (hn : E.n = H.length) (fuel : Nat) (hf : E.P.funcs[f]? = some fn) (hb : fn.body = some c)
    (hnm : (fn.name == "runtime.NumGoroutine") = false) (hnt : fn.ntmps = nt) (hl : args.length ≤ nt)
    (h : execC E fuel c [] (endsWith E.T fn (fun fr r H' => ∃ r0 H1, fitE H.length r H' r0 H1 ∧ Po r0 H1)) ⟨nt, initM 0 args⟩ H) : ICall E.P f args H Po := by
  subst hnt
  refine icall_intro hT hf hb hnm hl ?_
  have := run_code hT fuel h
  rw [hn] at this
  refine iwp_mono this ?_
  have fin : ∀ (fr' : Fr) (r : I) (H' : List R), (∃ r0 H1, fitE H.length r H' r0 H1 ∧ Po r0 H1) → ∃ fr'' H'', Ghost H.length (⟨1, [(0, r)]⟩ : Fr) H' fr'' H'' ∧ fr''.n = 1 ∧ Po (fr''.get 0) H'' := by
    rintro fr' r H' ⟨r0, H1, ⟨h1, h2, h3, h4, h5⟩, hpo⟩
    refine ⟨⟨1, [(0, r0)]⟩, H1, fit_ghost ⟨rfl, h2, ⟨?_, trivial⟩, h3, ⟨h4, trivial⟩, h5⟩, rfl, ?_⟩
    · show fit1 _ (look 0 [(0, r)]) r0
      simpa [look] using h1
    · show Po (look 0 [(0, r0)]) H1
      simpa [look] using hpo
  intro e fr' H' hq
  cases e with
  | normal =>
    simp only [endsWith] at hq ⊢
    cases hr : resI E.T H' fr' fn.results.toList with
    | none => simp only [hr] at hq
    | some r => simp only [hr] at hq; exact ⟨hq.1, fin fr' r.2 H' hq.2⟩
  | ret =>
    simp only [endsWith] at hq ⊢
    cases hr : resI E.T H' fr' fn.results.toList with
    | none => simp only [hr] at hq
    | some r => simp only [hr] at hq; exact ⟨hq.1, fin fr' r.2 H' hq.2⟩
  | exit id => exact hq.elim
  | goto l => exact hq.elim
  | panic ch => exact hq.elim
  | outgrown => exact hq.elim

theorem proc_of {E : Env} (hT : TOK E.P E.T) {f : Nat} {fn : Func} {c : Code} {nt : Nat} {args : List I} {H : List R} {r0 : I} {H1 : List R} (hn : E.n = H.length) (fuel : Nat) (hf : E.P.funcs[f]? = some fn) (hb : fn.body = some c)
    (hnm : (fn.name == "runtime.NumGoroutine") = false) (hnt : fn.ntmps = nt) (hl : args.length ≤ nt)
    (h : execC E fuel c [] (endsWith E.T fn (fun fr r H' => fitE H.length r H' r0 H1)) ⟨nt, initM 0 args⟩ H) : Proc E.P f args H r0 H1 := by
  refine icall_of hT hn fuel hf hb hnm hnt hl ?_
  have : (fun (fr : Fr) (r : I) (H' : List R) => fitE H.length r H' r0 H1) = (fun fr r H' => ∃ r0' H1', fitE H.length r H' r0' H1' ∧ r0' = r0 ∧ H1' = H1) := by
    funext fr r H'
    exact propext ⟨fun h => ⟨r0, H1, h, rfl, rfl⟩, fun ⟨_, _, h, e1, e2⟩ => by rw [e1, e2] at h; exact h⟩
  rw [this] at h
  exact h

/-- The callee's roots, where they lie. -/
def frameOk (ρ : Nat → Nat) (H : List R) : List Nat → List R → Prop
  | i :: is, r :: rs => rootAt H i = some (renR ρ r) ∧ frameOk ρ H is rs
  | [], _ => True
  | _ :: _, [] => True
theorem frameOk_get {ρ : Nat → Nat} {H : List R} : ∀ {is : List Nat} {rs : List R}, frameOk ρ H is rs → is.length = rs.length → ∀ j, j < is.length → H[is.getD j 0]? = some (renR ρ (rs.getD j (.dead 0)))
  | [], _, _, _, j, hj => by simp at hj
  | i :: is, [], _, h, j, _ => by simp at h
  | i :: is, r :: rs, h, hl, 0, _ => by simpa [← rootAt_eq] using h.1
  | i :: is, r :: rs, h, hl, j + 1, hj => by simpa using frameOk_get h.2 (by simpa using hl) j (by simpa using hj)
def callC (is : List Nat) (args args0 : List I) (H H0 : List R) : Prop :=
  is.Nodup ∧ is.length = H0.length ∧ args = args0.map (renI (rho is H.length)) ∧ frameOk (rho is H.length) H is H0 ∧ idltL H0.length args0 ∧ idltH H0.length H0
@[go_sem] theorem callC_eq {is : List Nat} {args args0 : List I} {H H0 : List R} : callC is args args0 H H0 =
  (is.Nodup ∧ is.length = H0.length ∧ args = args0.map (renI (rho is H.length)) ∧ frameOk (rho is H.length) H is H0 ∧ idltL H0.length args0 ∧ idltH H0.length H0) := rfl
@[go_sem] theorem frameOk_nil {ρ : Nat → Nat} {H rs : List R} : frameOk ρ H [] rs = True := by simp only [frameOk]
@[go_sem] theorem frameOk_cons {ρ : Nat → Nat} {H rs : List R} {i : Nat} {is : List Nat} {r : R} : frameOk ρ H (i :: is) (r :: rs) = (rootAt H i = some (renR ρ r) ∧ frameOk ρ H is rs) := by simp only [frameOk]
attribute [go_sem] Option.some.injEq

/-- A procedure called where its roots lie among others. -/
theorem call_icall {f : Nat} {args0 args : List I} {H0 : List R} {Po K : I → List R → Prop} (h : ICall P f args0 H0 Po) (is : List Nat) {H : List R} (hc : callC is args args0 H H0)
    (hk : ∀ r0 H1, Po r0 H1 → K (renI (rho is H.length) r0) (putR is (H1.map (renR (rho is H.length))) H)) : ICall P f args H K := by
  obtain ⟨h1, h2, rfl, h5, h6, h7⟩ := hc
  have hg := frameOk_get h5 h2
  refine (ICall.frame h is h1 h2 ?_ ?_ ?_ ?_).mono ?_
  · intro i hi
    obtain ⟨j, hj, rfl⟩ := List.getElem_of_mem hi
    have := (List.getElem?_eq_some_iff.1 (hg j hj)).1
    simpa [List.getD, hj] using this
  · intro j hj
    have e : rho is H.length j = is.getD j 0 := by unfold rho; rw [if_pos (by omega)]
    have := (some_getD (.dead 0) (hg j (by omega))).2
    rw [e]
    exact this
  · intro x hx
    obtain ⟨j, hj, rfl⟩ := List.getElem_of_mem hx
    have := idltL_getD h6 j hj
    simpa [List.getD, hj] using this
  · intro r hr
    obtain ⟨j, hj, rfl⟩ := List.getElem_of_mem hr
    exact idltH_get h7 j _ (List.getElem?_eq_getElem hj)
  rintro r H' ⟨r', H'', hp, rfl, rfl⟩
  exact hk _ _ hp
theorem call_proc {f : Nat} {args0 args : List I} {H0 : List R} {r0 : I} {H1 : List R} {K : I → List R → Prop} (h : Proc P f args0 H0 r0 H1) (is : List Nat) {H : List R} (hc : callC is args args0 H H0)
    (hk : K (renI (rho is H.length) r0) (putR is (H1.map (renR (rho is H.length))) H)) : ICall P f args H K :=
  call_icall h is hc fun r H' hp => by obtain ⟨rfl, rfl⟩ := hp; exact hk

section rules
variable {ρ : Nat → Nat}
@[go_sem] theorem renI_d {x : D} : renI ρ (.d x) = .d x := by simp only [renI]
@[go_sem] theorem renI_sl {i g k lo n : Nat} : renI ρ (.sl i g k lo n) = .sl (ρ i) g k lo n := by simp only [renI]
@[go_sem] theorem renI_ptr {i off : Nat} : renI ρ (.ptr i off) = .ptr (ρ i) off := by simp only [renI]
@[go_sem] theorem renI_eptr {i g k idx off : Nat} {z : D} : renI ρ (.eptr i g k idx off z) = .eptr (ρ i) g k idx off z := by simp only [renI]
@[go_sem] theorem renI_map {i : Nat} : renI ρ (.map i) = .map (ρ i) := by simp only [renI]
@[go_sem] theorem renI_agg {cs : List I} : renI ρ (.agg cs) = .agg (renL ρ cs) := by simp only [renI]
@[go_sem] theorem renI_tup {cs : List I} : renI ρ (.tup cs) = .tup (renL ρ cs) := by simp only [renI]
@[go_sem] theorem renL_nil : renL ρ [] = [] := rfl
@[go_sem] theorem renL_cons {x : I} {r : List I} : renL ρ (x :: r) = renI ρ x :: renL ρ r := by simp only [renL]
@[go_sem] theorem renR_box {cs : List I} : renR ρ (.box cs) = .box (renL ρ cs) := by simp only [renR]
@[go_sem] theorem renR_row {g k : Nat} {dp : Bool} {l : List D} : renR ρ (.row g k dp l) = .row g k dp l := by simp only [renR]
@[go_sem] theorem renR_map {l : List (D × D)} : renR ρ (.map l) = .map l := by simp only [renR]
@[go_sem] theorem putR_nil {α : Type} {rs l : List α} : putR [] rs l = l ++ rs := by simp only [putR]
@[go_sem] theorem putR_cons {α : Type} {i : Nat} {is : List Nat} {r : α} {rs l : List α} : putR (i :: is) (r :: rs) l = putR is rs (l.set i r) := by simp only [putR]
@[go_sem] theorem rho_eq {is : List Nat} {N j : Nat} : rho is N j = if j < is.length then is.getD j 0 else N + (j - is.length) := rfl
end rules

/-! ### Results taken as roots of one's own -/
mutual
def unpI : D → Nat → I × List R
  | .lst k l, N => (.sl N 0 k 0 l.length, [.row 0 k true l])
  | .agg cs, N => (.agg (unpL cs N).1, (unpL cs N).2)
  | .tup cs, N => (.tup (unpL cs N).1, (unpL cs N).2)
  | x, N => (.d x, [])
def unpL : List D → Nat → List I × List R
  | [], N => ([], [])
  | x :: r, N => ((unpI x N).1 :: (unpL r (N + (unpI x N).2.length)).1, (unpI x N).2 ++ (unpL r (N + (unpI x N).2.length)).2)
end

theorem Sim.push2 (s : Sim S φ H w) {r' : R} {fp' : List Nat} (hnd : fp'.Nodup) (hnew : ∀ b ∈ fp', ¬ Foot φ b ∧ ¬ S b ∧ b < w.heap.size)
    (hr : Tr H.length S φ H w S (φ ++ [fp']) (H ++ [r']) w → RRel S (φ ++ [fp']) (H ++ [r']) w fp' r') :
    Sim S (φ ++ [fp']) (H ++ [r']) w ∧ Tr H.length S φ H w S (φ ++ [fp']) (H ++ [r']) w ∧ ∀ b, Foot (φ ++ [fp']) b → Foot φ b ∨ b ∈ fp' := by
  have hget : ∀ j, (φ ++ [fp']).getD j [] = if j = H.length then fp' else φ.getD j [] := by
    intro j
    rw [getD_push, s.len]
  have hH : ∀ j, j < H.length → (H ++ [r'])[j]? = H[j]? := fun j hj => by simp [List.getElem?_append, hj]
  have htr : Tr H.length S φ H w S (φ ++ [fp']) (H ++ [r']) w := by
    refine ⟨fun _ h => h, fun _ _ => rfl, Nat.le_refl _, by simp, ?_, ?_, ?_, ?_, ?_⟩
    · intro j hj
      simp only [List.getD, hH j hj]
      exact Nat.le_refl _
    · intro j g k dp' l' hj hl'
      rw [hH j hj] at hl'
      exact .inr ⟨dp', l', hl', by rw [hget, if_neg (Nat.ne_of_lt hj)], Nat.le_refl _, fun b rest arr ty e1 e2 => ⟨arr, ty, e2, Nat.le_refl _⟩⟩
    · intro j cs' hj hl'
      rw [hH j hj] at hl'
      exact ⟨cs', hl', by rw [hget, if_neg (Nat.ne_of_lt hj)]⟩
    · intro j cs' hj hl'
      rw [hH j hj] at hl'
      exact ⟨cs', hl', by rw [hget, if_neg (Nat.ne_of_lt hj)]⟩
    · intro j x hj hl'
      rw [hH j hj] at hl'
      exact ⟨hl', by rw [hget, if_neg (Nat.ne_of_lt hj)], fun b hb => rfl⟩
  have hfoot : ∀ b, Foot (φ ++ [fp']) b → Foot φ b ∨ b ∈ fp' := by
    rintro b ⟨j, hj⟩
    rw [hget] at hj
    by_cases h : j = H.length
    · rw [if_pos h] at hj
      exact .inr hj
    · rw [if_neg h] at hj
      exact .inl ⟨j, hj⟩
  refine ⟨⟨by simp [s.len], ?_, ?_, ?_, ?_, s.slt, ?_⟩, htr, hfoot⟩
  · intro j
    rw [hget]
    split
    · exact hnd
    · exact s.nd j
  · intro j j' b hb hb'
    rw [hget] at hb hb'
    by_cases h : j = H.length <;> by_cases h' : j' = H.length
    · rw [h, h']
    · rw [if_pos h] at hb
      rw [if_neg h'] at hb'
      exact absurd ⟨j', hb'⟩ (hnew b hb).1
    · rw [if_neg h] at hb
      rw [if_pos h'] at hb'
      exact absurd ⟨j, hb⟩ (hnew b hb').1
    · rw [if_neg h] at hb
      rw [if_neg h'] at hb'
      exact s.dj j j' b hb hb'
  · intro b hb
    rcases hfoot b hb with h1 | h1
    · exact s.lt b h1
    · exact (hnew b h1).2.2
  · intro b hb hS
    rcases hfoot b hb with h1 | h1
    · exact s.off b h1 hS
    · exact (hnew b h1).2.1 hS
  · intro j r hj
    rw [hget]
    by_cases h : j = H.length
    · subst h
      have : r' = r := by simpa using hj
      subst this
      rw [if_pos rfl]
      exact hr htr
    · rw [if_neg h]
      have hlt : j < H.length := by
        have := (List.getElem?_eq_some_iff.1 hj).1
        simp at this
        omega
      rw [hH j hlt] at hj
      exact (s.rel j r hj).tr htr fun b hb => rfl

/-- What 'unpI' says of a value. -/
structure UnpR (S : Nat → Prop) (φ : List (List Nat)) (H : List R) (w : World) (fp : List Nat) (rs : List R) (φ' : List (List Nat)) : Prop where
  sim : Sim S φ' (H ++ rs) w
  tr : Tr H.length S φ H w S φ' (H ++ rs) w
  foot : ∀ b, Foot φ' b → Foot φ b ∨ b ∈ fp

theorem UnpR.nil (s : Sim S φ H w) (fp : List Nat) : UnpR S φ H w fp [] φ := ⟨by simpa using s, by simpa using Tr.refl (Nat.le_refl _), fun b h => .inl h⟩

mutual
theorem unpI_sound : ∀ (x : D) {S : Nat → Prop} {φ : List (List Nat)} {H : List R} {w : World} {v : Value} {fp : List Nat}, Sim S φ H w → OW w x v fp → fp.Nodup → (∀ b ∈ fp, ¬ Foot φ b ∧ ¬ S b) →
    ∃ φ', UnpR S φ H w fp (unpI x H.length).2 φ' ∧ V S φ' (H ++ (unpI x H.length).2) w (unpI x H.length).1 v
  | .int k n, S, φ, H, w, v, fp, s, ho, hnd, hnew => ⟨φ, UnpR.nil s fp, by simpa [unpI] using V.d (by cases ho; exact .int (by assumption))⟩
  | .bool b, S, φ, H, w, v, fp, s, ho, hnd, hnew => ⟨φ, UnpR.nil s fp, by simpa [unpI] using V.d (by cases ho; exact .bool)⟩
  | .raw b, S, φ, H, w, v, fp, s, ho, hnd, hnew => ⟨φ, UnpR.nil s fp, by simpa [unpI] using V.d (by cases ho; exact .raw (by assumption))⟩
  | .nil, S, φ, H, w, v, fp, s, ho, hnd, hnew => ⟨φ, UnpR.nil s fp, by simpa [unpI] using V.d (by cases ho; exact .nil)⟩
  | .ptr cs, S, φ, H, w, v, fp, s, ho, hnd, hnew => by cases ho
  | .fn f cs, S, φ, H, w, v, fp, s, ho, hnd, hnew => by cases ho
  | .agg cs, S, φ, H, w, v, fp, s, ho, hnd, hnew => by
    cases ho with
    | @agg _ vs F hl h1 hj =>
      obtain ⟨φ', u, e1, e2⟩ := unpL_sound cs (g := fun j => vs.getD j undef) s hj hnd hnew
      refine ⟨φ', by simpa only [unpI] using u, ?_⟩
      simp only [unpI]
      refine .agg (e1.trans hl) (fun j hj' => ?_) (fun j hj' => e2 j (e1 ▸ hj'))
      exact ((hj j (e1 ▸ hj')).fz (S := fun _ => True) fun _ _ => trivial).one (h1 _ (by simp [List.getD, show j < cs.length from e1 ▸ hj']))
  | .tup cs, S, φ, H, w, v, fp, s, ho, hnd, hnew => by
    cases ho with
    | @tup _ vs F hl hj =>
      obtain ⟨φ', u, e1, e2⟩ := unpL_sound cs (g := fun j => vs.getD j undef) s hj hnd hnew
      refine ⟨φ', by simpa only [unpI] using u, ?_⟩
      simp only [unpI]
      exact .tup (e1.trans hl) (fun j hj' => e2 j (e1 ▸ hj'))
  | .lst k l, S, φ, H, w, v, fp, s, ho, hnd, hnew => by
    have hlt := ho.lt
    simp only [unpI]
    cases ho with
    | lst0 hk =>
      obtain ⟨g1, g2, g3⟩ := s.push2 (r' := .row 0 k true []) (fp' := []) (by simp) (by simp) (fun _ => ⟨hk, by simp, by simp [flat], Nat.zero_le _, .inl ⟨rfl, rfl⟩⟩)
      refine ⟨_, ⟨g1, g2, g3⟩, .sl (by simp) (Nat.zero_le _) (fun dp l hl => ?_) rfl⟩
      have : (φ ++ [[]]).getD H.length [] = [] := by rw [getD_push, if_pos s.len.symm]
      rw [this]
      exact ⟨.inl ⟨rfl, rfl, rfl, rfl⟩, by simp⟩
    | @lst _ _ b cap arr ty F hk he h1 hn hcap hlim hb hfit hf =>
      obtain ⟨g1, g2, g3⟩ := s.push2 (r' := .row 0 k true l) (fp' := b :: (List.range (flat l).length).flatMap F) hnd (fun b' hb' => ⟨(hnew b' hb').1, (hnew b' hb').2, hlt b' hb'⟩)
        (fun _ => ⟨hk, he, h1, hlim, .inr ⟨b, _, arr, ty, rfl, hb, Nat.le_trans (Nat.mul_le_mul_right _ hn) hfit, ⟨F, rfl, hf⟩⟩⟩)
      refine ⟨_, ⟨g1, g2, g3⟩, .sl (by simp) (Nat.zero_le _) (fun dp l' hl => ?_) rfl⟩
      have e : (φ ++ [b :: (List.range (flat l).length).flatMap F]).getD H.length [] = b :: (List.range (flat l).length).flatMap F := by rw [getD_push, if_pos s.len.symm]
      rw [e]
      simp only [List.getElem?_append_right (Nat.le_refl H.length), Nat.sub_self, List.getElem?_cons_zero, Option.some.injEq, R.row.injEq] at hl
      obtain ⟨_, _, _, rfl⟩ := hl
      exact ⟨.inr ⟨b, _, cap, arr, ty, _, rfl, rfl, hn, hcap, hlim, hb, fun _ => ⟨by simp, by simpa using hfit⟩⟩, by simp⟩
theorem unpL_sound : ∀ (cs : List D) {S : Nat → Prop} {φ : List (List Nat)} {H : List R} {w : World} {g : Nat → Value} {F : Nat → List Nat}, Sim S φ H w → (∀ j, j < cs.length → OW w (cs.getD j .nil) (g j) (F j)) →
    ((List.range cs.length).flatMap F).Nodup → (∀ b ∈ (List.range cs.length).flatMap F, ¬ Foot φ b ∧ ¬ S b) →
    ∃ φ', UnpR S φ H w ((List.range cs.length).flatMap F) (unpL cs H.length).2 φ' ∧ (unpL cs H.length).1.length = cs.length ∧ ∀ j, j < cs.length → V S φ' (H ++ (unpL cs H.length).2) w ((unpL cs H.length).1.getD j .junk) (g j)
  | [], S, φ, H, w, g, F, s, ho, hnd, hnew => ⟨φ, UnpR.nil s _, by simp [unpL], by simp⟩
  | x :: r, S, φ, H, w, g, F, s, ho, hnd, hnew => by
    have hsplit : (List.range (x :: r).length).flatMap F = F 0 ++ (List.range r.length).flatMap (fun j => F (j + 1)) := by
      simp [List.range_succ_eq_map, List.flatMap_cons, List.flatMap_map]
    rw [hsplit] at hnd hnew
    obtain ⟨n1, n2, n3⟩ := List.nodup_append.1 hnd
    obtain ⟨φ1, u1, v1⟩ := unpI_sound x s (by simpa using ho 0 (by simp)) n1 (fun b hb => hnew b (by simp [hb]))
    obtain ⟨φ2, u2, e2, v2⟩ := unpL_sound r (g := fun j => g (j + 1)) (F := fun j => F (j + 1)) u1.sim (fun j hj => by simpa using ho (j + 1) (by simpa using hj)) n2 (fun b hb => by
      refine ⟨fun hf => ?_, (hnew b (by rw [List.mem_append]; exact .inr hb)).2⟩
      rcases u1.foot b hf with h | h
      · exact (hnew b (by rw [List.mem_append]; exact .inr hb)).1 h
      · exact n3 b h b hb rfl)
    have eN : H.length + (unpI x H.length).2.length = (H ++ (unpI x H.length).2).length := by simp
    rw [hsplit]
    simp only [unpL]
    rw [eN, ← List.append_assoc]
    refine ⟨φ2, ⟨by rw [← List.append_assoc]; exact u2.sim, by rw [← List.append_assoc]; exact u1.tr.trans (u2.tr.weaken (by simp)), ?_⟩, by simpa using e2, ?_⟩
    · intro b hb
      rcases u2.foot b hb with h | h
      · rcases u1.foot b h with h | h
        · exact .inl h
        · exact .inr (List.mem_append.2 (.inl h))
      · exact .inr (List.mem_append.2 (.inr h))
    · intro j hj
      cases j with
      | zero => simpa using v1.tr u2.tr
      | succ j => simpa using v2 j (by simpa using hj)
end

theorem unp_of (x : D) (H : List R) : Unp x H (unpI x H.length).1 (H ++ (unpI x H.length).2) := by
  intro S φ w w' v fp s ho hnd hnew hg
  obtain ⟨s1, t1, e1⟩ := grow_ext s hg S (fun b h => h) (fun b h => .inl h) (fun b h => Nat.lt_of_lt_of_le (s.slt b h) hg.size)
  obtain ⟨φ', u, hv⟩ := unpI_sound x s1 ho hnd (fun b hb => ⟨fun hf => by have := s.lt b hf; have := hnew b hb; omega, fun hS => by have := s.slt b hS; have := hnew b hb; omega⟩)
  refine ⟨S, φ', u.sim, t1.trans u.tr, ⟨hg.os, hg.tape, hg.output, hg.size, fun b hb _ => hg.keep b hb, ?_, fun _ h => h, fun b h => .inl h⟩, hv⟩
  intro b hb
  rcases u.foot b hb with h | h
  · exact .inl h
  · exact .inr (hnew b h)

/-- A call whose result is taken as roots of one's own. -/
theorem pcall_own {f : Nat} {ds : List D} {k : I → List R → Prop} {x : D} (h : Pure E.P f ds x) (hk : k (unpI x H.length).1 (H ++ (unpI x H.length).2)) : pcall E f ds H k := ⟨_, h.toE, fun y hy => by rw [hy]; exact .inr ⟨_, _, unp_of x H, hk⟩⟩
theorem pcallE_own {f : Nat} {ds : List D} {k : I → List R → Prop} {ψ : D → Prop} (h : PureE E.P f ds ψ) (hk : ∀ x, ψ x → k (unpI x H.length).1 (H ++ (unpI x H.length).2)) : pcall E f ds H k := ⟨_, h, fun y hy => .inr ⟨_, _, unp_of y H, hk y hy⟩⟩
@[go_sem] theorem unpI_lst {k N : Nat} {l : List D} : unpI (.lst k l) N = (.sl N 0 k 0 l.length, [.row 0 k true l]) := by simp only [unpI]
@[go_sem] theorem unpI_int {k : IntKind} {n : Int} {N : Nat} : unpI (.int k n) N = (.d (.int k n), []) := by simp only [unpI]
@[go_sem] theorem unpI_bool {b : Bool} {N : Nat} : unpI (.bool b) N = (.d (.bool b), []) := by simp only [unpI]
@[go_sem] theorem unpI_nil {N : Nat} : unpI .nil N = (.d .nil, []) := by simp only [unpI]
@[go_sem] theorem unpI_agg {cs : List D} {N : Nat} : unpI (.agg cs) N = (.agg (unpL cs N).1, (unpL cs N).2) := by simp only [unpI]
@[go_sem] theorem unpI_tup {cs : List D} {N : Nat} : unpI (.tup cs) N = (.tup (unpL cs N).1, (unpL cs N).2) := by simp only [unpI]
@[go_sem] theorem unpL_nil {N : Nat} : unpL [] N = ([], []) := by simp only [unpL]
@[go_sem] theorem unpL_cons {x : D} {r : List D} {N : Nat} : unpL (x :: r) N = ((unpI x N).1 :: (unpL r (N + (unpI x N).2.length)).1, (unpI x N).2 ++ (unpL r (N + (unpI x N).2.length)).2) := by simp only [unpL]

end Go.VL

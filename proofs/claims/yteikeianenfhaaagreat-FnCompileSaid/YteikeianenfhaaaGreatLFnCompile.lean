/- Proves that the law FnCompile answers true for every argument and leaves its arguments as they were. Conditions: none. -/
import Derived.Test.YteikeianenfhaaaGreatRows
import Derived.Test.YteikeianenfhaaaGreatQ4
import Derived.WalkKit
import Derived.ProofKit
import Derived.OpenShut
import Derived.SizedLaws
namespace Go.Proofs.YteikeianenfhaaaGreat.fnCompile
open Go.VL Go.ChangeShapes Go.WideShapes Go.ChangeAt Go.RowKit
set_option linter.unusedVariables false
set_option linter.unusedSimpArgs false

theorem own : ownKnob Tryz.prog.godebug = none := by kernel_rfl
theorem kids : Kids Tryz.prog (fun t => t < Tryz.prog.types.size) := kids_rows (by kernel_rfl) (by kernel_rfl)
theorem full : ∀ t e, t < Tryz.prog.types.size → Tryz.prog.underlying t = some (.slice e) → 0 < Tryz.prog.cellsOf e := slices_full_of Tryz.prog (by kernel_rfl)
theorem inside : ∀ t ∈ Tryz.f5.params.toList, t < Tryz.prog.types.size := of_decide_eq_true (by kernel_rfl)
theorem inTable : knownAll Tryz.tyT 9 Tryz.f5.params.toList := by
  rw [Tryz.params5]
  simp only [knownAll, known, go_sem, Nat.lt_irrefl, Nat.zero_lt_succ, Nat.reduceLT, implies_true, and_true, true_and]
theorem shaped : ∀ xs, shpAll Tryz.tyT 9 Tryz.f5.params.toList xs → Go.VL.Pure Tryz.prog 5 xs (.bool true) := by
  intro xs h
  rw [Tryz.params5] at h
  obtain ⟨x0, r0, rfl, h0, h⟩ := shpAll_cons h
  obtain rfl := shpAll_nil h
  obtain ⟨l, rfl⟩ := Tryz.shp_Bytes x0 h0
  exact Tryz.c_FnCompile l

def inp : Input := ⟨#[], #[.slice none 0 0], []⟩
theorem w1 (os : Os) : (World.plainHolding Tryz.checked.prog os inp).variablesB Tryz.checked.prog = true := by kernel_rfl
theorem w2 (os : Os) : ((World.plainHolding Tryz.checked.prog os inp).heap.toList.drop Tryz.checked.prog.globals.size).take ((begin Tryz.checked.prog (fun _ _ => 0) default).world.heap.size - Tryz.checked.prog.globals.size) =
    (begin Tryz.checked.prog (fun _ _ => 0) default).world.heap.toList.drop Tryz.checked.prog.globals.size := by kernel_rfl
theorem w3 (os : Os) : Input.okWideB Tryz.checked.prog (World.plainHolding Tryz.checked.prog os inp) 5 ⟨#[], inp.args, []⟩ = true := by kernel_rfl
theorem w4 (os : Os) (H : Type) (enc : TypeId × Value → H) : Rows.fnCompileSpec.preB enc Tryz.checked.prog Tryz.f5 Rows.fnCompileRow.domain false (World.plainHolding Tryz.checked.prog os inp).memory inp.args 8 = true := by kernel_rfl
theorem w5 (os : Os) (H : Type) (enc : TypeId × Value → H) : Rows.fnCompileSpec.sizedB enc Tryz.checked.prog Tryz.f5 false (World.plainHolding Tryz.checked.prog os inp).memory inp.args 8 = true := by kernel_rfl
set_option maxRecDepth 100000 in
theorem lifted (os : Os) (started : os.Started) (H : Type) (enc : TypeId × Value → H) :
    ReturnsInHanded {} Tryz.checked os 5 .any (Rows.fnCompileSpec.pre6 enc Tryz.prog Tryz.f5 Rows.fnCompileRow.domain false) (Rows.fnCompileSpec.post enc Tryz.prog Tryz.f5 false true false false) := by
  refine returnsInHanded_of_change_sized (C := Tryz.checked) own started (by kernel_rfl) Tryz.func5
    (ChangeSpec.witness6 (enc := enc) (C := Tryz.checked) false inp 8 (w1 os) (w2 os) (w3 os) (w4 os H enc) (w5 os H enc)) ?_
  intro W base args ds gs before hval hW hcnd hwt _
  refine calls_law Tryz.tok kids full rfl inTable inside hval hW hwt rfl ?_ ?_ ?_ shaped
  · intro ds hds
    match ds, hds with
    | [d0], _ => rfl
  · intro W' b sp hd
    exact trodAll_cons_mk (shut_bool Tryz.underlying4 _) trodAll_mk0
  · intro W'
    exact ok_one (by kernel_rfl) rfl (okWide_bool_mk Tryz.underlying4 _)

abbrev K (g : Program → FuncId → Func → ChangeSpec → OpenClaim → Bool) : Prop := g Tryz.pinned.checked.prog 5 Tryz.f5 Rows.fnCompileSpec Rows.fnCompileRow = true
theorem and2 {a b : Bool} (h : a = true) (k : b = true) : (a && b) = true := by rw [h, k]; rfl
theorem q1 : K (fun P f fn s c => c.wf (OpenSpec.ofChange s)) := by unfold K; kernel_rfl
theorem q2 : K (fun P f fn s c => laidOutB P) := by unfold K; kernel_rfl
theorem q3 : K (fun P f fn s c => mapsRowed P) := by unfold K; kernel_rfl
theorem q4 : K (fun P f fn s c => fn.params.all (P.readableRec ·)) := by unfold K; kernel_rfl
theorem q5 : K (fun P f fn s c => namedTie P c.named s.vars) := by unfold K; kernel_rfl
theorem q6 : K (fun P f fn s c => (c.stops == [])) := by unfold K; kernel_rfl
theorem q7 : K (fun P f fn s c => (P.stops == [])) := by unfold K; kernel_rfl
theorem q8 : K (fun P f fn s c => (c.knobs == [])) := by unfold K; kernel_rfl
theorem q9 : K (fun P f fn s c => (P.stopKnobs == [])) := by unfold K; kernel_rfl
theorem q10 : K (fun P f fn s c => (c.inPlace == P.inPlace f)) := by unfold K; kernel_rfl
theorem q11 : K (fun P f fn s c => (c.unfollowed == P.unfollowed f)) := by unfold K; kernel_rfl
theorem q12 : K (fun P f fn s c => (c.recurses == P.recurses f)) := by unfold K; kernel_rfl
theorem q13 : K (fun P f fn s c => (c.named == P.varsNamed f)) := by unfold K; kernel_rfl
theorem q14 : K (fun P f fn s c => (c.maps == (fn.params.toList ++ s.plain.varTypes P).any (P.mapsRec ·))) := by unfold K; kernel_rfl
theorem q15 : K (fun P f fn s c => (c.ifaces == (fn.params.toList ++ s.plain.varTypes P).any (P.ifacesRec ·))) := by unfold K; kernel_rfl
theorem q16 : K (fun P f fn s c => (c.mapsOut == P.mapsAmong fn.resultTypes.toList)) := by unfold K; kernel_rfl
theorem q17 : K (fun P f fn s c => (c.loops == (fn.params.toList ++ s.plain.varTypes P).any (P.loopsFrom ·))) := by unfold K; kernel_rfl
theorem q18 : K (fun P f fn s c => (c.wideKeys == (fn.params.toList ++ s.plain.varTypes P ++ fn.resultTypes.toList).any (P.wideKeysFrom ·))) := by unfold K; kernel_rfl
theorem q19 : K (fun P f fn s c => s.vars.all (P.varReadable ·)) := by unfold K; kernel_rfl
theorem q20 : K (fun P f fn s c => fn.resultTypes.all (fun t => P.readableRec t && decide (t < P.types.size))) := by unfold K; kernel_rfl
theorem q21 : K (fun P f fn s c => (c.ifacesOut == fn.resultTypes.toList.any (P.ifacesRec ·))) := by unfold K; kernel_rfl
theorem q22 : K (fun P f fn s c => (c.loopsOut == fn.resultTypes.toList.any (P.loopsFrom ·))) := by unfold K; kernel_rfl
theorem q23 : K (fun P f fn s c => (c.plainKeys == P.plainKeys)) := by unfold K; kernel_rfl
theorem q24 : K (fun P f fn s c => c.shortTexts.isNone) := by unfold K; kernel_rfl
theorem q25 : K (fun P f fn s c => P.stopsHeard) := by unfold K; kernel_rfl
theorem q26 : K (fun P f fn s c => P.mayEnter) := by unfold K; kernel_rfl
theorem q27 : K (fun P f fn s c => (c.lifted == P.liftsFinal)) := by unfold K; kernel_rfl
theorem q28 : K (fun P f fn s c => (P.make == some c.make)) := by unfold K; kernel_rfl
theorem q29 : K (fun P f fn s c => (c.kinds == (if c.domain.isEmpty then [] else fn.params.toList.map fun t => match P.underlying t with | some (.int k) => some k | _ => none))) := by unfold K; kernel_rfl
theorem q30 : K (fun P f fn s c => (c.pinned == c.pinnedBy)) := by unfold K; kernel_rfl
theorem q31 : K (fun P f fn s c => (c.veiled == (fn.params.toList ++ s.plain.varTypes P ++ fn.resultTypes.toList).any (P.veiledRec ·))) := by unfold K; kernel_rfl
theorem q32 : K (fun P f fn s c => c.veiledFits P fn.params.toList (fn.params.toList ++ s.plain.varTypes P ++ fn.resultTypes.toList)) := by unfold K; kernel_rfl
set_option maxRecDepth 100000 in
theorem closed : joinedFacts Tryz.pinned.checked.prog 5 Tryz.f5 Rows.fnCompileSpec Rows.fnCompileRow = true := by
  unfold joinedFacts
  exact (and2 (and2 (and2 (and2 (and2 (and2 (and2 (and2 (and2 (and2 (and2 (and2 (and2 (and2 (and2 (and2 (and2 (and2 (and2 (and2 (and2 (and2 (and2 (and2 (and2 (and2 (and2 (and2 (and2 (and2 (and2 q1 q2) q3) q4) q5) q6) q7) q8) q9) q10) q11) q12) q13) q14) q15) q16) q17) q18) q19) q20) q21) q22) q23) q24) q25) q26) q27) q28) q29) q30) q31) q32)
set_option maxRecDepth 100000 in
theorem over : Rows.fnCompileRow.holds Tryz.pinned (OpenSpec.ofChange Rows.fnCompileSpec) :=
  OpenClaim.holds_of_wide 5 Tryz.f5 rfl rfl rfl rfl rfl rfl rfl ⟨rfl, rfl, rfl, rfl, rfl⟩ rfl rfl rfl rfl rfl (by kernel_rfl) Tryz.func5 closed
    (of_decide_eq_true (by kernel_rfl)) (by unfold Func.isWrapper; first | (rw [if_pos (by decide +kernel)]; kernel_rfl) | (rw [if_neg (by decide +kernel)]; exact ⟨rfl, rfl⟩))
    (fun os started H enc _ => lifted os started H enc)

theorem proved : Rows.FnCompileSaid :=
  over
#print axioms proved
end Go.Proofs.YteikeianenfhaaaGreat.fnCompile

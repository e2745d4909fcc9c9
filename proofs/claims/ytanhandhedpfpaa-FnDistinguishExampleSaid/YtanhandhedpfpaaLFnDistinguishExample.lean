/- Proves that the law FnDistinguishExample answers true for every argument and leaves its arguments as they were. Conditions: none. -/
import Derived.Test.YtanhandhedpfpaaRows
import Derived.Test.YtanhandhedpfpaaS4
import Derived.WalkKit
import Derived.ProofKit
import Derived.OpenShut
import Derived.SizedLaws
namespace Go.Proofs.Ytanhandhedpfpaa.fnDistinguishExample
open Go.VL Go.ChangeShapes Go.WideShapes Go.ChangeAt Go.RowKit
set_option linter.unusedVariables false
set_option linter.unusedSimpArgs false

theorem own : ownKnob Try.prog.godebug = none := by kernel_rfl
theorem kids : Kids Try.prog (fun t => t < Try.prog.types.size) := kids_rows (by kernel_rfl) (by kernel_rfl)
theorem full : ∀ t e, t < Try.prog.types.size → Try.prog.underlying t = some (.slice e) → 0 < Try.prog.cellsOf e := slices_full_of Try.prog (by kernel_rfl)
theorem inside : ∀ t ∈ Try.f3.params.toList, t < Try.prog.types.size := of_decide_eq_true (by kernel_rfl)
theorem inTable : knownAll Try.tyT 9 Try.f3.params.toList := by
  rw [Try.params3]
  simp only [knownAll, known, go_sem, Nat.lt_irrefl, Nat.zero_lt_succ, Nat.reduceLT, implies_true, and_true, true_and]
theorem shaped : ∀ xs, shpAll Try.tyT 9 Try.f3.params.toList xs → Go.VL.Pure Try.prog 3 xs (.bool true) := by
  intro xs h
  rw [Try.params3] at h
  obtain ⟨x0, r0, rfl, h0, h⟩ := shpAll_cons h
  obtain rfl := shpAll_nil h
  obtain ⟨l, rfl⟩ := Try.shp_Bytes x0 h0
  exact Try.c_FnDistinguishExample l

def inp : Input := ⟨#[], #[.slice none 0 0], []⟩
theorem w1 (os : Os) : (World.plainHolding Try.checked.prog os inp).variablesB Try.checked.prog = true := by kernel_rfl
theorem w2 (os : Os) : ((World.plainHolding Try.checked.prog os inp).heap.toList.drop Try.checked.prog.globals.size).take ((begin Try.checked.prog (fun _ _ => 0) default).world.heap.size - Try.checked.prog.globals.size) =
    (begin Try.checked.prog (fun _ _ => 0) default).world.heap.toList.drop Try.checked.prog.globals.size := by kernel_rfl
theorem w3 (os : Os) : Input.okWideB Try.checked.prog (World.plainHolding Try.checked.prog os inp) 3 ⟨#[], inp.args, []⟩ = true := by kernel_rfl
theorem w4 (os : Os) (H : Type) (enc : TypeId × Value → H) : Rows.fnDistinguishExampleSpec.preB enc Try.checked.prog Try.f3 Rows.fnDistinguishExampleRow.domain false (World.plainHolding Try.checked.prog os inp).memory inp.args 8 = true := by kernel_rfl
theorem w5 (os : Os) (H : Type) (enc : TypeId × Value → H) : Rows.fnDistinguishExampleSpec.sizedB enc Try.checked.prog Try.f3 false (World.plainHolding Try.checked.prog os inp).memory inp.args 8 = true := by kernel_rfl
set_option maxRecDepth 100000 in
theorem lifted (os : Os) (started : os.Started) (H : Type) (enc : TypeId × Value → H) :
    ReturnsInHanded {} Try.checked os 3 .any (Rows.fnDistinguishExampleSpec.pre6 enc Try.prog Try.f3 Rows.fnDistinguishExampleRow.domain false) (Rows.fnDistinguishExampleSpec.post enc Try.prog Try.f3 false true false false) := by
  refine returnsInHanded_of_change_sized (C := Try.checked) own started (by kernel_rfl) Try.func3
    (ChangeSpec.witness6 (enc := enc) (C := Try.checked) false inp 8 (w1 os) (w2 os) (w3 os) (w4 os H enc) (w5 os H enc)) ?_
  intro W base args ds gs before hval hW hcnd hwt _
  refine calls_law Try.tok kids full rfl inTable inside hval hW hwt rfl ?_ ?_ ?_ shaped
  · intro ds hds
    match ds, hds with
    | [d0], _ => rfl
  · intro W' b sp hd
    exact trodAll_cons_mk (shut_bool Try.underlying4 _) trodAll_mk0
  · intro W'
    exact ok_one (by kernel_rfl) rfl (okWide_bool_mk Try.underlying4 _)

theorem and2 {a b : Bool} (h : a = true) (k : b = true) : (a && b) = true := by rw [h, k]; rfl
theorem q1 : (fun (P : Program) (f : FuncId) (fn : Func) (s : ChangeSpec) (c : OpenClaim) => (c.wf (OpenSpec.ofChange s) : Bool)) Try.pinned.checked.prog 3 Try.f3 Rows.fnDistinguishExampleSpec Rows.fnDistinguishExampleRow = true := by kernel_rfl
theorem q2 : (fun (P : Program) (f : FuncId) (fn : Func) (s : ChangeSpec) (c : OpenClaim) => (laidOutB P : Bool)) Try.pinned.checked.prog 3 Try.f3 Rows.fnDistinguishExampleSpec Rows.fnDistinguishExampleRow = true := by kernel_rfl
theorem q3 : (fun (P : Program) (f : FuncId) (fn : Func) (s : ChangeSpec) (c : OpenClaim) => (mapsRowed P : Bool)) Try.pinned.checked.prog 3 Try.f3 Rows.fnDistinguishExampleSpec Rows.fnDistinguishExampleRow = true := by kernel_rfl
theorem q4 : (fun (P : Program) (f : FuncId) (fn : Func) (s : ChangeSpec) (c : OpenClaim) => (fn.params.all (P.readableRec ·) : Bool)) Try.pinned.checked.prog 3 Try.f3 Rows.fnDistinguishExampleSpec Rows.fnDistinguishExampleRow = true := by kernel_rfl
theorem q5 : (fun (P : Program) (f : FuncId) (fn : Func) (s : ChangeSpec) (c : OpenClaim) => (namedTie P c.named s.vars : Bool)) Try.pinned.checked.prog 3 Try.f3 Rows.fnDistinguishExampleSpec Rows.fnDistinguishExampleRow = true := by kernel_rfl
theorem q6 : (fun (P : Program) (f : FuncId) (fn : Func) (s : ChangeSpec) (c : OpenClaim) => ((c.stops == []) : Bool)) Try.pinned.checked.prog 3 Try.f3 Rows.fnDistinguishExampleSpec Rows.fnDistinguishExampleRow = true := by kernel_rfl
theorem q7 : (fun (P : Program) (f : FuncId) (fn : Func) (s : ChangeSpec) (c : OpenClaim) => ((P.stops == []) : Bool)) Try.pinned.checked.prog 3 Try.f3 Rows.fnDistinguishExampleSpec Rows.fnDistinguishExampleRow = true := by kernel_rfl
theorem q8 : (fun (P : Program) (f : FuncId) (fn : Func) (s : ChangeSpec) (c : OpenClaim) => ((c.knobs == []) : Bool)) Try.pinned.checked.prog 3 Try.f3 Rows.fnDistinguishExampleSpec Rows.fnDistinguishExampleRow = true := by kernel_rfl
theorem q9 : (fun (P : Program) (f : FuncId) (fn : Func) (s : ChangeSpec) (c : OpenClaim) => ((P.stopKnobs == []) : Bool)) Try.pinned.checked.prog 3 Try.f3 Rows.fnDistinguishExampleSpec Rows.fnDistinguishExampleRow = true := by kernel_rfl
theorem q10 : (fun (P : Program) (f : FuncId) (fn : Func) (s : ChangeSpec) (c : OpenClaim) => ((c.inPlace == P.inPlace f) : Bool)) Try.pinned.checked.prog 3 Try.f3 Rows.fnDistinguishExampleSpec Rows.fnDistinguishExampleRow = true := by kernel_rfl
theorem q11 : (fun (P : Program) (f : FuncId) (fn : Func) (s : ChangeSpec) (c : OpenClaim) => ((c.unfollowed == P.unfollowed f) : Bool)) Try.pinned.checked.prog 3 Try.f3 Rows.fnDistinguishExampleSpec Rows.fnDistinguishExampleRow = true := by kernel_rfl
theorem q12 : (fun (P : Program) (f : FuncId) (fn : Func) (s : ChangeSpec) (c : OpenClaim) => ((c.recurses == P.recurses f) : Bool)) Try.pinned.checked.prog 3 Try.f3 Rows.fnDistinguishExampleSpec Rows.fnDistinguishExampleRow = true := by kernel_rfl
theorem q13 : (fun (P : Program) (f : FuncId) (fn : Func) (s : ChangeSpec) (c : OpenClaim) => ((c.named == P.varsNamed f) : Bool)) Try.pinned.checked.prog 3 Try.f3 Rows.fnDistinguishExampleSpec Rows.fnDistinguishExampleRow = true := by kernel_rfl
theorem q14 : (fun (P : Program) (f : FuncId) (fn : Func) (s : ChangeSpec) (c : OpenClaim) => ((c.maps == (fn.params.toList ++ s.plain.varTypes P).any (P.mapsRec ·)) : Bool)) Try.pinned.checked.prog 3 Try.f3 Rows.fnDistinguishExampleSpec Rows.fnDistinguishExampleRow = true := by kernel_rfl
theorem q15 : (fun (P : Program) (f : FuncId) (fn : Func) (s : ChangeSpec) (c : OpenClaim) => ((c.ifaces == (fn.params.toList ++ s.plain.varTypes P).any (P.ifacesRec ·)) : Bool)) Try.pinned.checked.prog 3 Try.f3 Rows.fnDistinguishExampleSpec Rows.fnDistinguishExampleRow = true := by kernel_rfl
theorem q16 : (fun (P : Program) (f : FuncId) (fn : Func) (s : ChangeSpec) (c : OpenClaim) => ((c.mapsOut == P.mapsAmong fn.resultTypes.toList) : Bool)) Try.pinned.checked.prog 3 Try.f3 Rows.fnDistinguishExampleSpec Rows.fnDistinguishExampleRow = true := by kernel_rfl
theorem q17 : (fun (P : Program) (f : FuncId) (fn : Func) (s : ChangeSpec) (c : OpenClaim) => ((c.loops == (fn.params.toList ++ s.plain.varTypes P).any (P.loopsFrom ·)) : Bool)) Try.pinned.checked.prog 3 Try.f3 Rows.fnDistinguishExampleSpec Rows.fnDistinguishExampleRow = true := by kernel_rfl
theorem q18 : (fun (P : Program) (f : FuncId) (fn : Func) (s : ChangeSpec) (c : OpenClaim) => ((c.wideKeys == (fn.params.toList ++ s.plain.varTypes P ++ fn.resultTypes.toList).any (P.wideKeysFrom ·)) : Bool)) Try.pinned.checked.prog 3 Try.f3 Rows.fnDistinguishExampleSpec Rows.fnDistinguishExampleRow = true := by kernel_rfl
theorem q19 : (fun (P : Program) (f : FuncId) (fn : Func) (s : ChangeSpec) (c : OpenClaim) => (s.vars.all (P.varReadable ·) : Bool)) Try.pinned.checked.prog 3 Try.f3 Rows.fnDistinguishExampleSpec Rows.fnDistinguishExampleRow = true := by kernel_rfl
theorem q20 : (fun (P : Program) (f : FuncId) (fn : Func) (s : ChangeSpec) (c : OpenClaim) => (fn.resultTypes.all (fun t => P.readableRec t && decide (t < P.types.size)) : Bool)) Try.pinned.checked.prog 3 Try.f3 Rows.fnDistinguishExampleSpec Rows.fnDistinguishExampleRow = true := by kernel_rfl
theorem q21 : (fun (P : Program) (f : FuncId) (fn : Func) (s : ChangeSpec) (c : OpenClaim) => ((c.ifacesOut == fn.resultTypes.toList.any (P.ifacesRec ·)) : Bool)) Try.pinned.checked.prog 3 Try.f3 Rows.fnDistinguishExampleSpec Rows.fnDistinguishExampleRow = true := by kernel_rfl
theorem q22 : (fun (P : Program) (f : FuncId) (fn : Func) (s : ChangeSpec) (c : OpenClaim) => ((c.loopsOut == fn.resultTypes.toList.any (P.loopsFrom ·)) : Bool)) Try.pinned.checked.prog 3 Try.f3 Rows.fnDistinguishExampleSpec Rows.fnDistinguishExampleRow = true := by kernel_rfl
theorem q23 : (fun (P : Program) (f : FuncId) (fn : Func) (s : ChangeSpec) (c : OpenClaim) => ((c.plainKeys == P.plainKeys) : Bool)) Try.pinned.checked.prog 3 Try.f3 Rows.fnDistinguishExampleSpec Rows.fnDistinguishExampleRow = true := by kernel_rfl
theorem q24 : (fun (P : Program) (f : FuncId) (fn : Func) (s : ChangeSpec) (c : OpenClaim) => (c.shortTexts.isNone : Bool)) Try.pinned.checked.prog 3 Try.f3 Rows.fnDistinguishExampleSpec Rows.fnDistinguishExampleRow = true := by kernel_rfl
theorem q25 : (fun (P : Program) (f : FuncId) (fn : Func) (s : ChangeSpec) (c : OpenClaim) => (P.stopsHeard : Bool)) Try.pinned.checked.prog 3 Try.f3 Rows.fnDistinguishExampleSpec Rows.fnDistinguishExampleRow = true := by kernel_rfl
theorem q26 : (fun (P : Program) (f : FuncId) (fn : Func) (s : ChangeSpec) (c : OpenClaim) => (P.mayEnter : Bool)) Try.pinned.checked.prog 3 Try.f3 Rows.fnDistinguishExampleSpec Rows.fnDistinguishExampleRow = true := by kernel_rfl
theorem q27 : (fun (P : Program) (f : FuncId) (fn : Func) (s : ChangeSpec) (c : OpenClaim) => ((c.lifted == P.liftsFinal) : Bool)) Try.pinned.checked.prog 3 Try.f3 Rows.fnDistinguishExampleSpec Rows.fnDistinguishExampleRow = true := by kernel_rfl
theorem q28 : (fun (P : Program) (f : FuncId) (fn : Func) (s : ChangeSpec) (c : OpenClaim) => ((P.make == some c.make) : Bool)) Try.pinned.checked.prog 3 Try.f3 Rows.fnDistinguishExampleSpec Rows.fnDistinguishExampleRow = true := by kernel_rfl
theorem q29 : (fun (P : Program) (f : FuncId) (fn : Func) (s : ChangeSpec) (c : OpenClaim) => ((c.kinds == (if c.domain.isEmpty then [] else fn.params.toList.map fun t => match P.underlying t with | some (.int k) => some k | _ => none)) : Bool)) Try.pinned.checked.prog 3 Try.f3 Rows.fnDistinguishExampleSpec Rows.fnDistinguishExampleRow = true := by kernel_rfl
theorem q30 : (fun (P : Program) (f : FuncId) (fn : Func) (s : ChangeSpec) (c : OpenClaim) => ((c.pinned == c.pinnedBy) : Bool)) Try.pinned.checked.prog 3 Try.f3 Rows.fnDistinguishExampleSpec Rows.fnDistinguishExampleRow = true := by kernel_rfl
theorem q31 : (fun (P : Program) (f : FuncId) (fn : Func) (s : ChangeSpec) (c : OpenClaim) => ((c.veiled == (fn.params.toList ++ s.plain.varTypes P ++ fn.resultTypes.toList).any (P.veiledRec ·)) : Bool)) Try.pinned.checked.prog 3 Try.f3 Rows.fnDistinguishExampleSpec Rows.fnDistinguishExampleRow = true := by kernel_rfl
theorem q32 : (fun (P : Program) (f : FuncId) (fn : Func) (s : ChangeSpec) (c : OpenClaim) => (c.veiledFits P fn.params.toList (fn.params.toList ++ s.plain.varTypes P ++ fn.resultTypes.toList) : Bool)) Try.pinned.checked.prog 3 Try.f3 Rows.fnDistinguishExampleSpec Rows.fnDistinguishExampleRow = true := by kernel_rfl
set_option maxRecDepth 100000 in
theorem closed : joinedFacts Try.pinned.checked.prog 3 Try.f3 Rows.fnDistinguishExampleSpec Rows.fnDistinguishExampleRow = true := by
  unfold joinedFacts
  exact (and2 (and2 (and2 (and2 (and2 (and2 (and2 (and2 (and2 (and2 (and2 (and2 (and2 (and2 (and2 (and2 (and2 (and2 (and2 (and2 (and2 (and2 (and2 (and2 (and2 (and2 (and2 (and2 (and2 (and2 (and2 q1 q2) q3) q4) q5) q6) q7) q8) q9) q10) q11) q12) q13) q14) q15) q16) q17) q18) q19) q20) q21) q22) q23) q24) q25) q26) q27) q28) q29) q30) q31) q32)
set_option maxRecDepth 100000 in
theorem over : Rows.fnDistinguishExampleRow.holds Try.pinned (OpenSpec.ofChange Rows.fnDistinguishExampleSpec) :=
  OpenClaim.holds_of_wide 3 Try.f3 rfl rfl rfl rfl rfl rfl rfl ⟨rfl, rfl, rfl, rfl, rfl⟩ rfl rfl rfl rfl rfl (by kernel_rfl) Try.func3 closed
    (of_decide_eq_true (by kernel_rfl)) (by unfold Func.isWrapper; first | (rw [if_pos (by decide +kernel)]; kernel_rfl) | (rw [if_neg (by decide +kernel)]; exact ⟨rfl, rfl⟩))
    (fun os started H enc _ => lifted os started H enc)

theorem proved : Rows.FnDistinguishExampleSaid :=
  over
#print axioms proved
end Go.Proofs.Ytanhandhedpfpaa.fnDistinguishExample

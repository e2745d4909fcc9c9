/- Part 20: the rewriting rules by which the machine runs. Conditions: none; lemmas. -/
import Derived.Test.YtfinoodiofghkaaVL19
import Derived.Attr
set_option linter.unusedVariables false
set_option linter.unusedSimpArgs false
namespace Go.VL

variable {E : Env} {Q : Post} {fr : Fr} {H : List R} {f : Nat} {ks : List Item} {all rest : List Oper} {dst : Option Tmp} {ty : TypeId} {pos : String} {af : Array Edge} {T : Nat → Option TI}

/-! ### the machine -/
@[go_sem] theorem exec_nil : exec E (f + 1) [] Q fr H = Q .normal fr H := by simp only [exec]
@[go_sem] theorem exec_blk {id : Nat} : exec E (f + 1) (.blk id :: ks) Q fr H = exec E f ks Q fr H := by simp only [exec]
@[go_sem] theorem exec_code {c : Code} : exec E (f + 1) (.code c :: ks) Q fr H = execC E f c ks Q fr H := by simp only [exec]
@[go_sem] theorem execC_skip : execC E (f + 1) .skip ks Q fr H = exec E f ks Q fr H := by simp only [execC]
@[go_sem] theorem execC_label {l : Nat} : execC E (f + 1) (.label l) ks Q fr H = exec E f ks Q fr H := by simp only [execC]
@[go_sem] theorem execC_seq {x y : Code} : execC E (f + 1) (.seq x y) ks Q fr H = execC E f x (.code y :: ks) Q fr H := by simp only [execC]
@[go_sem] theorem execC_block {id : Nat} {x : Code} : execC E (f + 1) (.block id x) ks Q fr H = execC E f x (.blk id :: ks) Q fr H := by simp only [execC]
@[go_sem] theorem execC_exit {id : Nat} : execC E (f + 1) (.exit id) ks Q fr H = execX E f (exK id ks) id ks Q fr H := by simp only [execC]
@[go_sem] theorem execC_ret : execC E (f + 1) .ret ks Q fr H = Q .ret fr H := by simp only [execC]
@[go_sem] theorem execC_cond {c : Operand} {x y : Code} : execC E (f + 1) (.cond c x y) ks Q fr H = execB E f (ev fr c) x y ks Q fr H := by simp only [execC]
@[go_sem] theorem execC_region {id : Nat} {ops : Array Oper} : execC E (f + 1) (.region id ops false) ks Q fr H = ops' E f ops.toList ops.toList ks Q fr H := by simp only [execC]
@[go_sem] theorem execC_draw {id : Nat} {ops : Array Oper} : execC E (f + 1) (.region id ops true) ks Q fr H = (if quiet E.T ops.toList = true then E.P.follows .mixedOrders = true ∧ Region.lexB .any ops = true ∧ opsQ E ops.toList H (fun fr' => exec E f ks Q fr' H) ops.toList fr else iwp E.P E.n (.region id ops true) (contQ E ks Q) fr H) := by simp only [execC]
@[go_sem] theorem execC_loop {c : Code} : execC E (f + 1) (.loop c) ks Q fr H = iwp E.P E.n (.loop c) (contQ E ks Q) fr H := by simp only [execC]
@[go_sem] theorem exK_nil {id : Nat} : exK id [] = none := rfl
@[go_sem] theorem exK_code {id : Nat} {c : Code} : exK id (.code c :: ks) = exK id ks := rfl
@[go_sem] theorem exK_blk {id id' : Nat} : exK id (.blk id' :: ks) = if id = id' then some ks else exK id ks := rfl
@[go_sem] theorem execX_some {id : Nat} {ks' : List Item} : execX E (f + 1) (some ks') id ks Q fr H = exec E f ks' Q fr H := by simp only [execX]
@[go_sem] theorem execX_none {id : Nat} : execX E (f + 1) none id ks Q fr H = Q (.exit id) fr H := by simp only [execX]
@[go_sem] theorem execB_d {d : D} {x y : Code} : execB E (f + 1) (.d d) x y ks Q fr H = (d.isBool ∧ (d.toBool = true → execC E f x ks Q fr H) ∧ (d.toBool = false → execC E f y ks Q fr H)) := by simp only [execB]
@[go_sem] theorem ops_nil : ops' E (f + 1) all [] ks Q fr H = exec E f ks Q fr H := by simp only [ops']
@[go_sem] theorem opsK_eq {r : I} : opsK E (f + 1) all rest ks Q fr dst r H = ops' E f all rest ks Q (fr.put dst r) H := by simp only [opsK]
@[go_sem] theorem opsG_eq {r : I} : opsG E (f + 1) all rest ks Q fr dst H r = ops' E f all rest ks Q (fr.put dst r) H := by simp only [opsG]
@[go_sem] theorem thenQ_normal {N : Fr → List R → Prop} : thenQ N Q .normal fr H = N fr H := rfl
@[go_sem] theorem thenQ_ret {N : Fr → List R → Prop} : thenQ N Q .ret fr H = Q .ret fr H := rfl
@[go_sem] theorem thenQ_exit {N : Fr → List R → Prop} {id : Nat} : thenQ N Q (.exit id) fr H = Q (.exit id) fr H := rfl
@[go_sem] theorem contQ_nil' {e : Exit} : contQ E [] Q e fr H = Q e fr H := rfl
@[go_sem] theorem contQ_ret_eq {c : Code} : contQ E (.code c :: ks) Q .ret fr H = contQ E ks Q .ret fr H := rfl
@[go_sem] theorem contQ_ret_blk {id : Nat} : contQ E (.blk id :: ks) Q .ret fr H = contQ E ks Q .ret fr H := rfl

def goP (E : Env) (f : Nat) (all rest : List Oper) (ks : List Item) (Q : Post) (fr : Fr) (dst : Option Tmp) (H : List R) : Option (Prop × I) → Prop
  | some (vc, x) => vc ∧ ops' E f all rest ks Q (fr.put dst x) H
  | none => False
def goI (E : Env) (f : Nat) (all rest : List Oper) (ks : List Item) (Q : Post) (fr : Fr) (dst : Option Tmp) : Option (Prop × I × List R) → Prop
  | some (vc, x, H) => vc ∧ ops' E f all rest ks Q (fr.put dst x) H
  | none => False
def goG (E : Env) (f : Nat) (all rest : List Oper) (ks : List Item) (Q : Post) (fr : Fr) (dst : Option Tmp) (H : List R) : Option (Prop × Bool) → Option (Prop × I) → Prop
  | some (gc, e), some (vc, x) => gc ∧ (e = true → vc) ∧ ops' E f all rest ks Q (fr.put dst (.cond e x)) H
  | _, _ => False
def goGC (E : Env) (f : Nat) (all rest : List Oper) (ks : List Item) (Q : Post) (fr : Fr) (dst : Option Tmp) (H : List R) (c : Prop) (fn : Option (Nat × List I)) (args : List I) : Option (Prop × Bool) → Prop
  | some (gc, e) => gc ∧ callN E c e fn args H (opsG E f all rest ks Q fr dst)
  | none => False
@[go_sem] theorem goP_some {vc : Prop} {x : I} : goP E f all rest ks Q fr dst H (some (vc, x)) = (vc ∧ ops' E f all rest ks Q (fr.put dst x) H) := rfl
@[go_sem] theorem goI_some {vc : Prop} {x : I} : goI E f all rest ks Q fr dst (some (vc, x, H)) = (vc ∧ ops' E f all rest ks Q (fr.put dst x) H) := rfl
@[go_sem] theorem goG_some {gc vc : Prop} {e : Bool} {x : I} : goG E f all rest ks Q fr dst H (some (gc, e)) (some (vc, x)) = (gc ∧ (e = true → vc) ∧ ops' E f all rest ks Q (fr.put dst (.cond e x)) H) := rfl
@[go_sem] theorem goGC_some {c gc : Prop} {e : Bool} {fn : Option (Nat × List I)} {args : List I} : goGC E f all rest ks Q fr dst H c fn args (some (gc, e)) = (gc ∧ callN E c e fn args H (opsG E f all rest ks Q fr dst)) := rfl

theorem ops_P {op : Op} {o : Option (Prop × I)} (h1 : isCall op = none) (h2 : sopP E.T fr H op = o) (h3 : sopI E.T fr H op = none) (h4 : frzOp fr H op = none := by rfl) :
    ops' E (f + 1) all (⟨dst, op, ty, pos, af, none⟩ :: rest) ks Q fr H = goP E f all rest ks Q fr dst H o := by
  simp only [ops', h1, h2, h3, h4]
  cases o <;> rfl
theorem ops_G {op : Op} {o : Option (Prop × I)} {j : Nat} {want : Bool} (h1 : isCall op = none) (h2 : sopP E.T fr H op = o) (h3 : sopI E.T fr H op = none := by rfl) :
    ops' E (f + 1) all (⟨dst, op, ty, pos, af, some (j, want)⟩ :: rest) ks Q fr H = goG E f all rest ks Q fr dst H (guardOf all fr j want) o := by
  simp only [ops', h1, h2, h3]
  cases guardOf all fr j want with
  | none => rfl
  | some g => cases o <;> rfl
def goGI (E : Env) (f : Nat) (all rest : List Oper) (ks : List Item) (Q : Post) (fr : Fr) (dst : Option Tmp) (H : List R) : Option (Prop × Bool) → Option (Prop × I × List R) → Prop
  | some (gc, e), some (vc, x, H') => gc ∧ (e = false → ∃ y, ops' E f all rest ks Q (fr.put dst (.cond e y)) H) ∧ (e = true → vc ∧ ops' E f all rest ks Q (fr.put dst (.cond e x)) H')
  | _, _ => False
@[go_sem] theorem goGI_some {gc vc : Prop} {e : Bool} {x : I} {H' : List R} : goGI E f all rest ks Q fr dst H (some (gc, e)) (some (vc, x, H')) =
  (gc ∧ (e = false → ∃ y, ops' E f all rest ks Q (fr.put dst (.cond e y)) H) ∧ (e = true → vc ∧ ops' E f all rest ks Q (fr.put dst (.cond e x)) H')) := rfl
theorem ops_GI {op : Op} {o : Option (Prop × I × List R)} {j : Nat} {want : Bool} (h1 : isCall op = none) (h2 : sopP E.T fr H op = none) (h3 : sopI E.T fr H op = o) :
    ops' E (f + 1) all (⟨dst, op, ty, pos, af, some (j, want)⟩ :: rest) ks Q fr H = goGI E f all rest ks Q fr dst H (guardOf all fr j want) o := by
  simp only [ops', h1, h2, h3]
  cases guardOf all fr j want with
  | none => rfl
  | some g => cases o <;> rfl
theorem ops_I {op : Op} {o : Option (Prop × I × List R)} (h1 : isCall op = none) (h2 : sopP E.T fr H op = none) (h3 : sopI E.T fr H op = o) (h4 : frzOp fr H op = none := by rfl) :
    ops' E (f + 1) all (⟨dst, op, ty, pos, af, none⟩ :: rest) ks Q fr H = goI E f all rest ks Q fr dst o := by
  simp only [ops', h1, h2, h3, h4]
  cases o <;> rfl
def goF2 (E : Env) (f : Nat) (all rest : List Oper) (ks : List Item) (Q : Post) (fr : Fr) (dst : Option Tmp) (fc : Prop) : Option (Prop × I × List R) → Prop
  | some (vc, x, H) => fc ∧ vc ∧ ops' E f all rest ks Q (fr.put dst x) H
  | none => False
def goF1 (E : Env) (f : Nat) (all rest : List Oper) (ks : List Item) (Q : Post) (dst : Option Tmp) (k : Fr → List R → Option (Prop × I × List R)) : Option (Prop × Fr × List R) → Prop
  | some (fc, fr, H) => goF2 E f all rest ks Q fr dst fc (k fr H)
  | none => False
def goF (E : Env) (f : Nat) (all rest : List Oper) (ks : List Item) (Q : Post) (fr : Fr) (dst : Option Tmp) (z : Option (Prop × Fr × List R)) (k : Fr → List R → Option (Prop × I × List R)) : Option (Prop × I × List R) → Prop
  | some (vc, x, H) => vc ∧ ops' E f all rest ks Q (fr.put dst x) H
  | none => goF1 E f all rest ks Q dst k z
@[go_sem] theorem goF_some {vc : Prop} {x : I} {z : Option (Prop × Fr × List R)} {k : Fr → List R → Option (Prop × I × List R)} : goF E f all rest ks Q fr dst z k (some (vc, x, H)) = (vc ∧ ops' E f all rest ks Q (fr.put dst x) H) := rfl
@[go_sem] theorem goF_none {z : Option (Prop × Fr × List R)} {k : Fr → List R → Option (Prop × I × List R)} : goF E f all rest ks Q fr dst z k none = goF1 E f all rest ks Q dst k z := rfl
@[go_sem] theorem goF1_some {fc : Prop} {k : Fr → List R → Option (Prop × I × List R)} : goF1 E f all rest ks Q dst k (some (fc, fr, H)) = goF2 E f all rest ks Q fr dst fc (k fr H) := rfl
@[go_sem] theorem goF2_some {fc vc : Prop} {x : I} : goF2 E f all rest ks Q fr dst fc (some (vc, x, H)) = (fc ∧ vc ∧ ops' E f all rest ks Q (fr.put dst x) H) := rfl
def frzP (fr : Fr) (H : List R) (ps : List (Nat × Operand)) : Option (Prop × Fr × List R) :=
  match ps with
  | [(_, .tmp t)] =>
    match fr.get t with
    | .sl i g k lo n =>
      match H[i]? with
      | some (.row g' k' _ l) => some (g = g' ∧ k = k', fr.put (some t) (.d (.lst k ((l.drop lo).take n))), H.set i (.dead g'))
      | _ => none
    | _ => none
  | _ => none

section ops
variable {j : Nat} {want : Bool}
@[go_sem] theorem ops_move {x : Operand} : ops' E (f + 1) all (⟨dst, .move x, ty, pos, af, none⟩ :: rest) ks Q fr H = goP E f all rest ks Q fr dst H (some (evc fr x, evx fr x)) := ops_P rfl rfl rfl
@[go_sem] theorem ops_assign {x : Operand} : ops' E (f + 1) all (⟨dst, .assign x, ty, pos, af, none⟩ :: rest) ks Q fr H = goP E f all rest ks Q fr dst H (some (evc fr x, evx fr x)) := ops_P rfl rfl rfl
@[go_sem] theorem ops_pick {c x y : Operand} : ops' E (f + 1) all (⟨dst, .pick c x y, ty, pos, af, none⟩ :: rest) ks Q fr H = goP E f all rest ks Q fr dst H (andC (evc fr c) (sPick (evx fr c) (evx fr x) (evx fr y) (evc fr x) (evc fr y))) := ops_P rfl rfl rfl
@[go_sem] theorem ops_build {t : TypeId} {parts : Array (Nat × Operand)} : ops' E (f + 1) all (⟨dst, .build t parts, ty, pos, af, none⟩ :: rest) ks Q fr H = goP E f all rest ks Q fr dst H (andC (evcParts fr parts.toList) (sBuild E.T t (evParts fr parts.toList))) := ops_P rfl rfl rfl
@[go_sem] theorem ops_load {t : TypeId} {x : Operand} : ops' E (f + 1) all (⟨dst, .load t x, ty, pos, af, none⟩ :: rest) ks Q fr H = goP E f all rest ks Q fr dst H (andC (evc fr x) (sLoad E.T H t (evx fr x))) := ops_P rfl rfl rfl
@[go_sem] theorem ops_nilCheck {x : Operand} : ops' E (f + 1) all (⟨dst, .nilCheck x, ty, pos, af, none⟩ :: rest) ks Q fr H = goP E f all rest ks Q fr dst H (andC (evc fr x) (sNil H (evx fr x))) := ops_P rfl rfl rfl
@[go_sem] theorem ops_binOp {op : BinOp} {t yt : TypeId} {x y : Operand} : ops' E (f + 1) all (⟨dst, .binOp op t x y yt, ty, pos, af, none⟩ :: rest) ks Q fr H = goP E f all rest ks Q fr dst H (andC (evc fr x ∧ evc fr y) (sBin E.T H op t (evx fr x) (evx fr y))) := ops_P rfl rfl rfl
@[go_sem] theorem ops_unOp {op : UnOp} {t : TypeId} {x : Operand} : ops' E (f + 1) all (⟨dst, .unOp op t x, ty, pos, af, none⟩ :: rest) ks Q fr H = goP E f all rest ks Q fr dst H (andC (evc fr x) (sUn op (evx fr x))) := ops_P rfl rfl rfl
@[go_sem] theorem ops_convert {s t : TypeId} {x : Operand} : ops' E (f + 1) all (⟨dst, .convert s t x, ty, pos, af, none⟩ :: rest) ks Q fr H = goP E f all rest ks Q fr dst H (andC (evc fr x) (sConv E.T s t (evx fr x))) := ops_P rfl rfl rfl
@[go_sem] theorem ops_makeFunc {g : Nat} {caps : List Operand} : ops' E (f + 1) all (⟨dst, .makeFunc (.func g) #[] caps.toArray, ty, pos, af, none⟩ :: rest) ks Q fr H = goP E f all rest ks Q fr dst H (some (evcs fr caps, mkFn g (evs fr caps))) := ops_P rfl (by simp [sopP]) rfl
@[go_sem] theorem ops_slice {t : TypeId} {x : Operand} {lo hi mx : Option Operand} : ops' E (f + 1) all (⟨dst, .slice t x lo hi mx, ty, pos, af, none⟩ :: rest) ks Q fr H = goP E f all rest ks Q fr dst H (andC (evc fr x ∧ optEc fr lo ∧ optEc fr hi) (sSlice E.T H t (evx fr x) (optE fr lo) (optE fr hi) (optE fr mx))) := ops_P rfl rfl rfl
@[go_sem] theorem ops_fieldAddr {t : TypeId} {x : Operand} {i : Nat} : ops' E (f + 1) all (⟨dst, .fieldAddr t x i, ty, pos, af, none⟩ :: rest) ks Q fr H = goP E f all rest ks Q fr dst H (andC (evc fr x) (sFieldAddr E.T H t (evx fr x) i)) := ops_P rfl rfl rfl
@[go_sem] theorem ops_field {t : TypeId} {x : Operand} {i : Nat} : ops' E (f + 1) all (⟨dst, .field t x i, ty, pos, af, none⟩ :: rest) ks Q fr H = goP E f all rest ks Q fr dst H (andC (evc fr x) (sField E.T t (evx fr x) i)) := ops_P rfl rfl rfl
@[go_sem] theorem ops_indexAddr {t : TypeId} {x y : Operand} : ops' E (f + 1) all (⟨dst, .indexAddr t x y, ty, pos, af, none⟩ :: rest) ks Q fr H = goP E f all rest ks Q fr dst H (andC (evc fr x ∧ evc fr y) (sIndexAddr E.T H t (evx fr x) (evx fr y))) := ops_P rfl rfl rfl
@[go_sem] theorem ops_index {t : TypeId} {x y : Operand} : ops' E (f + 1) all (⟨dst, .index t x y, ty, pos, af, none⟩ :: rest) ks Q fr H = goP E f all rest ks Q fr dst H (andC (evc fr x ∧ evc fr y) (sIndex E.T t (evx fr x) (evx fr y))) := ops_P rfl rfl rfl
@[go_sem] theorem ops_extract {x : Operand} {i : Nat} : ops' E (f + 1) all (⟨dst, .extract x i, ty, pos, af, none⟩ :: rest) ks Q fr H = goP E f all rest ks Q fr dst H (andC (evc fr x) (sExtract (evx fr x) i)) := ops_P rfl rfl rfl
@[go_sem] theorem ops_len {x : Operand} {t : TypeId} : ops' E (f + 1) all (⟨dst, .call ⟨.builtin .len, #[x], #[t]⟩, ty, pos, af, none⟩ :: rest) ks Q fr H = goP E f all rest ks Q fr dst H (andC (evc fr x) (sLen E.T H t (evx fr x))) := ops_P rfl rfl rfl
@[go_sem] theorem ops_min {x y : Operand} {ts : Array TypeId} : ops' E (f + 1) all (⟨dst, .call ⟨.builtin .min, #[x, y], ts⟩, ty, pos, af, none⟩ :: rest) ks Q fr H = goP E f all rest ks Q fr dst H (andC (evc fr x ∧ evc fr y) (sMM .min (evx fr x) (evx fr y))) := ops_P rfl rfl rfl
@[go_sem] theorem ops_max {x y : Operand} {ts : Array TypeId} : ops' E (f + 1) all (⟨dst, .call ⟨.builtin .max, #[x, y], ts⟩, ty, pos, af, none⟩ :: rest) ks Q fr H = goP E f all rest ks Q fr dst H (andC (evc fr x ∧ evc fr y) (sMM .max (evx fr x) (evx fr y))) := ops_P rfl rfl rfl
@[go_sem] theorem ops_box {t : TypeId} {x : Operand} : ops' E (f + 1) all (⟨dst, .box t x, ty, pos, af, none⟩ :: rest) ks Q fr H = goI E f all rest ks Q fr dst (andCI (evc fr x) (sBox E.T H t (evx fr x))) := ops_I rfl rfl rfl
@[go_sem] theorem ops_alloc {t : TypeId} : ops' E (f + 1) all (⟨dst, .alloc t, ty, pos, af, none⟩ :: rest) ks Q fr H = goI E f all rest ks Q fr dst (sAlloc E.T H t) := ops_I rfl rfl rfl
@[go_sem] theorem ops_buildSlice {t : TypeId} {n : Nat} {parts : Array (Nat × Operand)} : ops' E (f + 1) all (⟨dst, .buildSlice t n parts, ty, pos, af, none⟩ :: rest) ks Q fr H =
    goF E f all rest ks Q fr dst (frzP fr H parts.toList) (fun fr' H' => andCI (evcParts fr' parts.toList) (sLit E.T H' t n (evParts fr' parts.toList))) (andCI (evcParts fr parts.toList) (sLit E.T H t n (evParts fr parts.toList))) := by
  have h2 : sopP E.T fr H (.buildSlice t n parts) = none := rfl
  have h3 : ∀ fr H, sopI E.T fr H (.buildSlice t n parts) = andCI (evcParts fr parts.toList) (sLit E.T H t n (evParts fr parts.toList)) := fun _ _ => rfl
  have h4 : frzOp fr H (.buildSlice t n parts) = frzP fr H parts.toList := rfl
  simp only [ops', isCall, h2, h3, h4]
  cases andCI (evcParts fr parts.toList) (sLit E.T H t n (evParts fr parts.toList)) with
  | some q => rfl
  | none =>
    simp only [goF]
    cases frzP fr H parts.toList with
    | none => rfl
    | some q =>
      obtain ⟨fc, fr', H'⟩ := q
      simp only [goF1]
      cases andCI (evcParts fr' parts.toList) (sLit E.T H' t n (evParts fr' parts.toList)) <;> rfl
@[go_sem] theorem ops_makeSlice {t : TypeId} {x y : Operand} : ops' E (f + 1) all (⟨dst, .makeSlice t x y, ty, pos, af, none⟩ :: rest) ks Q fr H = goI E f all rest ks Q fr dst (andCI (evc fr x ∧ evc fr y) (sMake E.T H t (evx fr x) (evx fr y))) := ops_I rfl rfl rfl
def stI (c : Prop) : Option (Prop × List R) → Option (Prop × I × List R)
  | some (vc, H') => some (c ∧ vc, .junk, H')
  | none => none
@[go_sem] theorem stI_some {c vc : Prop} : stI c (some (vc, H)) = some (c ∧ vc, .junk, H) := rfl
@[go_sem] theorem ops_store {t : TypeId} {x y : Operand} : ops' E (f + 1) all (⟨dst, .store t x y, ty, pos, af, none⟩ :: rest) ks Q fr H = goI E f all rest ks Q fr dst (stI (evc fr x ∧ evc fr y) (sStore E.T H t (evx fr x) (evx fr y))) :=
  ops_I rfl rfl (by simp only [sopI, stI]; cases sStore E.T H t (evx fr x) (evx fr y) <;> rfl)
@[go_sem] theorem ops_append {x y : Operand} {t t' : TypeId} : ops' E (f + 1) all (⟨dst, .call ⟨.builtin .append, #[x, y], #[t, t']⟩, ty, pos, af, none⟩ :: rest) ks Q fr H = goI E f all rest ks Q fr dst (andCI (evc fr x ∧ evc fr y) (sAppend E.T H t t' (evx fr x) (evx fr y))) := ops_I rfl rfl rfl
@[go_sem] theorem ops_copy {x y : Operand} {t t' : TypeId} : ops' E (f + 1) all (⟨dst, .call ⟨.builtin .copy, #[x, y], #[t, t']⟩, ty, pos, af, none⟩ :: rest) ks Q fr H = goI E f all rest ks Q fr dst (andCI (evc fr x ∧ evc fr y) (sCopy E.T H t t' (evx fr x) (evx fr y))) := ops_I rfl rfl rfl
@[go_sem] theorem ops_call {g : Operand} {args : List Operand} {ts : Array TypeId} : ops' E (f + 1) all (⟨dst, .call ⟨.value g, args.toArray, ts⟩, ty, pos, af, none⟩ :: rest) ks Q fr H =
    callM E (evc fr g ∧ evcs fr args) (fnOf (evx fr g)) (evs fr args) H (opsK E f all rest ks Q fr dst) := by simp only [ops', isCall]

@[go_sem] theorem opsG_move {x : Operand} : ops' E (f + 1) all (⟨dst, .move x, ty, pos, af, some (j, want)⟩ :: rest) ks Q fr H = goG E f all rest ks Q fr dst H (guardOf all fr j want) (some (evc fr x, evx fr x)) := ops_G rfl rfl
@[go_sem] theorem opsG_assign {x : Operand} : ops' E (f + 1) all (⟨dst, .assign x, ty, pos, af, some (j, want)⟩ :: rest) ks Q fr H = goG E f all rest ks Q fr dst H (guardOf all fr j want) (some (evc fr x, evx fr x)) := ops_G rfl rfl
@[go_sem] theorem opsG_pick {c x y : Operand} : ops' E (f + 1) all (⟨dst, .pick c x y, ty, pos, af, some (j, want)⟩ :: rest) ks Q fr H = goG E f all rest ks Q fr dst H (guardOf all fr j want) (andC (evc fr c) (sPick (evx fr c) (evx fr x) (evx fr y) (evc fr x) (evc fr y))) := ops_G rfl rfl
@[go_sem] theorem opsG_build {t : TypeId} {parts : Array (Nat × Operand)} : ops' E (f + 1) all (⟨dst, .build t parts, ty, pos, af, some (j, want)⟩ :: rest) ks Q fr H = goG E f all rest ks Q fr dst H (guardOf all fr j want) (andC (evcParts fr parts.toList) (sBuild E.T t (evParts fr parts.toList))) := ops_G rfl rfl
@[go_sem] theorem opsG_load {t : TypeId} {x : Operand} : ops' E (f + 1) all (⟨dst, .load t x, ty, pos, af, some (j, want)⟩ :: rest) ks Q fr H = goG E f all rest ks Q fr dst H (guardOf all fr j want) (andC (evc fr x) (sLoad E.T H t (evx fr x))) := ops_G rfl rfl
@[go_sem] theorem opsG_nilCheck {x : Operand} : ops' E (f + 1) all (⟨dst, .nilCheck x, ty, pos, af, some (j, want)⟩ :: rest) ks Q fr H = goG E f all rest ks Q fr dst H (guardOf all fr j want) (andC (evc fr x) (sNil H (evx fr x))) := ops_G rfl rfl
@[go_sem] theorem opsG_binOp {op : BinOp} {t yt : TypeId} {x y : Operand} : ops' E (f + 1) all (⟨dst, .binOp op t x y yt, ty, pos, af, some (j, want)⟩ :: rest) ks Q fr H = goG E f all rest ks Q fr dst H (guardOf all fr j want) (andC (evc fr x ∧ evc fr y) (sBin E.T H op t (evx fr x) (evx fr y))) := ops_G rfl rfl
@[go_sem] theorem opsG_unOp {op : UnOp} {t : TypeId} {x : Operand} : ops' E (f + 1) all (⟨dst, .unOp op t x, ty, pos, af, some (j, want)⟩ :: rest) ks Q fr H = goG E f all rest ks Q fr dst H (guardOf all fr j want) (andC (evc fr x) (sUn op (evx fr x))) := ops_G rfl rfl
@[go_sem] theorem opsG_convert {s t : TypeId} {x : Operand} : ops' E (f + 1) all (⟨dst, .convert s t x, ty, pos, af, some (j, want)⟩ :: rest) ks Q fr H = goG E f all rest ks Q fr dst H (guardOf all fr j want) (andC (evc fr x) (sConv E.T s t (evx fr x))) := ops_G rfl rfl
@[go_sem] theorem opsG_slice {t : TypeId} {x : Operand} {lo hi mx : Option Operand} : ops' E (f + 1) all (⟨dst, .slice t x lo hi mx, ty, pos, af, some (j, want)⟩ :: rest) ks Q fr H = goG E f all rest ks Q fr dst H (guardOf all fr j want) (andC (evc fr x ∧ optEc fr lo ∧ optEc fr hi) (sSlice E.T H t (evx fr x) (optE fr lo) (optE fr hi) (optE fr mx))) := ops_G rfl rfl
@[go_sem] theorem opsG_fieldAddr {t : TypeId} {x : Operand} {i : Nat} : ops' E (f + 1) all (⟨dst, .fieldAddr t x i, ty, pos, af, some (j, want)⟩ :: rest) ks Q fr H = goG E f all rest ks Q fr dst H (guardOf all fr j want) (andC (evc fr x) (sFieldAddr E.T H t (evx fr x) i)) := ops_G rfl rfl
@[go_sem] theorem opsG_field {t : TypeId} {x : Operand} {i : Nat} : ops' E (f + 1) all (⟨dst, .field t x i, ty, pos, af, some (j, want)⟩ :: rest) ks Q fr H = goG E f all rest ks Q fr dst H (guardOf all fr j want) (andC (evc fr x) (sField E.T t (evx fr x) i)) := ops_G rfl rfl
@[go_sem] theorem opsG_indexAddr {t : TypeId} {x y : Operand} : ops' E (f + 1) all (⟨dst, .indexAddr t x y, ty, pos, af, some (j, want)⟩ :: rest) ks Q fr H = goG E f all rest ks Q fr dst H (guardOf all fr j want) (andC (evc fr x ∧ evc fr y) (sIndexAddr E.T H t (evx fr x) (evx fr y))) := ops_G rfl rfl
@[go_sem] theorem opsG_index {t : TypeId} {x y : Operand} : ops' E (f + 1) all (⟨dst, .index t x y, ty, pos, af, some (j, want)⟩ :: rest) ks Q fr H = goG E f all rest ks Q fr dst H (guardOf all fr j want) (andC (evc fr x ∧ evc fr y) (sIndex E.T t (evx fr x) (evx fr y))) := ops_G rfl rfl
@[go_sem] theorem opsG_extract {x : Operand} {i : Nat} : ops' E (f + 1) all (⟨dst, .extract x i, ty, pos, af, some (j, want)⟩ :: rest) ks Q fr H = goG E f all rest ks Q fr dst H (guardOf all fr j want) (andC (evc fr x) (sExtract (evx fr x) i)) := ops_G rfl rfl
@[go_sem] theorem opsG_len {x : Operand} {t : TypeId} : ops' E (f + 1) all (⟨dst, .call ⟨.builtin .len, #[x], #[t]⟩, ty, pos, af, some (j, want)⟩ :: rest) ks Q fr H = goG E f all rest ks Q fr dst H (guardOf all fr j want) (andC (evc fr x) (sLen E.T H t (evx fr x))) := ops_G rfl rfl
@[go_sem] theorem opsG_min {x y : Operand} {ts : Array TypeId} : ops' E (f + 1) all (⟨dst, .call ⟨.builtin .min, #[x, y], ts⟩, ty, pos, af, some (j, want)⟩ :: rest) ks Q fr H = goG E f all rest ks Q fr dst H (guardOf all fr j want) (andC (evc fr x ∧ evc fr y) (sMM .min (evx fr x) (evx fr y))) := ops_G rfl rfl
@[go_sem] theorem opsG_max {x y : Operand} {ts : Array TypeId} : ops' E (f + 1) all (⟨dst, .call ⟨.builtin .max, #[x, y], ts⟩, ty, pos, af, some (j, want)⟩ :: rest) ks Q fr H = goG E f all rest ks Q fr dst H (guardOf all fr j want) (andC (evc fr x ∧ evc fr y) (sMM .max (evx fr x) (evx fr y))) := ops_G rfl rfl
@[go_sem] theorem opsG_buildSlice {t : TypeId} {n : Nat} {parts : Array (Nat × Operand)} : ops' E (f + 1) all (⟨dst, .buildSlice t n parts, ty, pos, af, some (j, want)⟩ :: rest) ks Q fr H = goGI E f all rest ks Q fr dst H (guardOf all fr j want) (andCI (evcParts fr parts.toList) (sLit E.T H t n (evParts fr parts.toList))) := ops_GI rfl rfl rfl
@[go_sem] theorem opsG_makeSlice {t : TypeId} {x y : Operand} : ops' E (f + 1) all (⟨dst, .makeSlice t x y, ty, pos, af, some (j, want)⟩ :: rest) ks Q fr H = goGI E f all rest ks Q fr dst H (guardOf all fr j want) (andCI (evc fr x ∧ evc fr y) (sMake E.T H t (evx fr x) (evx fr y))) := ops_GI rfl rfl rfl
@[go_sem] theorem opsG_append {x y : Operand} {t t' : TypeId} : ops' E (f + 1) all (⟨dst, .call ⟨.builtin .append, #[x, y], #[t, t']⟩, ty, pos, af, some (j, want)⟩ :: rest) ks Q fr H = goGI E f all rest ks Q fr dst H (guardOf all fr j want) (andCI (evc fr x ∧ evc fr y) (sAppend E.T H t t' (evx fr x) (evx fr y))) := ops_GI rfl rfl rfl
@[go_sem] theorem opsG_call {g : Operand} {args : List Operand} {ts : Array TypeId} : ops' E (f + 1) all (⟨dst, .call ⟨.value g, args.toArray, ts⟩, ty, pos, af, some (j, want)⟩ :: rest) ks Q fr H =
    goGC E f all rest ks Q fr dst H (evc fr g ∧ evcs fr args) (fnOf (evx fr g)) (evs fr args) (guardOf all fr j want) := by
  simp only [ops', isCall]
  cases guardOf all fr j want <;> rfl
end ops

@[go_sem] theorem toList_toArray' {α : Type} (l : List α) : l.toArray.toList = l := rfl
@[go_sem] theorem andC_some {c vc : Prop} {x : I} : andC c (some (vc, x)) = some (c ∧ vc, x) := rfl
@[go_sem] theorem andCI_none {c : Prop} : andCI c none = none := rfl
@[go_sem] theorem andCI_some {c vc : Prop} {x : I} : andCI c (some (vc, x, H)) = some (c ∧ vc, x, H) := rfl

/-! ### operands -/
def stripI : I → I
  | .cond _ x => x
  | x => x
def condI : I → Prop
  | .cond e _ => e = true
  | _ => True
@[go_sem] theorem evx_eq {o : Operand} : evx fr o = stripI (ev fr o) := rfl
@[go_sem] theorem evc_eq {o : Operand} : evc fr o = condI (ev fr o) := rfl
@[go_sem] theorem ev_tmp {t : Nat} : ev fr (.tmp t) = fr.get t := rfl
@[go_sem] theorem ev_func {g : Nat} : ev fr (.func g) = .d (.fn g []) := rfl
@[go_sem] theorem ev_int {n : Int} : ev fr (.const (.int .i64 n)) = if -9223372036854775808 ≤ n ∧ n ≤ 9223372036854775807 then .d (.int .i64 n) else .junk := rfl
@[go_sem] theorem ev_u8 {n : Int} : ev fr (.const (.int .u8 n)) = if 0 ≤ n ∧ n ≤ 255 then .d (.int .u8 n) else .junk := rfl
@[go_sem] theorem ev_bool {b : Bool} : ev fr (.const (.bool b)) = .d (.bool b) := rfl
@[go_sem] theorem ev_nil : ev fr (.const (.slice none 0 0)) = .d .nil := rfl
@[go_sem] theorem ev_nilp : ev fr (.const (.pointer none)) = .d (.raw (.pointer none)) := rfl
@[go_sem] theorem ev_nilm : ev fr (.const (.map none)) = .d (.raw (.map none)) := rfl
@[go_sem] theorem ev_nilf : ev fr (.const .nilFunc) = .d (.raw .nilFunc) := rfl
@[go_sem] theorem stripI_d {x : D} : stripI (.d x) = .d x := rfl
@[go_sem] theorem stripI_agg {cs : List I} : stripI (.agg cs) = .agg cs := rfl
@[go_sem] theorem stripI_sl {i g k lo n : Nat} : stripI (.sl i g k lo n) = .sl i g k lo n := rfl
@[go_sem] theorem stripI_ptr {i o : Nat} : stripI (.ptr i o) = .ptr i o := rfl
@[go_sem] theorem stripI_eptr {i g k x o : Nat} {z : D} : stripI (.eptr i g k x o z) = .eptr i g k x o z := rfl
@[go_sem] theorem stripI_map {i : Nat} : stripI (.map i) = .map i := rfl
@[go_sem] theorem stripI_fn {g : Nat} {cs : List I} : stripI (.fn g cs) = .fn g cs := rfl
@[go_sem] theorem stripI_tup {cs : List I} : stripI (.tup cs) = .tup cs := rfl
@[go_sem] theorem stripI_own {i : Nat} : stripI (.own i) = .own i := rfl
@[go_sem] theorem stripI_cond {e : Bool} {x : I} : stripI (.cond e x) = x := rfl
@[go_sem] theorem stripI_junk : stripI .junk = .junk := rfl
@[go_sem] theorem condI_d {x : D} : condI (.d x) = True := rfl
@[go_sem] theorem condI_agg {cs : List I} : condI (.agg cs) = True := rfl
@[go_sem] theorem condI_sl {i g k lo n : Nat} : condI (.sl i g k lo n) = True := rfl
@[go_sem] theorem condI_ptr {i o : Nat} : condI (.ptr i o) = True := rfl
@[go_sem] theorem condI_eptr {i g k x o : Nat} {z : D} : condI (.eptr i g k x o z) = True := rfl
@[go_sem] theorem condI_map {i : Nat} : condI (.map i) = True := rfl
@[go_sem] theorem condI_fn {g : Nat} {cs : List I} : condI (.fn g cs) = True := rfl
@[go_sem] theorem condI_tup {cs : List I} : condI (.tup cs) = True := rfl
@[go_sem] theorem condI_own {i : Nat} : condI (.own i) = True := rfl
@[go_sem] theorem condI_cond {e : Bool} {x : I} : condI (.cond e x) = (e = true) := rfl
@[go_sem] theorem condI_junk : condI .junk = True := rfl
@[go_sem] theorem get_mk {n t : Nat} {m : List (Nat × I)} : Fr.get ⟨n, m⟩ t = look t m := rfl
@[go_sem] theorem look_cons' {s t : Nat} {x : I} {m : List (Nat × I)} : look t ((s, x) :: m) = if s = t then x else look t m := rfl
@[go_sem] theorem look_nil' {t : Nat} : look t [] = .junk := rfl
@[go_sem] theorem put_some {n t : Nat} {m : List (Nat × I)} {x : I} : Fr.put ⟨n, m⟩ (some t) x = if t < n then ⟨n, (t, x) :: m⟩ else ⟨n, m⟩ := rfl
@[go_sem] theorem put_none {x : I} : Fr.put fr none x = fr := rfl
@[go_sem] theorem evs_nil : evs fr [] = [] := rfl
@[go_sem] theorem evs_cons {o : Operand} {r : List Operand} : evs fr (o :: r) = evx fr o :: evs fr r := rfl
@[go_sem] theorem evcs_nil : evcs fr [] = True := rfl
@[go_sem] theorem evcs_cons {o : Operand} {r : List Operand} : evcs fr (o :: r) = (evc fr o ∧ evcs fr r) := rfl
@[go_sem] theorem optE_none : optE fr none = none := rfl
@[go_sem] theorem optE_some {o : Operand} : optE fr (some o) = some (evx fr o) := rfl
@[go_sem] theorem optEc_none : optEc fr none = True := rfl
@[go_sem] theorem optEc_some {o : Operand} : optEc fr (some o) = evc fr o := rfl
@[go_sem] theorem evParts_nil : evParts fr [] = [] := rfl
@[go_sem] theorem evParts_cons {i : Nat} {o : Operand} {r : List (Nat × Operand)} : evParts fr ((i, o) :: r) = (i, evx fr o) :: evParts fr r := rfl
@[go_sem] theorem evcParts_nil : evcParts fr [] = True := rfl
@[go_sem] theorem evcParts_cons {i : Nat} {o : Operand} {r : List (Nat × Operand)} : evcParts fr ((i, o) :: r) = (evc fr o ∧ evcParts fr r) := rfl
@[go_sem] theorem initM_nil {t : Nat} : initM t [] = [] := rfl
@[go_sem] theorem initM_cons {t : Nat} {x : I} {r : List I} : initM t (x :: r) = (t, x) :: initM (t + 1) r := rfl
attribute [go_sem] List.map_cons List.map_nil Nat.zero_add

/-! ### guards -/
def nthDst : List Oper → Nat → Option Tmp
  | [], _ => none
  | o :: _, 0 => o.dst
  | _ :: r, n + 1 => nthDst r n
def guardT (fr : Fr) (want : Bool) : Option Tmp → Option (Prop × Bool)
  | some t => if t < fr.n then (match fr.get t with | .d x => some (x.isBool, if want then x.toBool else !x.toBool) | .cond e (.d x) => some ((e = true → x.isBool), e && (if want then x.toBool else !x.toBool)) | _ => none) else none
  | none => none
def guardI (want : Bool) : I → Option (Prop × Bool)
  | .d x => some (x.isBool, if want then x.toBool else !x.toBool)
  | .cond e (.d x) => some ((e = true → x.isBool), e && (if want then x.toBool else !x.toBool))
  | _ => none
theorem nthDst_eq : ∀ (l : List Oper) (j : Nat), (l[j]?).bind (·.dst) = nthDst l j
  | [], j => by simp [nthDst]
  | o :: r, 0 => by simp [nthDst]
  | o :: r, j + 1 => by simpa [nthDst] using nthDst_eq r j
@[go_sem] theorem guardOf_eq {j : Nat} {want : Bool} : guardOf all fr j want = guardT fr want (nthDst all j) := by
  simp only [guardOf, nthDst_eq]
  cases nthDst all j <;> rfl
@[go_sem] theorem nthDst_zero {o : Oper} {r : List Oper} : nthDst (o :: r) 0 = o.dst := rfl
@[go_sem] theorem nthDst_succ {o : Oper} {r : List Oper} {n : Nat} : nthDst (o :: r) (n + 1) = nthDst r n := rfl
@[go_sem] theorem guardT_some {n t : Nat} {m : List (Nat × I)} {want : Bool} : guardT ⟨n, m⟩ want (some t) = if t < n then guardI want (look t m) else none := by
  simp only [guardT, Fr.get]
  split
  · cases look t m <;> first | rfl | (rename_i x; cases x <;> rfl)
  · rfl
@[go_sem] theorem guardI_true {x : D} : guardI true (.d x) = some (x.isBool, x.toBool) := rfl
@[go_sem] theorem guardI_false {x : D} : guardI false (.d x) = some (x.isBool, !x.toBool) := rfl
@[go_sem] theorem guardI_ctrue {x : D} {e : Bool} : guardI true (.cond e (.d x)) = some ((e = true → x.isBool), e && x.toBool) := rfl
@[go_sem] theorem guardI_cfalse {x : D} {e : Bool} : guardI false (.cond e (.d x)) = some ((e = true → x.isBool), e && !x.toBool) := rfl

/-! ### data -/
@[go_sem] theorem toInt_int {k : IntKind} {n : Int} : (D.int k n).toInt = n := rfl
@[go_sem] theorem toBool_bool {b : Bool} : (D.bool b).toBool = b := rfl
@[go_sem] theorem isInt_int {k k' : IntKind} {n : Int} : (D.int k n).isInt k' = (k = k') := rfl
@[go_sem] theorem isBool_bool {b : Bool} : (D.bool b).isBool = True := rfl
@[go_sem] theorem elems_lst {k : Nat} {l : List D} : (D.lst k l).elems = l := rfl
@[go_sem] theorem elems_nil : D.nil.elems = [] := rfl
@[go_sem] theorem isLst_lst {k k' : Nat} {l : List D} : (D.lst k l).isLst k' = (k = k') := rfl
@[go_sem] theorem isLst_nil {k' : Nat} : D.nil.isLst k' = True := rfl
@[go_sem] theorem isSl_lst {k : Nat} {l : List D} : (D.lst k l).isSl = True := rfl
@[go_sem] theorem isSl_nil : D.nil.isSl = True := rfl
@[go_sem] theorem isNil_lst {k : Nat} {l : List D} : (D.lst k l).isNil = false := rfl
@[go_sem] theorem isNil_nil : D.nil.isNil = true := rfl
@[go_sem] theorem ptrs_ptr {cs : List D} : (D.ptr cs).ptrs = cs := rfl
@[go_sem] theorem isPtr_ptr {cs : List D} : (D.ptr cs).isPtr = True := rfl
@[go_sem] theorem cellAt_agg {cs : List D} {j : Nat} : (D.agg cs).cellAt j = cs.getD j .nil := rfl
@[go_sem] theorem cellAt_int {k : IntKind} {n : Int} : (D.int k n).cellAt 0 = D.int k n := rfl
@[go_sem] theorem cellAt_bool {b : Bool} : (D.bool b).cellAt 0 = D.bool b := rfl
@[go_sem] theorem cellAt_lst {k : Nat} {l : List D} : (D.lst k l).cellAt 0 = D.lst k l := rfl
@[go_sem] theorem cellAt_nil : D.nil.cellAt 0 = D.nil := rfl
@[go_sem] theorem cellAt_raw {v : Value} : (D.raw v).cellAt 0 = D.raw v := rfl
@[go_sem] theorem cellAt_ptr {cs : List D} : (D.ptr cs).cellAt 0 = D.ptr cs := rfl
@[go_sem] theorem cellAt_fn {g : Nat} {cs : List D} : (D.fn g cs).cellAt 0 = D.fn g cs := rfl
@[go_sem] theorem getD_zero {α : Type} {x d : α} {l : List α} : (x :: l).getD 0 d = x := rfl
@[go_sem] theorem getD_succ {α : Type} {x d : α} {l : List α} {n : Nat} : (x :: l).getD (n + 1) d = l.getD n d := rfl
@[go_sem] theorem cells_agg {cs : List D} : (D.agg cs).cells = cs := rfl
@[go_sem] theorem cells_int {k : IntKind} {n : Int} : (D.int k n).cells = [D.int k n] := rfl
@[go_sem] theorem cells_bool {b : Bool} : (D.bool b).cells = [D.bool b] := rfl
@[go_sem] theorem cells_lst {k : Nat} {l : List D} : (D.lst k l).cells = [D.lst k l] := rfl
@[go_sem] theorem cells_nil : D.nil.cells = [D.nil] := rfl
@[go_sem] theorem one_int {k : IntKind} {n : Int} : (D.int k n).one = true := rfl
@[go_sem] theorem one_bool {b : Bool} : (D.bool b).one = true := rfl
@[go_sem] theorem one_lst {k : Nat} {l : List D} : (D.lst k l).one = true := rfl
@[go_sem] theorem one_nil : D.nil.one = true := rfl
@[go_sem] theorem one_agg {cs : List D} : (D.agg cs).one = false := rfl
@[go_sem] theorem one_raw {v : Value} : (D.raw v).one = true := rfl
@[go_sem] theorem one_ptr {cs : List D} : (D.ptr cs).one = true := rfl
@[go_sem] theorem one_fn {g : Nat} {cs : List D} : (D.fn g cs).one = true := rfl
@[go_sem] theorem scalar_int {k : IntKind} {n : Int} : (D.int k n).scalar = true := rfl
@[go_sem] theorem scalar_bool {b : Bool} : (D.bool b).scalar = true := rfl
@[go_sem] theorem scalar_raw {v : Value} : (D.raw v).scalar = true := rfl
@[go_sem] theorem scalar_lst {k : Nat} {l : List D} : (D.lst k l).scalar = false := rfl
@[go_sem] theorem scalar_nil : D.nil.scalar = true := rfl
@[go_sem] theorem imp_true_eq {p : Prop} : (true = true → p) = p := by simp
@[go_sem] theorem imp_false_eq {p : Prop} : (false = true → p) = True := by simp
@[go_sem] theorem scalars_nils {n : Nat} : scalars (List.replicate n D.nil) = true := by induction n with | zero => rfl | succ n ih => simp [List.replicate_succ, scalars, D.cells, D.scalar, ih]
@[go_sem] theorem notTup_agg {cs : List D} : (D.agg cs).notTup = True := rfl
@[go_sem] theorem notTup_int {k : IntKind} {n : Int} : (D.int k n).notTup = True := rfl
@[go_sem] theorem notTup_bool {b : Bool} : (D.bool b).notTup = True := rfl
@[go_sem] theorem notTup_lst {k : Nat} {l : List D} : (D.lst k l).notTup = True := rfl
@[go_sem] theorem notTup_nil : D.nil.notTup = True := rfl
@[go_sem] theorem isTup_tup {xs : List D} {n : Nat} : (D.tup xs).isTup n = (xs.length = n) := rfl
@[go_sem] theorem tupLen_tup {xs : List D} : (D.tup xs).tupLen = xs.length := rfl
@[go_sem] theorem tupAt_tup {xs : List D} {n : Nat} : (D.tup xs).tupAt n = xs.getD n .nil := rfl
@[go_sem] theorem cellsFrom_zero {x : D} {j : Nat} : cellsFrom x j 0 = [] := rfl
@[go_sem] theorem cellsFrom_succ {x : D} {j n : Nat} : cellsFrom x j (n + 1) = x.cellAt j :: cellsFrom x (j + 1) n := rfl
@[go_sem] theorem agg_ne_tup {cs xs : List D} : (D.agg cs = D.tup xs) = False := by simp
@[go_sem] theorem tnorm_int {k : IntKind} {x : D} : tnorm (.int k) x = .int k x.toInt := rfl
@[go_sem] theorem tnorm_bool {x : D} : tnorm .bool x = .bool x.toBool := rfl
@[go_sem] theorem tnorm_slice {e : Nat} {x : D} : tnorm (.slice e) x = x := rfl
@[go_sem] theorem tnorm_ptr {e : Nat} {x : D} : tnorm (.ptr e) x = x := rfl
@[go_sem] theorem tnorm_func {x : D} : tnorm .func x = x := rfl
@[go_sem] theorem tnorm_map {k e : Nat} {x : D} : tnorm (.map k e) x = x := rfl
@[go_sem] theorem tchk_int {k : IntKind} {x : D} : tchk (.int k) x = x.isInt k := rfl
@[go_sem] theorem tchk_bool {x : D} : tchk .bool x = x.isBool := rfl
@[go_sem] theorem tchk_slice {e : Nat} {x : D} : tchk (.slice e) x = (x.one = true) := rfl
@[go_sem] theorem tchk_ptr {e : Nat} {x : D} : tchk (.ptr e) x = (x.one = true) := rfl
@[go_sem] theorem tchk_func {x : D} : tchk .func x = (x.one = true) := rfl
@[go_sem] theorem tchk_map {k e : Nat} {x : D} : tchk (.map k e) x = (x.one = true) := rfl
@[go_sem] theorem tnormI_d {t : Ty} {x : D} : tnormI t (.d x) = .d (tnorm t x) := rfl
@[go_sem] theorem tnormI_sl {t : Ty} {i g k lo n : Nat} : tnormI t (.sl i g k lo n) = .sl i g k lo n := rfl
@[go_sem] theorem tnormI_ptr {t : Ty} {i o : Nat} : tnormI t (.ptr i o) = .ptr i o := rfl
@[go_sem] theorem tnormI_map {t : Ty} {i : Nat} : tnormI t (.map i) = .map i := rfl
@[go_sem] theorem tnormI_fn {t : Ty} {g : Nat} {cs : List I} : tnormI t (.fn g cs) = .fn g cs := rfl
@[go_sem] theorem tchkI_d {t : Ty} {x : D} : tchkI t (.d x) = tchk t x := rfl
@[go_sem] theorem tchkI_sl {t : Ty} {i g k lo n : Nat} : tchkI t (.sl i g k lo n) = True := rfl
@[go_sem] theorem tchkI_ptr {t : Ty} {i o : Nat} : tchkI t (.ptr i o) = True := rfl
@[go_sem] theorem tchkI_map {t : Ty} {i : Nat} : tchkI t (.map i) = True := rfl
@[go_sem] theorem tchkI_fn {t : Ty} {g : Nat} {cs : List I} : tchkI t (.fn g cs) = True := rfl
@[go_sem] theorem agg_int {k : IntKind} : (Ty.int k).agg = false := rfl
@[go_sem] theorem agg_bool : Ty.bool.agg = false := rfl
@[go_sem] theorem agg_slice {e : Nat} : (Ty.slice e).agg = false := rfl
@[go_sem] theorem agg_ptr {e : Nat} : (Ty.ptr e).agg = false := rfl
@[go_sem] theorem agg_func : Ty.func.agg = false := rfl
@[go_sem] theorem agg_map {k e : Nat} : (Ty.map k e).agg = false := rfl
@[go_sem] theorem agg_struct {fs : List (Nat × Nat)} : (Ty.struct fs).agg = true := rfl
@[go_sem] theorem agg_array {n e : Nat} : (Ty.array n e).agg = true := rfl
@[go_sem] theorem allD_nil : allD [] = some [] := rfl
def consD (x : D) : Option (List D) → Option (List D)
  | some l => some (x :: l)
  | none => none
@[go_sem] theorem allD_d {x : D} {r : List I} : allD (.d x :: r) = consD x (allD r) := by
  simp only [allD]; cases allD r <;> rfl
@[go_sem] theorem consD_some {x : D} {l : List D} : consD x (some l) = some (x :: l) := rfl
@[go_sem] theorem consD_none {x : D} : consD x none = none := rfl
@[go_sem] theorem allD_sl {i g k lo n : Nat} {r : List I} : allD (.sl i g k lo n :: r) = none := rfl
@[go_sem] theorem allD_ptr {i o : Nat} {r : List I} : allD (.ptr i o :: r) = none := rfl
@[go_sem] theorem allD_map {i : Nat} {r : List I} : allD (.map i :: r) = none := rfl
@[go_sem] theorem allD_fn {g : Nat} {cs r : List I} : allD (.fn g cs :: r) = none := rfl
def mkAggO (cs : List I) : Option (List D) → I
  | some ds => .d (.agg ds)
  | none => .agg cs
@[go_sem] theorem mkAgg_eq {cs : List I} : mkAgg cs = mkAggO cs (allD cs) := by
  simp only [mkAgg]; cases allD cs <;> rfl
@[go_sem] theorem mkAggO_some {cs : List I} {ds : List D} : mkAggO cs (some ds) = .d (.agg ds) := rfl
@[go_sem] theorem mkAggO_none {cs : List I} : mkAggO cs none = .agg cs := rfl
def mkFnO (g : Nat) (cs : List I) : Option (List D) → I
  | some ds => .d (.fn g ds)
  | none => .fn g cs
@[go_sem] theorem mkFn_eq {g : Nat} {cs : List I} : mkFn g cs = mkFnO g cs (allD cs) := by
  simp only [mkFn]; cases allD cs <;> rfl
@[go_sem] theorem mkFnO_some {g : Nat} {cs : List I} {ds : List D} : mkFnO g cs (some ds) = .d (.fn g ds) := rfl
@[go_sem] theorem mkFnO_none {g : Nat} {cs : List I} : mkFnO g cs none = .fn g cs := rfl
@[go_sem] theorem allOne_nil : allOne [] = True := rfl
@[go_sem] theorem allOne_cons {x : I} {r : List I} : allOne (x :: r) = (oneI x ∧ allOne r) := rfl
@[go_sem] theorem oneI_d {x : D} : oneI (.d x) = (x.one = true) := rfl
@[go_sem] theorem oneI_sl {i g k lo n : Nat} : oneI (.sl i g k lo n) = True := rfl
@[go_sem] theorem oneI_ptr {i o : Nat} : oneI (.ptr i o) = True := rfl
@[go_sem] theorem oneI_map {i : Nat} : oneI (.map i) = True := rfl
@[go_sem] theorem oneI_fn {g : Nat} {cs : List I} : oneI (.fn g cs) = True := rfl

/-! ### the heap -/
def rootAt : List R → Nat → Option R
  | [], _ => none
  | r :: _, 0 => some r
  | _ :: l, n + 1 => rootAt l n
theorem rootAt_eq : ∀ (H : List R) (i : Nat), H[i]? = rootAt H i
  | [], i => by simp [rootAt]
  | r :: l, 0 => by simp [rootAt]
  | r :: l, i + 1 => by simpa [rootAt] using rootAt_eq l i
def frzR (fr : Fr) (H : List R) (t i g k lo n : Nat) : Option R → Option (Prop × Fr × List R)
  | some (.row g' k' _ l) => some (g = g' ∧ k = k', fr.put (some t) (.d (.lst k ((l.drop lo).take n))), H.set i (.dead g'))
  | _ => none
def frzS (fr : Fr) (H : List R) (t : Nat) : I → Option (Prop × Fr × List R)
  | .sl i g k lo n => frzR fr H t i g k lo n (rootAt H i)
  | _ => none
@[go_sem] theorem frzP_one {j t : Nat} : frzP fr H [(j, .tmp t)] = frzS fr H t (fr.get t) := by
  simp only [frzP]
  cases fr.get t <;> simp only [frzS]
  rename_i i g k lo n
  rw [← rootAt_eq]
  cases H[i]? with
  | none => rfl
  | some r => cases r <;> rfl
@[go_sem] theorem frzS_sl {t i g k lo n : Nat} : frzS fr H t (.sl i g k lo n) = frzR fr H t i g k lo n (rootAt H i) := rfl
@[go_sem] theorem frzR_row {t i g k lo n g' k' : Nat} {dp : Bool} {l : List D} : frzR fr H t i g k lo n (some (.row g' k' dp l)) = some (g = g' ∧ k = k', fr.put (some t) (.d (.lst k ((l.drop lo).take n))), H.set i (.dead g')) := rfl
@[go_sem] theorem rootAt_zero {r : R} {l : List R} : rootAt (r :: l) 0 = some r := rfl
@[go_sem] theorem rootAt_succ {r : R} {l : List R} {n : Nat} : rootAt (r :: l) (n + 1) = rootAt l n := rfl
attribute [go_sem] List.length_cons List.length_nil List.cons_append List.nil_append List.set_cons_zero List.set_cons_succ List.drop_succ_cons List.drop_zero List.take_succ_cons List.take_zero List.drop_nil List.take_nil


/-! ### regions that draw their order -/
section draw
variable {K : Fr → Prop} {j : Nat} {want : Bool}
def qsP (E : Env) (all rest : List Oper) (H : List R) (K : Fr → Prop) (fr : Fr) (dst : Option Tmp) : Option (Prop × I) → Prop
  | some (vc, x) => vc ∧ opsQ E all H K rest (fr.put dst x)
  | none => False
def qsG (E : Env) (all rest : List Oper) (H : List R) (K : Fr → Prop) (fr : Fr) (dst : Option Tmp) : Option (Prop × Bool) → Option (Prop × I) → Prop
  | some (gc, e), some (vc, x) => gc ∧ (e = true → vc) ∧ opsQ E all H K rest (fr.put dst (.cond e x))
  | _, _ => False
def qsGC (E : Env) (all rest : List Oper) (H : List R) (K : Fr → Prop) (fr : Fr) (dst : Option Tmp) (c : Prop) (fn : Option (Nat × List I)) (args : List I) : Option (Prop × Bool) → Prop
  | some (gc, e) => gc ∧ callQ E c e fn args H (fun x => opsQ E all H K rest (fr.put dst (.cond e (.d x))))
  | none => False
@[go_sem] theorem qsP_some {vc : Prop} {x : I} : qsP E all rest H K fr dst (some (vc, x)) = (vc ∧ opsQ E all H K rest (fr.put dst x)) := rfl
@[go_sem] theorem qsG_some {gc vc : Prop} {e : Bool} {x : I} : qsG E all rest H K fr dst (some (gc, e)) (some (vc, x)) = (gc ∧ (e = true → vc) ∧ opsQ E all H K rest (fr.put dst (.cond e x))) := rfl
@[go_sem] theorem qsGC_some {c gc : Prop} {e : Bool} {fn : Option (Nat × List I)} {args : List I} : qsGC E all rest H K fr dst c fn args (some (gc, e)) = (gc ∧ callQ E c e fn args H (fun x => opsQ E all H K rest (fr.put dst (.cond e (.d x))))) := rfl
theorem qs_P {op : Op} {o : Option (Prop × I)} (h1 : isCall op = none) (h2 : sopP E.T fr H op = o) : opsQ E all H K (⟨dst, op, ty, pos, af, none⟩ :: rest) fr = qsP E all rest H K fr dst o := by
  simp only [opsQ, h1, h2]
  cases o <;> rfl
theorem qs_G {op : Op} {o : Option (Prop × I)} (h1 : isCall op = none) (h2 : sopP E.T fr H op = o) :
    opsQ E all H K (⟨dst, op, ty, pos, af, some (j, want)⟩ :: rest) fr = qsG E all rest H K fr dst (guardOf all fr j want) o := by
  simp only [opsQ, h1, h2]
  cases guardOf all fr j want with
  | none => rfl
  | some g => cases o <;> rfl
@[go_sem] theorem qs_nil : opsQ E all H K [] fr = K fr := rfl
@[go_sem] theorem qs_call {g : Operand} {args : List Operand} {ts : Array TypeId} : opsQ E all H K (⟨dst, .call ⟨.value g, args.toArray, ts⟩, ty, pos, af, none⟩ :: rest) fr =
    callQ E (evc fr g ∧ evcs fr args) true (fnOf (evx fr g)) (evs fr args) H (fun x => opsQ E all H K rest (fr.put dst (.d x))) := by simp only [opsQ, isCall]
@[go_sem] theorem qsG_call {g : Operand} {args : List Operand} {ts : Array TypeId} : opsQ E all H K (⟨dst, .call ⟨.value g, args.toArray, ts⟩, ty, pos, af, some (j, want)⟩ :: rest) fr =
    qsGC E all rest H K fr dst (evc fr g ∧ evcs fr args) (fnOf (evx fr g)) (evs fr args) (guardOf all fr j want) := by
  simp only [opsQ, isCall]
  cases guardOf all fr j want <;> rfl
@[go_sem] theorem quiet_def {T : Nat → Option TI} {l : List Oper} : quiet T l = (quietL l && scalL T l) := rfl
@[go_sem] theorem scalL_nil {T : Nat → Option TI} : scalL T [] = true := rfl
@[go_sem] theorem scalL_cons {T : Nat → Option TI} {op : Op} {gd : Option (Nat × Bool)} : scalL T (⟨dst, op, ty, pos, af, gd⟩ :: rest) = (scalO T ty op && scalL T rest) := rfl
@[go_sem] theorem scalTI_int {k : IntKind} {a b : Nat} {z : D} : scalTI (some ⟨.int k, a, b, z⟩) = true := rfl
@[go_sem] theorem scalTI_bool {a b : Nat} {z : D} : scalTI (some ⟨.bool, a, b, z⟩) = true := rfl
@[go_sem] theorem scalTI_none : scalTI none = false := rfl
@[go_sem] theorem scalTI_slice {e a b : Nat} {z : D} : scalTI (some ⟨.slice e, a, b, z⟩) = false := rfl
@[go_sem] theorem scalTI_else {t : Ty} {a b : Nat} {z : D} (h1 : ∀ k, t = .int k → False) (h2 : t = .bool → False) : scalTI (some ⟨t, a, b, z⟩) = false := by
  cases t with
  | int k => exact absurd rfl (fun h => h1 k h)
  | bool => exact absurd rfl (fun h => h2 h)
  | _ => rfl
@[go_sem] theorem scalO_call {T : Nat → Option TI} {g : Operand} {args : Array Operand} {ts : Array TypeId} : scalO T ty (.call ⟨.value g, args, ts⟩) = scalTI (T ty) := rfl
@[go_sem] theorem scalO_builtin {T : Nat → Option TI} {b : Builtin} {args : Array Operand} {ts : Array TypeId} : scalO T ty (.call ⟨.builtin b, args, ts⟩) = true := rfl
@[go_sem] theorem scalO_move {T : Nat → Option TI} {x : Operand} : scalO T ty (.move x) = true := rfl
@[go_sem] theorem scalO_assign {T : Nat → Option TI} {x : Operand} : scalO T ty (.assign x) = true := rfl
@[go_sem] theorem scalO_pick {T : Nat → Option TI} {c x y : Operand} : scalO T ty (.pick c x y) = true := rfl
@[go_sem] theorem scalO_build {T : Nat → Option TI} {t : TypeId} {p : Array (Nat × Operand)} : scalO T ty (.build t p) = true := rfl
@[go_sem] theorem scalO_load {T : Nat → Option TI} {t : TypeId} {x : Operand} : scalO T ty (.load t x) = true := rfl
@[go_sem] theorem scalO_nilCheck {T : Nat → Option TI} {x : Operand} : scalO T ty (.nilCheck x) = true := rfl
@[go_sem] theorem scalO_binOp {T : Nat → Option TI} {op : BinOp} {t yt : TypeId} {x y : Operand} : scalO T ty (.binOp op t x y yt) = true := rfl
@[go_sem] theorem scalO_unOp {T : Nat → Option TI} {op : UnOp} {t : TypeId} {x : Operand} : scalO T ty (.unOp op t x) = true := rfl
@[go_sem] theorem scalO_convert {T : Nat → Option TI} {t u : TypeId} {x : Operand} : scalO T ty (.convert t u x) = true := rfl
@[go_sem] theorem scalO_makeFunc {T : Nat → Option TI} {c : Fn} {a b : Array Operand} : scalO T ty (.makeFunc c a b) = true := rfl
@[go_sem] theorem scalO_slice {T : Nat → Option TI} {t : TypeId} {x : Operand} {lo hi mx : Option Operand} : scalO T ty (.slice t x lo hi mx) = true := rfl
@[go_sem] theorem scalO_fieldAddr {T : Nat → Option TI} {t : TypeId} {x : Operand} {i : Nat} : scalO T ty (.fieldAddr t x i) = true := rfl
@[go_sem] theorem scalO_field {T : Nat → Option TI} {t : TypeId} {x : Operand} {i : Nat} : scalO T ty (.field t x i) = true := rfl
@[go_sem] theorem scalO_indexAddr {T : Nat → Option TI} {t : TypeId} {x y : Operand} : scalO T ty (.indexAddr t x y) = true := rfl
@[go_sem] theorem scalO_index {T : Nat → Option TI} {t : TypeId} {x y : Operand} : scalO T ty (.index t x y) = true := rfl
@[go_sem] theorem scalO_extract {T : Nat → Option TI} {x : Operand} {i : Nat} : scalO T ty (.extract x i) = true := rfl
@[go_sem] theorem scalO_box {T : Nat → Option TI} {t : TypeId} {x : Operand} : scalO T ty (.box t x) = true := rfl
@[go_sem] theorem scalO_alloc {T : Nat → Option TI} {t : TypeId} : scalO T ty (.alloc t) = true := rfl
@[go_sem] theorem scalO_buildSlice {T : Nat → Option TI} {t : TypeId} {n : Nat} {parts : Array (Nat × Operand)} : scalO T ty (.buildSlice t n parts) = true := rfl
@[go_sem] theorem scalO_makeSlice {T : Nat → Option TI} {t : TypeId} {x y : Operand} : scalO T ty (.makeSlice t x y) = true := rfl
@[go_sem] theorem scalO_store {T : Nat → Option TI} {t : TypeId} {x y : Operand} : scalO T ty (.store t x y) = true := rfl
@[go_sem] theorem quietL_nil : quietL [] = true := rfl
@[go_sem] theorem quietL_call {g : Operand} {args : List Operand} {ts : Array TypeId} {gd : Option (Nat × Bool)} : quietL (⟨dst, .call ⟨.value g, args.toArray, ts⟩, ty, pos, af, gd⟩ :: rest) = quietL rest := rfl
def callQ1 (E : Env) (c : Prop) (e : Bool) (f : Nat) (K : D → Prop) : Option (Prop × List D) → Prop
  | some (vc, ds) => (e = true → c ∧ vc) ∧ qcall E e f ds K
  | none => False
@[go_sem] theorem callQ_s {c : Prop} {e : Bool} {g : Nat} {caps args : List I} {K : D → Prop} : callQ E c e (some (g, caps)) args H K = callQ1 E c e g K (views H (args ++ caps)) := by
  simp only [callQ]; cases views H (args ++ caps) <;> rfl
@[go_sem] theorem callQ1_s {c vc : Prop} {e : Bool} {g : Nat} {ds : List D} {K : D → Prop} : callQ1 E c e g K (some (vc, ds)) = ((e = true → c ∧ vc) ∧ qcall E e g ds K) := rfl
theorem qcall_of {e : Bool} {g : Nat} {ds : List D} {K : D → Prop} {x : D} (h : e = true → Pure E.P g ds x ∧ scal x) (hk : K x) : qcall E e g ds K := ⟨x, h, hk⟩
@[go_sem] theorem scal_int {k : IntKind} {n : Int} : scal (.int k n) = InK k n := rfl
@[go_sem] theorem scal_bool {b : Bool} : scal (.bool b) = True := rfl
@[go_sem] theorem qs_move {x : Operand} : opsQ E all H K (⟨dst, .move x, ty, pos, af, none⟩ :: rest) fr = qsP E all rest H K fr dst (some (evc fr x, evx fr x)) := qs_P rfl rfl
@[go_sem] theorem qs_assign {x : Operand} : opsQ E all H K (⟨dst, .assign x, ty, pos, af, none⟩ :: rest) fr = qsP E all rest H K fr dst (some (evc fr x, evx fr x)) := qs_P rfl rfl
@[go_sem] theorem qs_pick {c x y : Operand} : opsQ E all H K (⟨dst, .pick c x y, ty, pos, af, none⟩ :: rest) fr = qsP E all rest H K fr dst (andC (evc fr c) (sPick (evx fr c) (evx fr x) (evx fr y) (evc fr x) (evc fr y))) := qs_P rfl rfl
@[go_sem] theorem qs_build {t : TypeId} {parts : Array (Nat × Operand)} : opsQ E all H K (⟨dst, .build t parts, ty, pos, af, none⟩ :: rest) fr = qsP E all rest H K fr dst (andC (evcParts fr parts.toList) (sBuild E.T t (evParts fr parts.toList))) := qs_P rfl rfl
@[go_sem] theorem qs_load {t : TypeId} {x : Operand} : opsQ E all H K (⟨dst, .load t x, ty, pos, af, none⟩ :: rest) fr = qsP E all rest H K fr dst (andC (evc fr x) (sLoad E.T H t (evx fr x))) := qs_P rfl rfl
@[go_sem] theorem qs_nilCheck {x : Operand} : opsQ E all H K (⟨dst, .nilCheck x, ty, pos, af, none⟩ :: rest) fr = qsP E all rest H K fr dst (andC (evc fr x) (sNil H (evx fr x))) := qs_P rfl rfl
@[go_sem] theorem qs_binOp {op : BinOp} {t yt : TypeId} {x y : Operand} : opsQ E all H K (⟨dst, .binOp op t x y yt, ty, pos, af, none⟩ :: rest) fr = qsP E all rest H K fr dst (andC (evc fr x ∧ evc fr y) (sBin E.T H op t (evx fr x) (evx fr y))) := qs_P rfl rfl
@[go_sem] theorem qs_unOp {op : UnOp} {t : TypeId} {x : Operand} : opsQ E all H K (⟨dst, .unOp op t x, ty, pos, af, none⟩ :: rest) fr = qsP E all rest H K fr dst (andC (evc fr x) (sUn op (evx fr x))) := qs_P rfl rfl
@[go_sem] theorem qs_convert {s t : TypeId} {x : Operand} : opsQ E all H K (⟨dst, .convert s t x, ty, pos, af, none⟩ :: rest) fr = qsP E all rest H K fr dst (andC (evc fr x) (sConv E.T s t (evx fr x))) := qs_P rfl rfl
@[go_sem] theorem qs_makeFunc {g : Nat} {caps : List Operand} : opsQ E all H K (⟨dst, .makeFunc (.func g) #[] caps.toArray, ty, pos, af, none⟩ :: rest) fr = qsP E all rest H K fr dst (some (evcs fr caps, mkFn g (evs fr caps))) := qs_P rfl (by simp [sopP])
@[go_sem] theorem qs_slice {t : TypeId} {x : Operand} {lo hi mx : Option Operand} : opsQ E all H K (⟨dst, .slice t x lo hi mx, ty, pos, af, none⟩ :: rest) fr = qsP E all rest H K fr dst (andC (evc fr x ∧ optEc fr lo ∧ optEc fr hi) (sSlice E.T H t (evx fr x) (optE fr lo) (optE fr hi) (optE fr mx))) := qs_P rfl rfl
@[go_sem] theorem qs_fieldAddr {t : TypeId} {x : Operand} {i : Nat} : opsQ E all H K (⟨dst, .fieldAddr t x i, ty, pos, af, none⟩ :: rest) fr = qsP E all rest H K fr dst (andC (evc fr x) (sFieldAddr E.T H t (evx fr x) i)) := qs_P rfl rfl
@[go_sem] theorem qs_field {t : TypeId} {x : Operand} {i : Nat} : opsQ E all H K (⟨dst, .field t x i, ty, pos, af, none⟩ :: rest) fr = qsP E all rest H K fr dst (andC (evc fr x) (sField E.T t (evx fr x) i)) := qs_P rfl rfl
@[go_sem] theorem qs_indexAddr {t : TypeId} {x y : Operand} : opsQ E all H K (⟨dst, .indexAddr t x y, ty, pos, af, none⟩ :: rest) fr = qsP E all rest H K fr dst (andC (evc fr x ∧ evc fr y) (sIndexAddr E.T H t (evx fr x) (evx fr y))) := qs_P rfl rfl
@[go_sem] theorem qs_index {t : TypeId} {x y : Operand} : opsQ E all H K (⟨dst, .index t x y, ty, pos, af, none⟩ :: rest) fr = qsP E all rest H K fr dst (andC (evc fr x ∧ evc fr y) (sIndex E.T t (evx fr x) (evx fr y))) := qs_P rfl rfl
@[go_sem] theorem qs_extract {x : Operand} {i : Nat} : opsQ E all H K (⟨dst, .extract x i, ty, pos, af, none⟩ :: rest) fr = qsP E all rest H K fr dst (andC (evc fr x) (sExtract (evx fr x) i)) := qs_P rfl rfl
@[go_sem] theorem qs_len {x : Operand} {t : TypeId} : opsQ E all H K (⟨dst, .call ⟨.builtin .len, #[x], #[t]⟩, ty, pos, af, none⟩ :: rest) fr = qsP E all rest H K fr dst (andC (evc fr x) (sLen E.T H t (evx fr x))) := qs_P rfl rfl
@[go_sem] theorem qs_min {x y : Operand} {ts : Array TypeId} : opsQ E all H K (⟨dst, .call ⟨.builtin .min, #[x, y], ts⟩, ty, pos, af, none⟩ :: rest) fr = qsP E all rest H K fr dst (andC (evc fr x ∧ evc fr y) (sMM .min (evx fr x) (evx fr y))) := qs_P rfl rfl
@[go_sem] theorem qs_max {x y : Operand} {ts : Array TypeId} : opsQ E all H K (⟨dst, .call ⟨.builtin .max, #[x, y], ts⟩, ty, pos, af, none⟩ :: rest) fr = qsP E all rest H K fr dst (andC (evc fr x ∧ evc fr y) (sMM .max (evx fr x) (evx fr y))) := qs_P rfl rfl
@[go_sem] theorem qsG_move {x : Operand} : opsQ E all H K (⟨dst, .move x, ty, pos, af, some (j, want)⟩ :: rest) fr = qsG E all rest H K fr dst (guardOf all fr j want) (some (evc fr x, evx fr x)) := qs_G rfl rfl
@[go_sem] theorem qsG_assign {x : Operand} : opsQ E all H K (⟨dst, .assign x, ty, pos, af, some (j, want)⟩ :: rest) fr = qsG E all rest H K fr dst (guardOf all fr j want) (some (evc fr x, evx fr x)) := qs_G rfl rfl
@[go_sem] theorem qsG_pick {c x y : Operand} : opsQ E all H K (⟨dst, .pick c x y, ty, pos, af, some (j, want)⟩ :: rest) fr = qsG E all rest H K fr dst (guardOf all fr j want) (andC (evc fr c) (sPick (evx fr c) (evx fr x) (evx fr y) (evc fr x) (evc fr y))) := qs_G rfl rfl
@[go_sem] theorem qsG_build {t : TypeId} {parts : Array (Nat × Operand)} : opsQ E all H K (⟨dst, .build t parts, ty, pos, af, some (j, want)⟩ :: rest) fr = qsG E all rest H K fr dst (guardOf all fr j want) (andC (evcParts fr parts.toList) (sBuild E.T t (evParts fr parts.toList))) := qs_G rfl rfl
@[go_sem] theorem qsG_load {t : TypeId} {x : Operand} : opsQ E all H K (⟨dst, .load t x, ty, pos, af, some (j, want)⟩ :: rest) fr = qsG E all rest H K fr dst (guardOf all fr j want) (andC (evc fr x) (sLoad E.T H t (evx fr x))) := qs_G rfl rfl
@[go_sem] theorem qsG_nilCheck {x : Operand} : opsQ E all H K (⟨dst, .nilCheck x, ty, pos, af, some (j, want)⟩ :: rest) fr = qsG E all rest H K fr dst (guardOf all fr j want) (andC (evc fr x) (sNil H (evx fr x))) := qs_G rfl rfl
@[go_sem] theorem qsG_binOp {op : BinOp} {t yt : TypeId} {x y : Operand} : opsQ E all H K (⟨dst, .binOp op t x y yt, ty, pos, af, some (j, want)⟩ :: rest) fr = qsG E all rest H K fr dst (guardOf all fr j want) (andC (evc fr x ∧ evc fr y) (sBin E.T H op t (evx fr x) (evx fr y))) := qs_G rfl rfl
@[go_sem] theorem qsG_unOp {op : UnOp} {t : TypeId} {x : Operand} : opsQ E all H K (⟨dst, .unOp op t x, ty, pos, af, some (j, want)⟩ :: rest) fr = qsG E all rest H K fr dst (guardOf all fr j want) (andC (evc fr x) (sUn op (evx fr x))) := qs_G rfl rfl
@[go_sem] theorem qsG_convert {s t : TypeId} {x : Operand} : opsQ E all H K (⟨dst, .convert s t x, ty, pos, af, some (j, want)⟩ :: rest) fr = qsG E all rest H K fr dst (guardOf all fr j want) (andC (evc fr x) (sConv E.T s t (evx fr x))) := qs_G rfl rfl
@[go_sem] theorem qsG_slice {t : TypeId} {x : Operand} {lo hi mx : Option Operand} : opsQ E all H K (⟨dst, .slice t x lo hi mx, ty, pos, af, some (j, want)⟩ :: rest) fr = qsG E all rest H K fr dst (guardOf all fr j want) (andC (evc fr x ∧ optEc fr lo ∧ optEc fr hi) (sSlice E.T H t (evx fr x) (optE fr lo) (optE fr hi) (optE fr mx))) := qs_G rfl rfl
@[go_sem] theorem qsG_fieldAddr {t : TypeId} {x : Operand} {i : Nat} : opsQ E all H K (⟨dst, .fieldAddr t x i, ty, pos, af, some (j, want)⟩ :: rest) fr = qsG E all rest H K fr dst (guardOf all fr j want) (andC (evc fr x) (sFieldAddr E.T H t (evx fr x) i)) := qs_G rfl rfl
@[go_sem] theorem qsG_field {t : TypeId} {x : Operand} {i : Nat} : opsQ E all H K (⟨dst, .field t x i, ty, pos, af, some (j, want)⟩ :: rest) fr = qsG E all rest H K fr dst (guardOf all fr j want) (andC (evc fr x) (sField E.T t (evx fr x) i)) := qs_G rfl rfl
@[go_sem] theorem qsG_indexAddr {t : TypeId} {x y : Operand} : opsQ E all H K (⟨dst, .indexAddr t x y, ty, pos, af, some (j, want)⟩ :: rest) fr = qsG E all rest H K fr dst (guardOf all fr j want) (andC (evc fr x ∧ evc fr y) (sIndexAddr E.T H t (evx fr x) (evx fr y))) := qs_G rfl rfl
@[go_sem] theorem qsG_index {t : TypeId} {x y : Operand} : opsQ E all H K (⟨dst, .index t x y, ty, pos, af, some (j, want)⟩ :: rest) fr = qsG E all rest H K fr dst (guardOf all fr j want) (andC (evc fr x ∧ evc fr y) (sIndex E.T t (evx fr x) (evx fr y))) := qs_G rfl rfl
@[go_sem] theorem qsG_extract {x : Operand} {i : Nat} : opsQ E all H K (⟨dst, .extract x i, ty, pos, af, some (j, want)⟩ :: rest) fr = qsG E all rest H K fr dst (guardOf all fr j want) (andC (evc fr x) (sExtract (evx fr x) i)) := qs_G rfl rfl
@[go_sem] theorem qsG_len {x : Operand} {t : TypeId} : opsQ E all H K (⟨dst, .call ⟨.builtin .len, #[x], #[t]⟩, ty, pos, af, some (j, want)⟩ :: rest) fr = qsG E all rest H K fr dst (guardOf all fr j want) (andC (evc fr x) (sLen E.T H t (evx fr x))) := qs_G rfl rfl
@[go_sem] theorem qsG_min {x y : Operand} {ts : Array TypeId} : opsQ E all H K (⟨dst, .call ⟨.builtin .min, #[x, y], ts⟩, ty, pos, af, some (j, want)⟩ :: rest) fr = qsG E all rest H K fr dst (guardOf all fr j want) (andC (evc fr x ∧ evc fr y) (sMM .min (evx fr x) (evx fr y))) := qs_G rfl rfl
@[go_sem] theorem qsG_max {x y : Operand} {ts : Array TypeId} : opsQ E all H K (⟨dst, .call ⟨.builtin .max, #[x, y], ts⟩, ty, pos, af, some (j, want)⟩ :: rest) fr = qsG E all rest H K fr dst (guardOf all fr j want) (andC (evc fr x ∧ evc fr y) (sMM .max (evx fr x) (evx fr y))) := qs_G rfl rfl
@[go_sem] theorem quietL_move {x : Operand} {gd : Option (Nat × Bool)} : quietL (⟨dst, .move x, ty, pos, af, gd⟩ :: rest) = quietL rest := rfl
@[go_sem] theorem quietL_assign {x : Operand} {gd : Option (Nat × Bool)} : quietL (⟨dst, .assign x, ty, pos, af, gd⟩ :: rest) = quietL rest := rfl
@[go_sem] theorem quietL_pick {c x y : Operand} {gd : Option (Nat × Bool)} : quietL (⟨dst, .pick c x y, ty, pos, af, gd⟩ :: rest) = quietL rest := rfl
@[go_sem] theorem quietL_build {t : TypeId} {parts : Array (Nat × Operand)} {gd : Option (Nat × Bool)} : quietL (⟨dst, .build t parts, ty, pos, af, gd⟩ :: rest) = quietL rest := rfl
@[go_sem] theorem quietL_load {t : TypeId} {x : Operand} {gd : Option (Nat × Bool)} : quietL (⟨dst, .load t x, ty, pos, af, gd⟩ :: rest) = quietL rest := rfl
@[go_sem] theorem quietL_nilCheck {x : Operand} {gd : Option (Nat × Bool)} : quietL (⟨dst, .nilCheck x, ty, pos, af, gd⟩ :: rest) = quietL rest := rfl
@[go_sem] theorem quietL_binOp {op : BinOp} {t yt : TypeId} {x y : Operand} {gd : Option (Nat × Bool)} : quietL (⟨dst, .binOp op t x y yt, ty, pos, af, gd⟩ :: rest) = quietL rest := rfl
@[go_sem] theorem quietL_unOp {op : UnOp} {t : TypeId} {x : Operand} {gd : Option (Nat × Bool)} : quietL (⟨dst, .unOp op t x, ty, pos, af, gd⟩ :: rest) = quietL rest := rfl
@[go_sem] theorem quietL_convert {s t : TypeId} {x : Operand} {gd : Option (Nat × Bool)} : quietL (⟨dst, .convert s t x, ty, pos, af, gd⟩ :: rest) = quietL rest := rfl
@[go_sem] theorem quietL_makeFunc {g : Nat} {caps : List Operand} {gd : Option (Nat × Bool)} : quietL (⟨dst, .makeFunc (.func g) #[] caps.toArray, ty, pos, af, gd⟩ :: rest) = quietL rest := rfl
@[go_sem] theorem quietL_slice {t : TypeId} {x : Operand} {lo hi mx : Option Operand} {gd : Option (Nat × Bool)} : quietL (⟨dst, .slice t x lo hi mx, ty, pos, af, gd⟩ :: rest) = quietL rest := rfl
@[go_sem] theorem quietL_fieldAddr {t : TypeId} {x : Operand} {i : Nat} {gd : Option (Nat × Bool)} : quietL (⟨dst, .fieldAddr t x i, ty, pos, af, gd⟩ :: rest) = quietL rest := rfl
@[go_sem] theorem quietL_field {t : TypeId} {x : Operand} {i : Nat} {gd : Option (Nat × Bool)} : quietL (⟨dst, .field t x i, ty, pos, af, gd⟩ :: rest) = quietL rest := rfl
@[go_sem] theorem quietL_indexAddr {t : TypeId} {x y : Operand} {gd : Option (Nat × Bool)} : quietL (⟨dst, .indexAddr t x y, ty, pos, af, gd⟩ :: rest) = quietL rest := rfl
@[go_sem] theorem quietL_index {t : TypeId} {x y : Operand} {gd : Option (Nat × Bool)} : quietL (⟨dst, .index t x y, ty, pos, af, gd⟩ :: rest) = quietL rest := rfl
@[go_sem] theorem quietL_extract {x : Operand} {i : Nat} {gd : Option (Nat × Bool)} : quietL (⟨dst, .extract x i, ty, pos, af, gd⟩ :: rest) = quietL rest := rfl
@[go_sem] theorem quietL_len {x : Operand} {t : TypeId} {gd : Option (Nat × Bool)} : quietL (⟨dst, .call ⟨.builtin .len, #[x], #[t]⟩, ty, pos, af, gd⟩ :: rest) = quietL rest := rfl
@[go_sem] theorem quietL_min {x y : Operand} {ts : Array TypeId} {gd : Option (Nat × Bool)} : quietL (⟨dst, .call ⟨.builtin .min, #[x, y], ts⟩, ty, pos, af, gd⟩ :: rest) = quietL rest := rfl
@[go_sem] theorem quietL_max {x y : Operand} {ts : Array TypeId} {gd : Option (Nat × Bool)} : quietL (⟨dst, .call ⟨.builtin .max, #[x, y], ts⟩, ty, pos, af, gd⟩ :: rest) = quietL rest := rfl
@[go_sem] theorem quietL_box {t : TypeId} {x : Operand} {gd : Option (Nat × Bool)} : quietL (⟨dst, .box t x, ty, pos, af, gd⟩ :: rest) = false := rfl
@[go_sem] theorem quietL_alloc {t : TypeId} {gd : Option (Nat × Bool)} : quietL (⟨dst, .alloc t, ty, pos, af, gd⟩ :: rest) = false := rfl
@[go_sem] theorem quietL_buildSlice {t : TypeId} {n : Nat} {parts : Array (Nat × Operand)} {gd : Option (Nat × Bool)} : quietL (⟨dst, .buildSlice t n parts, ty, pos, af, gd⟩ :: rest) = false := rfl
@[go_sem] theorem quietL_makeSlice {t : TypeId} {x y : Operand} {gd : Option (Nat × Bool)} : quietL (⟨dst, .makeSlice t x y, ty, pos, af, gd⟩ :: rest) = false := rfl
@[go_sem] theorem quietL_store {t : TypeId} {x y : Operand} {gd : Option (Nat × Bool)} : quietL (⟨dst, .store t x y, ty, pos, af, gd⟩ :: rest) = false := rfl
@[go_sem] theorem quietL_append {x y : Operand} {t t' : TypeId} {gd : Option (Nat × Bool)} : quietL (⟨dst, .call ⟨.builtin .append, #[x, y], #[t, t']⟩, ty, pos, af, gd⟩ :: rest) = false := rfl
@[go_sem] theorem quietL_copy {x y : Operand} {t t' : TypeId} {gd : Option (Nat × Bool)} : quietL (⟨dst, .call ⟨.builtin .copy, #[x, y], #[t, t']⟩, ty, pos, af, gd⟩ :: rest) = false := rfl
end draw

end Go.VL

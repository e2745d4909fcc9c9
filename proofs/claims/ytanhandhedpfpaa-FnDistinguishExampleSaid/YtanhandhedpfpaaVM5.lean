/- Part 20: the rewriting rules by which the machine runs. Conditions: none; lemmas. -/
import Derived.Test.YtanhandhedpfpaaVM4
import Derived.Attr
set_option linter.unusedVariables false
set_option linter.unusedSimpArgs false
namespace Go.VL
variable {E:Env}{Q:Post}{fr:Fr}{H:List R}{f:Nat}{ks:List Item}{all rest:List Oper}{dst:Option Tmp}{ty:TypeId}{pos:String}{af:Array Edge}{T:Nat→Option TI}
@[go_sem] theorem exec_nil:exec E (f+1) [] Q fr H=Q .normal fr H:=by simp only[exec]
@[go_sem] theorem exec_blk {id:Nat}:exec E (f+1) (.blk id::ks) Q fr H=exec E f ks Q fr H:=by simp only[exec]
@[go_sem] theorem exec_code {c:Code}:exec E (f+1) (.code c::ks) Q fr H=qaB E f c ks Q fr H:=by simp only[exec]
@[go_sem] theorem execC_skip:qaB E (f+1) .skip ks Q fr H=exec E f ks Q fr H:=by simp only[qaB]
@[go_sem] theorem execC_label {l:Nat}:qaB E (f+1) (.label l) ks Q fr H=exec E f ks Q fr H:=by simp only[qaB]
@[go_sem] theorem execC_seq {x y:Code}:qaB E (f+1) (.seq x y) ks Q fr H=qaB E f x (.code y::ks) Q fr H:=by simp only[qaB]
@[go_sem] theorem execC_block {id:Nat}{x:Code}:qaB E (f+1) (.block id x) ks Q fr H=qaB E f x (.blk id::ks) Q fr H:=by simp only[qaB]
@[go_sem] theorem execC_exit {id:Nat}:qaB E (f+1) (.exit id) ks Q fr H=qbS E f (exK id ks) id ks Q fr H:=by simp only[qaB]
@[go_sem] theorem execC_ret:qaB E (f+1) .ret ks Q fr H=Q .ret fr H:=by simp only[qaB]
@[go_sem] theorem execC_cond {c:Operand}{x y:Code}:qaB E (f+1) (.cond c x y) ks Q fr H=qhv E f (ev fr c) x y ks Q fr H:=by simp only[qaB]
@[go_sem] theorem qmw {id:Nat}{ops:Array Oper}:qaB E (f+1) (.region id ops false) ks Q fr H=ops' E f ops.toList ops.toList ks Q fr H:=by simp only[qaB]
@[go_sem] theorem execC_draw {id:Nat}{ops:Array Oper}:qaB E (f+1) (.region id ops true) ks Q fr H=(if(quiet E.T ops.toList&&qec E.pf ops.toList)=true then E.P.follows .mixedOrders=true∧Region.lexB .any ops=true∧opsQ E ops.toList H (fun fr'=>exec E f ks Q fr' H) ops.toList fr else iwp E.P E.n (.region id ops true) (qaQ E ks Q) fr H):=by simp only[qaB]
@[go_sem] theorem execC_loop {c:Code}:qaB E (f+1) (.loop c) ks Q fr H=iwp E.P E.n (.loop c) (qaQ E ks Q) fr H:=by simp only[qaB]
@[go_sem] theorem exK_nil {id:Nat}:exK id []=none:=rfl
@[go_sem] theorem exK_code {id:Nat}{c:Code}:exK id (.code c::ks)=exK id ks:=rfl
@[go_sem] theorem exK_blk {id id':Nat}:exK id (.blk id'::ks)=if id=id' then some ks else exK id ks:=rfl
@[go_sem] theorem execX_some {id:Nat}{ks':List Item}:qbS E (f+1) (some ks') id ks Q fr H=exec E f ks' Q fr H:=by simp only[qbS]
@[go_sem] theorem execX_none {id:Nat}:qbS E (f+1) none id ks Q fr H=Q (.exit id) fr H:=by simp only[qbS]
@[go_sem] theorem execB_d {d:D}{x y:Code}:qhv E (f+1) (.d d) x y ks Q fr H=(d.isBool∧(d.toBool=true→qaB E f x ks Q fr H)∧(d.toBool=false→qaB E f y ks Q fr H)):=by simp only[qhv]
@[go_sem] theorem ops_nil:ops' E (f+1) all [] ks Q fr H=exec E f ks Q fr H:=by simp only[ops']
@[go_sem] theorem opsK_eq {r:I}:opsK E (f+1) all rest ks Q fr dst r H=ops' E f all rest ks Q (fr.put dst r) H:=by simp only[opsK]
@[go_sem] theorem opsG_eq {r:I}:opsG E (f+1) all rest ks Q fr dst H r=ops' E f all rest ks Q (fr.put dst r) H:=by simp only[opsG]
@[go_sem] theorem qmx {N:Fr→List R→Prop}:qf0 N Q .normal fr H=N fr H:=rfl
@[go_sem] theorem thenQ_ret {N:Fr→List R→Prop}:qf0 N Q .ret fr H=Q .ret fr H:=rfl
@[go_sem] theorem thenQ_exit {N:Fr→List R→Prop}{id:Nat}:qf0 N Q (.exit id) fr H=Q (.exit id) fr H:=rfl
@[go_sem] theorem contQ_nil' {e:Exit}:qaQ E [] Q e fr H=Q e fr H:=rfl
@[go_sem] theorem qmy {c:Code}:qaQ E (.code c::ks) Q .ret fr H=qaQ E ks Q .ret fr H:=rfl
@[go_sem] theorem qlm {id:Nat}:qaQ E (.blk id::ks) Q .ret fr H=qaQ E ks Q .ret fr H:=rfl
def goP (E:Env) (f:Nat) (all rest:List Oper) (ks:List Item) (Q:Post) (fr:Fr) (dst:Option Tmp) (H:List R):Option (Prop×I)→Prop
 | some (vc,x)=>vc∧ops' E f all rest ks Q (fr.put dst x) H
 | none=>False
def goI (E:Env) (f:Nat) (all rest:List Oper) (ks:List Item) (Q:Post) (fr:Fr) (dst:Option Tmp):Option (Prop×I×List R)→Prop
 | some (vc,x,H)=>vc∧ops' E f all rest ks Q (fr.put dst x) H
 | none=>False
def goG (E:Env) (f:Nat) (all rest:List Oper) (ks:List Item) (Q:Post) (fr:Fr) (dst:Option Tmp) (H:List R):Option (Prop×Bool)→Option (Prop×I)→Prop
 | some (gc,e),some (vc,x)=>gc∧(e=true→vc)∧ops' E f all rest ks Q (fr.put dst (.cond e x)) H
 | _,_=>False
def goGC (E:Env) (f:Nat) (all rest:List Oper) (ks:List Item) (Q:Post) (fr:Fr) (dst:Option Tmp) (H:List R) (c:Prop) (fn:Option (Nat×List I)) (args:List I):Option (Prop×Bool)→Prop
 | some (gc,e)=>gc∧qhs E c e fn args H (opsG E f all rest ks Q fr dst)
 | none=>False
@[go_sem] theorem goP_some {vc:Prop}{x:I}:goP E f all rest ks Q fr dst H (some (vc,x))=(vc∧ops' E f all rest ks Q (fr.put dst x) H):=rfl
@[go_sem] theorem goI_some {vc:Prop}{x:I}:goI E f all rest ks Q fr dst (some (vc,x,H))=(vc∧ops' E f all rest ks Q (fr.put dst x) H):=rfl
@[go_sem] theorem goG_some {gc vc:Prop}{e:Bool}{x:I}:goG E f all rest ks Q fr dst H (some (gc,e)) (some (vc,x))=(gc∧(e=true→vc)∧ops' E f all rest ks Q (fr.put dst (.cond e x)) H):=rfl
@[go_sem] theorem goGC_some {c gc:Prop}{e:Bool}{fn:Option (Nat×List I)}{args:List I}:goGC E f all rest ks Q fr dst H c fn args (some (gc,e))=(gc∧qhs E c e fn args H (opsG E f all rest ks Q fr dst)):=rfl
theorem qcg {op:Op}{o:Option (Prop×I)}(h1:qar op=none) (h2:sopP E.T fr H op=o) (h3:sopI E.T fr H op=none) (h4:qgh fr H op=none:=by rfl) (h5:sopO E.deep E.T fr H op=none:=by rfl) :
  ops' E (f+1) all (⟨dst,op,ty,pos,af,none⟩::rest) ks Q fr H=goP E f all rest ks Q fr dst H o:=by
 simp only[ops',h1,h2,h3,h4,h5]
 cases o <;> rfl
theorem qch {op:Op}{o:Option (Prop×I)}{j:Nat}{want:Bool}(h1:qar op=none) (h2:sopP E.T fr H op=o) (h3:sopI E.T fr H op=none:=by rfl) :
  ops' E (f+1) all (⟨dst,op,ty,pos,af,some (j,want)⟩::rest) ks Q fr H=goG E f all rest ks Q fr dst H (guardOf all fr j want) o:=by
 simp only[ops',h1,h2,h3]
 cases guardOf all fr j want with
 | none=>rfl
 | some g=>cases o <;> rfl
def goGI (E:Env) (f:Nat) (all rest:List Oper) (ks:List Item) (Q:Post) (fr:Fr) (dst:Option Tmp) (H:List R):Option (Prop×Bool)→Option (Prop×I×List R)→Prop
 | some (gc,e),some (vc,x,H')=>gc∧(e=false→∃ y,ops' E f all rest ks Q (fr.put dst (.cond e y)) H)∧(e=true→vc∧ops' E f all rest ks Q (fr.put dst (.cond e x)) H')
 | _,_=>False
@[go_sem] theorem goGI_some {gc vc:Prop}{e:Bool}{x:I}{H':List R}:goGI E f all rest ks Q fr dst H (some (gc,e)) (some (vc,x,H')) =
 (gc∧(e=false→∃ y,ops' E f all rest ks Q (fr.put dst (.cond e y)) H)∧(e=true→vc∧ops' E f all rest ks Q (fr.put dst (.cond e x)) H')):=rfl
theorem qju {op:Op}{o:Option (Prop×I×List R)}{j:Nat}{want:Bool}(h1:qar op=none) (h2:sopP E.T fr H op=none) (h3:sopI E.T fr H op=o) :
  ops' E (f+1) all (⟨dst,op,ty,pos,af,some (j,want)⟩::rest) ks Q fr H=goGI E f all rest ks Q fr dst H (guardOf all fr j want) o:=by
 simp only[ops',h1,h2,h3]
 cases guardOf all fr j want with
 | none=>rfl
 | some g=>cases o <;> rfl
theorem qfz {op:Op}{o:Option (Prop×I×List R)}(h1:qar op=none) (h2:sopP E.T fr H op=none) (h3:sopI E.T fr H op=o) (h4:qgh fr H op=none:=by rfl) (h5:sopO E.deep E.T fr H op=none:=by rfl) :
  ops' E (f+1) all (⟨dst,op,ty,pos,af,none⟩::rest) ks Q fr H=goI E f all rest ks Q fr dst o:=by
 simp only[ops',h1,h2,h3,h4,h5]
 cases o <;> rfl
def goF2 (E:Env) (f:Nat) (all rest:List Oper) (ks:List Item) (Q:Post) (fr:Fr) (dst:Option Tmp) (fc:Prop):Option (Prop×I×List R)→Prop
 | some (vc,x,H)=>fc∧vc∧ops' E f all rest ks Q (fr.put dst x) H
 | none=>False
def goF1 (E:Env) (f:Nat) (all rest:List Oper) (ks:List Item) (Q:Post) (dst:Option Tmp) (k:Fr→List R→Option (Prop×I×List R)):Option (Prop×Fr×List R)→Prop
 | some (fc,fr,H)=>goF2 E f all rest ks Q fr dst fc (k fr H)
 | none=>False
def goF (E:Env) (f:Nat) (all rest:List Oper) (ks:List Item) (Q:Post) (fr:Fr) (dst:Option Tmp) (z:Option (Prop×Fr×List R)) (k:Fr→List R→Option (Prop×I×List R)) (o2:Option (Prop×I×List R)):Option (Prop×I×List R)→Prop
 | some (vc,x,H)=>vc∧ops' E f all rest ks Q (fr.put dst x) H
 | none=>
  match o2 with
  | some (vc,x,H)=>vc∧ops' E f all rest ks Q (fr.put dst x) H
  | none=>goF1 E f all rest ks Q dst k z
@[go_sem] theorem goF_some {vc:Prop}{x:I}{z:Option (Prop×Fr×List R)}{k:Fr→List R→Option (Prop×I×List R)}{o2:Option (Prop×I×List R)}:goF E f all rest ks Q fr dst z k o2 (some (vc,x,H))=(vc∧ops' E f all rest ks Q (fr.put dst x) H):=rfl
@[go_sem] theorem goF_none {z:Option (Prop×Fr×List R)}{k:Fr→List R→Option (Prop×I×List R)}:goF E f all rest ks Q fr dst z k none none=goF1 E f all rest ks Q dst k z:=rfl
@[go_sem] theorem qln {vc:Prop}{x:I}{z:Option (Prop×Fr×List R)}{k:Fr→List R→Option (Prop×I×List R)}:goF E f all rest ks Q fr dst z k (some (vc,x,H)) none=(vc∧ops' E f all rest ks Q (fr.put dst x) H):=rfl
def goL (E:Env) (f:Nat) (all rest:List Oper) (ks:List Item) (Q:Post) (fr:Fr) (dst:Option Tmp) (H:List R) (o2:Option (Prop×I×List R)):Option (Prop×I)→Prop
 | some (vc,x)=>vc∧ops' E f all rest ks Q (fr.put dst x) H
 | none=>goI E f all rest ks Q fr dst o2
@[go_sem] theorem goL_some {vc:Prop}{x:I}{o2:Option (Prop×I×List R)}:goL E f all rest ks Q fr dst H o2 (some (vc,x))=(vc∧ops' E f all rest ks Q (fr.put dst x) H):=rfl
@[go_sem] theorem goL_none {o2:Option (Prop×I×List R)}:goL E f all rest ks Q fr dst H o2 none=goI E f all rest ks Q fr dst o2:=rfl
def qjv (b:Bool) (o:Option (Prop×I×List R)):Option (Prop×I×List R):=
 match b with
 | true=>o
 | false=>none
@[go_sem] theorem litO1_t {o:Option (Prop×I×List R)}:qjv true o=o:=rfl
@[go_sem] theorem litO1_f {o:Option (Prop×I×List R)}:qjv false o=none:=rfl
def litO (deep:LitM) (T:Nat→Option TI) (fr:Fr) (H:List R) (t n:Nat):List (Nat×Operand)→Option (Prop×I×List R)
 | [(i,x)]=>qjv (qcW deep (evx fr x)) (qaP (evc fr x) (qht T H t n i (evx fr x)))
 | _=>none
@[go_sem] theorem litO_nil {deep:LitM}{T:Nat→Option TI}{t n:Nat}:litO deep T fr H t n []=none:=rfl
@[go_sem] theorem litO_one {deep:LitM}{T:Nat→Option TI}{t n i:Nat}{x:Operand}:litO deep T fr H t n [(i,x)]=qjv (qcW deep (evx fr x)) (qaP (evc fr x) (qht T H t n i (evx fr x))):=rfl
@[go_sem] theorem litO_two {deep:LitM}{T:Nat→Option TI}{t n:Nat}{a b:Nat×Operand}{r:List (Nat×Operand)}:litO deep T fr H t n (a::b::r)=none:=rfl
@[go_sem] theorem ownPart_agg {deep:LitM}{cs:List I}:qcW deep (.agg cs)=deep.agg:=rfl
@[go_sem] theorem qmz:LitM.agg .low=true:=rfl
@[go_sem] theorem qlo:LitM.agg .both=true:=rfl
@[go_sem] theorem qmA:LitM.agg .frz=false:=rfl
@[go_sem] theorem litM_sl_low:LitM.sl .low=false:=rfl
@[go_sem] theorem qmB:LitM.sl .both=true:=rfl
@[go_sem] theorem litM_sl_frz:LitM.sl .frz=false:=rfl
@[go_sem] theorem ownPart_sl {deep:LitM}{i g k lo n:Nat}:qcW deep (.sl i g k lo n)=deep.sl:=rfl
@[go_sem] theorem ownPart_d {deep:LitM}{x:D}:qcW deep (.d x)=false:=rfl
@[go_sem] theorem ownPart_ptr {deep:LitM}{i o:Nat}:qcW deep (.ptr i o)=false:=rfl
@[go_sem] theorem goF1_some {fc:Prop}{k:Fr→List R→Option (Prop×I×List R)}:goF1 E f all rest ks Q dst k (some (fc,fr,H))=goF2 E f all rest ks Q fr dst fc (k fr H):=rfl
@[go_sem] theorem goF2_some {fc vc:Prop}{x:I}:goF2 E f all rest ks Q fr dst fc (some (vc,x,H))=(fc∧vc∧ops' E f all rest ks Q (fr.put dst x) H):=rfl
def frzP (fr:Fr) (H:List R) (ps:List (Nat×Operand)):Option (Prop×Fr×List R):=
 match ps with
 | [(_,.tmp t)]=>
  match fr.get t with
  | .sl i g k lo n=>
   match H[i]? with
   | some (.row g' k' dp l)=>some (g=g'∧k=k'∧dp.shut=true,fr.put (some t) (.d (.lst k ((l.drop lo).take n))),H.set i (.dead g'))
   | _=>none
  | .agg cs=>
   match qb6 cs H with
   | some (fc,cs',H')=>some (fc,fr.put (some t) (.d (.agg cs')),H')
   | none=>none
  | _=>none
 | _=>none
section ops
variable {j:Nat}{want:Bool}
@[go_sem] theorem ops_move {x:Operand}:ops' E (f+1) all (⟨dst,.move x,ty,pos,af,none⟩::rest) ks Q fr H=goP E f all rest ks Q fr dst H (some (evc fr x,evx fr x)):=qcg rfl rfl rfl
@[go_sem] theorem ops_assign {x:Operand}:ops' E (f+1) all (⟨dst,.assign x,ty,pos,af,none⟩::rest) ks Q fr H=goP E f all rest ks Q fr dst H (some (evc fr x,evx fr x)):=qcg rfl rfl rfl
@[go_sem] theorem ops_pick {c x y:Operand}:ops' E (f+1) all (⟨dst,.pick c x y,ty,pos,af,none⟩::rest) ks Q fr H=goP E f all rest ks Q fr dst H (andC (evc fr c) (qhi (evx fr c) (evx fr x) (evx fr y) (evc fr x) (evc fr y))):=qcg rfl rfl rfl
@[go_sem] theorem ops_build {t:TypeId}{parts:Array (Nat×Operand)}:ops' E (f+1) all (⟨dst,.build t parts,ty,pos,af,none⟩::rest) ks Q fr H=goP E f all rest ks Q fr dst H (andC (qaL fr parts.toList) (qdO E.T t (qaG fr parts.toList))):=qcg rfl rfl rfl
@[go_sem] theorem ops_load {t:TypeId}{x:Operand}:ops' E (f+1) all (⟨dst,.load t x,ty,pos,af,none⟩::rest) ks Q fr H=goL E f all rest ks Q fr dst H (qaP (evc fr x) (qe7 E.T H t (evx fr x))) (andC (evc fr x) (qdl E.T H t (evx fr x))):=by
 have h2:sopP E.T fr H (.load t x)=andC (evc fr x) (qdl E.T H t (evx fr x)):=rfl
 have h3:sopI E.T fr H (.load t x)=none:=rfl
 have h4:qgh fr H (.load t x)=none:=rfl
 have h5:sopO E.deep E.T fr H (.load t x)=qaP (evc fr x) (qe7 E.T H t (evx fr x)):=rfl
 simp only[ops',qar,h2,h3,h4,h5]
 cases andC (evc fr x) (qdl E.T H t (evx fr x)) with
 | some q=>rfl
 | none=>
  simp only[goL]
  cases qaP (evc fr x) (qe7 E.T H t (evx fr x)) <;> rfl
@[go_sem] theorem qmC {x:Operand}:ops' E (f+1) all (⟨dst,.nilCheck x,ty,pos,af,none⟩::rest) ks Q fr H=goP E f all rest ks Q fr dst H (andC (evc fr x) (sNil H (evx fr x))):=qcg rfl rfl rfl
@[go_sem] theorem ops_binOp {op:BinOp}{t yt:TypeId}{x y:Operand}:ops' E (f+1) all (⟨dst,.binOp op t x y yt,ty,pos,af,none⟩::rest) ks Q fr H=goP E f all rest ks Q fr dst H (andC (evc fr x∧evc fr y) (sBin E.T H op t (evx fr x) (evx fr y))):=qcg rfl rfl rfl
@[go_sem] theorem ops_unOp {op:UnOp}{t:TypeId}{x:Operand}:ops' E (f+1) all (⟨dst,.unOp op t x,ty,pos,af,none⟩::rest) ks Q fr H=goP E f all rest ks Q fr dst H (andC (evc fr x) (sUn op (evx fr x))):=qcg rfl rfl rfl
@[go_sem] theorem ops_convert {s t:TypeId}{x:Operand}:ops' E (f+1) all (⟨dst,.convert s t x,ty,pos,af,none⟩::rest) ks Q fr H=goP E f all rest ks Q fr dst H (andC (evc fr x) (qf5 E.T s t (evx fr x))):=qcg rfl rfl rfl
@[go_sem] theorem qmD {g:Nat}{caps:List Operand}:ops' E (f+1) all (⟨dst,.makeFunc (.func g) #[] caps.toArray,ty,pos,af,none⟩::rest) ks Q fr H=goP E f all rest ks Q fr dst H (some (evcs fr caps,mkFn g (evs fr caps))):=qcg rfl (by simp[sopP]) rfl
@[go_sem] theorem ops_slice {t:TypeId}{x:Operand}{lo hi mx:Option Operand}:ops' E (f+1) all (⟨dst,.slice t x lo hi mx,ty,pos,af,none⟩::rest) ks Q fr H=goP E f all rest ks Q fr dst H (andC (evc fr x∧qd4 fr lo∧qd4 fr hi) (qdL E.T H t (evx fr x) (optE fr lo) (optE fr hi) (optE fr mx))):=qcg rfl rfl rfl
@[go_sem] theorem qlp {t:TypeId}{x:Operand}{i:Nat}:ops' E (f+1) all (⟨dst,.fieldAddr t x i,ty,pos,af,none⟩::rest) ks Q fr H=goP E f all rest ks Q fr dst H (andC (evc fr x) (qa8 E.T H t (evx fr x) i)):=qcg rfl rfl rfl
@[go_sem] theorem ops_field {t:TypeId}{x:Operand}{i:Nat}:ops' E (f+1) all (⟨dst,.field t x i,ty,pos,af,none⟩::rest) ks Q fr H=goP E f all rest ks Q fr dst H (andC (evc fr x) (qdJ E.T t (evx fr x) i)):=qcg rfl rfl rfl
@[go_sem] theorem qlq {t:TypeId}{x y:Operand}:ops' E (f+1) all (⟨dst,.indexAddr t x y,ty,pos,af,none⟩::rest) ks Q fr H=goP E f all rest ks Q fr dst H (andC (evc fr x∧evc fr y) (qa9 E.T H t (evx fr x) (evx fr y))):=qcg rfl rfl rfl
@[go_sem] theorem ops_index {t:TypeId}{x y:Operand}:ops' E (f+1) all (⟨dst,.index t x y,ty,pos,af,none⟩::rest) ks Q fr H=goP E f all rest ks Q fr dst H (andC (evc fr x∧evc fr y) (qdK E.T t (evx fr x) (evx fr y))):=qcg rfl rfl rfl
@[go_sem] theorem ops_extract {x:Operand}{i:Nat}:ops' E (f+1) all (⟨dst,.extract x i,ty,pos,af,none⟩::rest) ks Q fr H=goP E f all rest ks Q fr dst H (andC (evc fr x) (qbG (evx fr x) i)):=qcg rfl rfl rfl
@[go_sem] theorem ops_lookup {t:TypeId}{x y:Operand}{ok:Bool}:ops' E (f+1) all (⟨dst,.lookup t x y ok,ty,pos,af,none⟩::rest) ks Q fr H=goP E f all rest ks Q fr dst H (andC (evc fr x∧evc fr y) (qcO E.T H t (evx fr x) (evx fr y) ok)):=qcg rfl rfl rfl
@[go_sem] theorem ops_makeMap {t:TypeId}:ops' E (f+1) all (⟨dst,.makeMap t none,ty,pos,af,none⟩::rest) ks Q fr H=goI E f all rest ks Q fr dst (qcr E.T H t):=qfz rfl rfl rfl
@[go_sem] theorem ops_len {x:Operand}{t:TypeId}:ops' E (f+1) all (⟨dst,.call ⟨.builtin .len,#[x],#[t]⟩,ty,pos,af,none⟩::rest) ks Q fr H=goP E f all rest ks Q fr dst H (andC (evc fr x) (sLen E.T H t (evx fr x))):=qcg rfl rfl rfl
@[go_sem] theorem ops_cap {x:Operand}{t:TypeId}:ops' E (f+1) all (⟨dst,.call ⟨.builtin .cap,#[x],#[t]⟩,ty,pos,af,none⟩::rest) ks Q fr H=goP E f all rest ks Q fr dst H (andC (evc fr x) (sCap E.T t (evx fr x))):=qcg rfl rfl rfl
@[go_sem] theorem ops_min {x y:Operand}{ts:Array TypeId}:ops' E (f+1) all (⟨dst,.call ⟨.builtin .min,#[x,y],ts⟩,ty,pos,af,none⟩::rest) ks Q fr H=goP E f all rest ks Q fr dst H (andC (evc fr x∧evc fr y) (sMM .min (evx fr x) (evx fr y))):=qcg rfl rfl rfl
@[go_sem] theorem ops_max {x y:Operand}{ts:Array TypeId}:ops' E (f+1) all (⟨dst,.call ⟨.builtin .max,#[x,y],ts⟩,ty,pos,af,none⟩::rest) ks Q fr H=goP E f all rest ks Q fr dst H (andC (evc fr x∧evc fr y) (sMM .max (evx fr x) (evx fr y))):=qcg rfl rfl rfl
@[go_sem] theorem ops_box {t:TypeId}{x:Operand}:ops' E (f+1) all (⟨dst,.box t x,ty,pos,af,none⟩::rest) ks Q fr H=goI E f all rest ks Q fr dst (qaP (evc fr x) (sBox E.T H t (evx fr x))):=qfz rfl rfl rfl
@[go_sem] theorem ops_alloc {t:TypeId}:ops' E (f+1) all (⟨dst,.alloc t,ty,pos,af,none⟩::rest) ks Q fr H=goI E f all rest ks Q fr dst (qeR E.T H t):=qfz rfl rfl rfl
@[go_sem] theorem qkC {t:TypeId}{n:Nat}{parts:Array (Nat×Operand)}:ops' E (f+1) all (⟨dst,.buildSlice t n parts,ty,pos,af,none⟩::rest) ks Q fr H =
  goF E f all rest ks Q fr dst (frzP fr H parts.toList) (fun fr' H'=>qaP (qaL fr' parts.toList) (sLit E.T H' t n (qaG fr' parts.toList))) (litO E.deep E.T fr H t n parts.toList) (qaP (qaL fr parts.toList) (sLit E.T H t n (qaG fr parts.toList))):=by
 have h2:sopP E.T fr H (.buildSlice t n parts)=none:=rfl
 have h3 : ∀ fr H,sopI E.T fr H (.buildSlice t n parts)=qaP (qaL fr parts.toList) (sLit E.T H t n (qaG fr parts.toList)):=fun _ _=>rfl
 have h4:qgh fr H (.buildSlice t n parts)=frzP fr H parts.toList:=rfl
 have h5:sopO E.deep E.T fr H (.buildSlice t n parts)=litO E.deep E.T fr H t n parts.toList:=by
  simp only[sopO]
  generalize parts.toList=ps
  rcases ps with _|⟨⟨i,x⟩,_|⟨b,r⟩⟩
  ·rfl
  ·simp only[litO,qjv];cases qcW E.deep (evx fr x) <;> rfl
  ·rfl
 simp only[ops',qar,h2,h3,h4,h5]
 cases qaP (qaL fr parts.toList) (sLit E.T H t n (qaG fr parts.toList)) with
 | some q=>rfl
 | none=>
  simp only[goF]
  cases litO E.deep E.T fr H t n parts.toList with
  | some q=>rfl
  | none=>
   simp only
   cases frzP fr H parts.toList with
   | none=>rfl
   | some q=>
    obtain⟨fc,fr',H'⟩:=q
    simp only[goF1]
    cases qaP (qaL fr' parts.toList) (sLit E.T H' t n (qaG fr' parts.toList)) <;> rfl
@[go_sem] theorem qlr {t:TypeId}{x y:Operand}:ops' E (f+1) all (⟨dst,.makeSlice t x y,ty,pos,af,none⟩::rest) ks Q fr H=goI E f all rest ks Q fr dst (qaP (evc fr x∧evc fr y) (qgH E.T H t (evx fr x) (evx fr y))):=qfz rfl rfl rfl
def stI (c:Prop):Option (Prop×List R)→Option (Prop×I×List R)
 | some (vc,H')=>some (c∧vc,.junk,H')
 | none=>none
@[go_sem] theorem stI_some {c vc:Prop}:stI c (some (vc,H))=some (c∧vc,.junk,H):=rfl
@[go_sem] theorem ops_store {t:TypeId}{x y:Operand}:ops' E (f+1) all (⟨dst,.store t x y,ty,pos,af,none⟩::rest) ks Q fr H=goI E f all rest ks Q fr dst (stI (evc fr x∧evc fr y) (qeT E.T H t (evx fr x) (evx fr y))):=
 qfz rfl rfl (by simp only[sopI,stI];cases qeT E.T H t (evx fr x) (evx fr y) <;> rfl)
@[go_sem] theorem qls {t:TypeId}{m x y:Operand}:ops' E (f+1) all (⟨dst,.mapUpdate t m x y,ty,pos,af,none⟩::rest) ks Q fr H=goI E f all rest ks Q fr dst (stI (evc fr m∧evc fr x∧evc fr y) (qa3 E.T H t (evx fr m) (evx fr x) (evx fr y))):=by
 refine qfz rfl rfl ?_
 simp only[sopI]
 cases qa3 E.T H t (evx fr m) (evx fr x) (evx fr y) <;> rfl
@[go_sem] theorem ops_insert {t:TypeId}{m x y:Operand}:ops' E (f+1) all (⟨dst,.insert t m x y,ty,pos,af,none⟩::rest) ks Q fr H=goI E f all rest ks Q fr dst (stI (evc fr m∧evc fr x∧evc fr y) (qa3 E.T H t (evx fr m) (evx fr x) (evx fr y))):=by
 refine qfz rfl rfl ?_
 simp only[sopI]
 cases qa3 E.T H t (evx fr m) (evx fr x) (evx fr y) <;> rfl
@[go_sem] theorem ops_append {x y:Operand}{t t':TypeId}:ops' E (f+1) all (⟨dst,.call ⟨.builtin .append,#[x,y],#[t,t']⟩,ty,pos,af,none⟩::rest) ks Q fr H=goI E f all rest ks Q fr dst (qaP (evc fr x∧evc fr y) (sApp E.T H t t' (evx fr x) (evx fr y))):=qfz rfl rfl rfl
@[go_sem] theorem ops_copy {x y:Operand}{t t':TypeId}:ops' E (f+1) all (⟨dst,.call ⟨.builtin .copy,#[x,y],#[t,t']⟩,ty,pos,af,none⟩::rest) ks Q fr H=goI E f all rest ks Q fr dst (qaP (evc fr x∧evc fr y) (qir E.T H t t' (evx fr x) (evx fr y))):=qfz rfl rfl rfl
@[go_sem] theorem ops_clear {x:Operand}{t:TypeId}:ops' E (f+1) all (⟨dst,.call ⟨.builtin .clear,#[x],#[t]⟩,ty,pos,af,none⟩::rest) ks Q fr H=goI E f all rest ks Q fr dst (qaP (evc fr x) (qfG E.T H t (evx fr x))):=qfz rfl rfl rfl
@[go_sem] theorem ops_call {g:Operand}{args:List Operand}{ts:Array TypeId}:ops' E (f+1) all (⟨dst,.call ⟨.value g,args.toArray,ts⟩,ty,pos,af,none⟩::rest) ks Q fr H =
  qdS E (evc fr g∧evcs fr args) (fnOf (evx fr g)) (evs fr args) H (opsK E f all rest ks Q fr dst):=by simp only[ops',qar]
@[go_sem] theorem opsG_move {x:Operand}:ops' E (f+1) all (⟨dst,.move x,ty,pos,af,some (j,want)⟩::rest) ks Q fr H=goG E f all rest ks Q fr dst H (guardOf all fr j want) (some (evc fr x,evx fr x)):=qch rfl rfl
@[go_sem] theorem opsG_assign {x:Operand}:ops' E (f+1) all (⟨dst,.assign x,ty,pos,af,some (j,want)⟩::rest) ks Q fr H=goG E f all rest ks Q fr dst H (guardOf all fr j want) (some (evc fr x,evx fr x)):=qch rfl rfl
@[go_sem] theorem opsG_pick {c x y:Operand}:ops' E (f+1) all (⟨dst,.pick c x y,ty,pos,af,some (j,want)⟩::rest) ks Q fr H=goG E f all rest ks Q fr dst H (guardOf all fr j want) (andC (evc fr c) (qhi (evx fr c) (evx fr x) (evx fr y) (evc fr x) (evc fr y))):=qch rfl rfl
@[go_sem] theorem opsG_build {t:TypeId}{parts:Array (Nat×Operand)}:ops' E (f+1) all (⟨dst,.build t parts,ty,pos,af,some (j,want)⟩::rest) ks Q fr H=goG E f all rest ks Q fr dst H (guardOf all fr j want) (andC (qaL fr parts.toList) (qdO E.T t (qaG fr parts.toList))):=qch rfl rfl
@[go_sem] theorem opsG_load {t:TypeId}{x:Operand}:ops' E (f+1) all (⟨dst,.load t x,ty,pos,af,some (j,want)⟩::rest) ks Q fr H=goG E f all rest ks Q fr dst H (guardOf all fr j want) (andC (evc fr x) (qdl E.T H t (evx fr x))):=qch rfl rfl
@[go_sem] theorem qlt {x:Operand}:ops' E (f+1) all (⟨dst,.nilCheck x,ty,pos,af,some (j,want)⟩::rest) ks Q fr H=goG E f all rest ks Q fr dst H (guardOf all fr j want) (andC (evc fr x) (sNil H (evx fr x))):=qch rfl rfl
@[go_sem] theorem opsG_binOp {op:BinOp}{t yt:TypeId}{x y:Operand}:ops' E (f+1) all (⟨dst,.binOp op t x y yt,ty,pos,af,some (j,want)⟩::rest) ks Q fr H=goG E f all rest ks Q fr dst H (guardOf all fr j want) (andC (evc fr x∧evc fr y) (sBin E.T H op t (evx fr x) (evx fr y))):=qch rfl rfl
@[go_sem] theorem opsG_unOp {op:UnOp}{t:TypeId}{x:Operand}:ops' E (f+1) all (⟨dst,.unOp op t x,ty,pos,af,some (j,want)⟩::rest) ks Q fr H=goG E f all rest ks Q fr dst H (guardOf all fr j want) (andC (evc fr x) (sUn op (evx fr x))):=qch rfl rfl
@[go_sem] theorem qmE {s t:TypeId}{x:Operand}:ops' E (f+1) all (⟨dst,.convert s t x,ty,pos,af,some (j,want)⟩::rest) ks Q fr H=goG E f all rest ks Q fr dst H (guardOf all fr j want) (andC (evc fr x) (qf5 E.T s t (evx fr x))):=qch rfl rfl
@[go_sem] theorem opsG_slice {t:TypeId}{x:Operand}{lo hi mx:Option Operand}:ops' E (f+1) all (⟨dst,.slice t x lo hi mx,ty,pos,af,some (j,want)⟩::rest) ks Q fr H=goG E f all rest ks Q fr dst H (guardOf all fr j want) (andC (evc fr x∧qd4 fr lo∧qd4 fr hi) (qdL E.T H t (evx fr x) (optE fr lo) (optE fr hi) (optE fr mx))):=qch rfl rfl
@[go_sem] theorem qkD {t:TypeId}{x:Operand}{i:Nat}:ops' E (f+1) all (⟨dst,.fieldAddr t x i,ty,pos,af,some (j,want)⟩::rest) ks Q fr H=goG E f all rest ks Q fr dst H (guardOf all fr j want) (andC (evc fr x) (qa8 E.T H t (evx fr x) i)):=qch rfl rfl
@[go_sem] theorem opsG_field {t:TypeId}{x:Operand}{i:Nat}:ops' E (f+1) all (⟨dst,.field t x i,ty,pos,af,some (j,want)⟩::rest) ks Q fr H=goG E f all rest ks Q fr dst H (guardOf all fr j want) (andC (evc fr x) (qdJ E.T t (evx fr x) i)):=qch rfl rfl
@[go_sem] theorem qkE {t:TypeId}{x y:Operand}:ops' E (f+1) all (⟨dst,.indexAddr t x y,ty,pos,af,some (j,want)⟩::rest) ks Q fr H=goG E f all rest ks Q fr dst H (guardOf all fr j want) (andC (evc fr x∧evc fr y) (qa9 E.T H t (evx fr x) (evx fr y))):=qch rfl rfl
@[go_sem] theorem opsG_index {t:TypeId}{x y:Operand}:ops' E (f+1) all (⟨dst,.index t x y,ty,pos,af,some (j,want)⟩::rest) ks Q fr H=goG E f all rest ks Q fr dst H (guardOf all fr j want) (andC (evc fr x∧evc fr y) (qdK E.T t (evx fr x) (evx fr y))):=qch rfl rfl
@[go_sem] theorem qmF {x:Operand}{i:Nat}:ops' E (f+1) all (⟨dst,.extract x i,ty,pos,af,some (j,want)⟩::rest) ks Q fr H=goG E f all rest ks Q fr dst H (guardOf all fr j want) (andC (evc fr x) (qbG (evx fr x) i)):=qch rfl rfl
@[go_sem] theorem opsG_lookup {t:TypeId}{x y:Operand}{ok:Bool}:ops' E (f+1) all (⟨dst,.lookup t x y ok,ty,pos,af,some (j,want)⟩::rest) ks Q fr H=goG E f all rest ks Q fr dst H (guardOf all fr j want) (andC (evc fr x∧evc fr y) (qcO E.T H t (evx fr x) (evx fr y) ok)):=qch rfl rfl
@[go_sem] theorem opsG_len {x:Operand}{t:TypeId}:ops' E (f+1) all (⟨dst,.call ⟨.builtin .len,#[x],#[t]⟩,ty,pos,af,some (j,want)⟩::rest) ks Q fr H=goG E f all rest ks Q fr dst H (guardOf all fr j want) (andC (evc fr x) (sLen E.T H t (evx fr x))):=qch rfl rfl
@[go_sem] theorem opsG_cap {x:Operand}{t:TypeId}:ops' E (f+1) all (⟨dst,.call ⟨.builtin .cap,#[x],#[t]⟩,ty,pos,af,some (j,want)⟩::rest) ks Q fr H=goG E f all rest ks Q fr dst H (guardOf all fr j want) (andC (evc fr x) (sCap E.T t (evx fr x))):=qch rfl rfl
@[go_sem] theorem opsG_min {x y:Operand}{ts:Array TypeId}:ops' E (f+1) all (⟨dst,.call ⟨.builtin .min,#[x,y],ts⟩,ty,pos,af,some (j,want)⟩::rest) ks Q fr H=goG E f all rest ks Q fr dst H (guardOf all fr j want) (andC (evc fr x∧evc fr y) (sMM .min (evx fr x) (evx fr y))):=qch rfl rfl
@[go_sem] theorem opsG_max {x y:Operand}{ts:Array TypeId}:ops' E (f+1) all (⟨dst,.call ⟨.builtin .max,#[x,y],ts⟩,ty,pos,af,some (j,want)⟩::rest) ks Q fr H=goG E f all rest ks Q fr dst H (guardOf all fr j want) (andC (evc fr x∧evc fr y) (sMM .max (evx fr x) (evx fr y))):=qch rfl rfl
@[go_sem] theorem qjw {t:TypeId}{n:Nat}{parts:Array (Nat×Operand)}:ops' E (f+1) all (⟨dst,.buildSlice t n parts,ty,pos,af,some (j,want)⟩::rest) ks Q fr H=goGI E f all rest ks Q fr dst H (guardOf all fr j want) (qaP (qaL fr parts.toList) (sLit E.T H t n (qaG fr parts.toList))):=qju rfl rfl rfl
@[go_sem] theorem qkF {t:TypeId}{x y:Operand}:ops' E (f+1) all (⟨dst,.makeSlice t x y,ty,pos,af,some (j,want)⟩::rest) ks Q fr H=goGI E f all rest ks Q fr dst H (guardOf all fr j want) (qaP (evc fr x∧evc fr y) (qgH E.T H t (evx fr x) (evx fr y))):=qju rfl rfl rfl
@[go_sem] theorem opsG_append {x y:Operand}{t t':TypeId}:ops' E (f+1) all (⟨dst,.call ⟨.builtin .append,#[x,y],#[t,t']⟩,ty,pos,af,some (j,want)⟩::rest) ks Q fr H=goGI E f all rest ks Q fr dst H (guardOf all fr j want) (qaP (evc fr x∧evc fr y) (sApp E.T H t t' (evx fr x) (evx fr y))):=qju rfl rfl rfl
@[go_sem] theorem opsG_call {g:Operand}{args:List Operand}{ts:Array TypeId}:ops' E (f+1) all (⟨dst,.call ⟨.value g,args.toArray,ts⟩,ty,pos,af,some (j,want)⟩::rest) ks Q fr H =
  goGC E f all rest ks Q fr dst H (evc fr g∧evcs fr args) (fnOf (evx fr g)) (evs fr args) (guardOf all fr j want):=by
 simp only[ops',qar]
 cases guardOf all fr j want <;> rfl
end ops
@[go_sem] theorem qjx {α : Type}(l:List α):l.toArray.toList=l:=rfl
@[go_sem] theorem andC_some {c vc:Prop}{x:I}:andC c (some (vc,x))=some (c∧vc,x):=rfl
@[go_sem] theorem andC_none {c:Prop}:andC c none=none:=rfl
@[go_sem] theorem andCI_none {c:Prop}:qaP c none=none:=rfl
@[go_sem] theorem andCI_some {c vc:Prop}{x:I}:qaP c (some (vc,x,H))=some (c∧vc,x,H):=rfl
def qcD:I→I
 | .cond _ x=>x
 | x=>x
def qey:I→Prop
 | .cond e _=>e=true
 | _=>True
@[go_sem] theorem evx_eq {o:Operand}:evx fr o=qcD (ev fr o):=rfl
@[go_sem] theorem evc_eq {o:Operand}:evc fr o=qey (ev fr o):=rfl
@[go_sem] theorem ev_tmp {t:Nat}:ev fr (.tmp t)=fr.get t:=rfl
@[go_sem] theorem ev_func {g:Nat}:ev fr (.func g)=.d (.fn g []):=rfl
@[go_sem] theorem ev_int {n:Int}:ev fr (.const (.int .i64 n))=if -9223372036854775808≤n∧n≤9223372036854775807 then .d (.int .i64 n) else .junk:=rfl
@[go_sem] theorem ev_u8 {n:Int}:ev fr (.const (.int .u8 n))=if 0≤n∧n≤255 then .d (.int .u8 n) else .junk:=rfl
@[go_sem] theorem ev_u64 {n:Int}:ev fr (.const (.int .u64 n))=if 0≤n∧n≤18446744073709551615 then .d (.int .u64 n) else .junk:=rfl
@[go_sem] theorem ev_str {s:ByteArray}:ev fr (.const (.string s))=.d (.raw (.string s)):=rfl
@[go_sem] theorem ev_bool {b:Bool}:ev fr (.const (.bool b))=.d (.bool b):=rfl
@[go_sem] theorem ev_nil:ev fr (.const (.slice none 0 0))=.d .nil:=rfl
@[go_sem] theorem ev_nilp:ev fr (.const (.pointer none))=.d (.raw (.pointer none)):=rfl
@[go_sem] theorem ev_nilm:ev fr (.const (.map none))=.d (.raw (.map none)):=rfl
@[go_sem] theorem ev_nilf:ev fr (.const .nilFunc)=.d (.raw .nilFunc):=rfl
@[go_sem] theorem stripI_d {x:D}:qcD (.d x)=.d x:=rfl
@[go_sem] theorem stripI_agg {cs:List I}:qcD (.agg cs)=.agg cs:=rfl
@[go_sem] theorem stripI_sl {i g k lo n:Nat}:qcD (.sl i g k lo n)=.sl i g k lo n:=rfl
@[go_sem] theorem stripI_ptr {i o:Nat}:qcD (.ptr i o)=.ptr i o:=rfl
@[go_sem] theorem stripI_eptr {i g k x o:Nat}{z:D}:qcD (.eptr i g k x o z)=.eptr i g k x o z:=rfl
@[go_sem] theorem stripI_map {i:Nat}:qcD (.map i)=.map i:=rfl
@[go_sem] theorem stripI_fn {g:Nat}{cs:List I}:qcD (.fn g cs)=.fn g cs:=rfl
@[go_sem] theorem stripI_tup {cs:List I}:qcD (.tup cs)=.tup cs:=rfl
@[go_sem] theorem stripI_own {i:Nat}:qcD (.own i)=.own i:=rfl
@[go_sem] theorem stripI_cond {e:Bool}{x:I}:qcD (.cond e x)=x:=rfl
@[go_sem] theorem stripI_junk:qcD .junk=.junk:=rfl
@[go_sem] theorem condI_d {x:D}:qey (.d x)=True:=rfl
@[go_sem] theorem condI_agg {cs:List I}:qey (.agg cs)=True:=rfl
@[go_sem] theorem condI_sl {i g k lo n:Nat}:qey (.sl i g k lo n)=True:=rfl
@[go_sem] theorem condI_ptr {i o:Nat}:qey (.ptr i o)=True:=rfl
@[go_sem] theorem condI_eptr {i g k x o:Nat}{z:D}:qey (.eptr i g k x o z)=True:=rfl
@[go_sem] theorem condI_map {i:Nat}:qey (.map i)=True:=rfl
@[go_sem] theorem condI_fn {g:Nat}{cs:List I}:qey (.fn g cs)=True:=rfl
@[go_sem] theorem condI_tup {cs:List I}:qey (.tup cs)=True:=rfl
@[go_sem] theorem condI_own {i:Nat}:qey (.own i)=True:=rfl
@[go_sem] theorem condI_cond {e:Bool}{x:I}:qey (.cond e x)=(e=true):=rfl
@[go_sem] theorem condI_junk:qey .junk=True:=rfl
@[go_sem] theorem get_mk {n t:Nat}{m:List (Nat×I)}:Fr.get ⟨n,m⟩ t=look t m:=rfl
@[go_sem] theorem look_cons' {s t:Nat}{x:I}{m:List (Nat×I)}:look t ((s,x)::m)=if s=t then x else look t m:=rfl
@[go_sem] theorem look_nil' {t:Nat}:look t []=.junk:=rfl
@[go_sem] theorem put_some {n t:Nat}{m:List (Nat×I)}{x:I}:Fr.put ⟨n,m⟩ (some t) x=if t<n then⟨n,(t,x)::m⟩ else⟨n,m⟩:=rfl
@[go_sem] theorem put_none {x:I}:Fr.put fr none x=fr:=rfl
@[go_sem] theorem evs_nil:evs fr []=[]:=rfl
@[go_sem] theorem evs_cons {o:Operand}{r:List Operand}:evs fr (o::r)=evx fr o::evs fr r:=rfl
@[go_sem] theorem evcs_nil:evcs fr []=True:=rfl
@[go_sem] theorem evcs_cons {o:Operand}{r:List Operand}:evcs fr (o::r)=(evc fr o∧evcs fr r):=rfl
@[go_sem] theorem optE_none:optE fr none=none:=rfl
@[go_sem] theorem optE_some {o:Operand}:optE fr (some o)=some (evx fr o):=rfl
@[go_sem] theorem optEc_none:qd4 fr none=True:=rfl
@[go_sem] theorem optEc_some {o:Operand}:qd4 fr (some o)=evc fr o:=rfl
@[go_sem] theorem evParts_nil:qaG fr []=[]:=rfl
@[go_sem] theorem qmG {i:Nat}{o:Operand}{r:List (Nat×Operand)}:qaG fr ((i,o)::r)=(i,evx fr o)::qaG fr r:=rfl
@[go_sem] theorem qmH:qaL fr []=True:=rfl
@[go_sem] theorem qlu {i:Nat}{o:Operand}{r:List (Nat×Operand)}:qaL fr ((i,o)::r)=(evc fr o∧qaL fr r):=rfl
@[go_sem] theorem initM_nil {t:Nat}:qcv t []=[]:=rfl
@[go_sem] theorem initM_cons {t:Nat}{x:I}{r:List I}:qcv t (x::r)=(t,x)::qcv (t+1) r:=rfl
attribute [go_sem] List.map_cons List.map_nil Nat.zero_add
def qdj:List Oper→Nat→Option Tmp
 | [],_=>none
 | o::_,0=>o.dst
 | _::r,n+1=>qdj r n
def qjy (fr:Fr) (want:Bool):Option Tmp→Option (Prop×Bool)
 | some t=>if t<fr.n then(match fr.get t with|.d x=>some (x.isBool,if want then x.toBool else !x.toBool)|.cond e (.d x)=>some ((e=true→x.isBool),e&&(if want then x.toBool else !x.toBool))|_=>none) else none
 | none=>none
def qgW (want:Bool):I→Option (Prop×Bool)
 | .d x=>some (x.isBool,if want then x.toBool else !x.toBool)
 | .cond e (.d x)=>some ((e=true→x.isBool),e&&(if want then x.toBool else !x.toBool))
 | _=>none
theorem qgX : ∀ (l:List Oper) (j:Nat),(l[j]?).bind (·.dst)=qdj l j
 | [],j=>by simp[qdj]
 | o::r,0=>by simp[qdj]
 | o::r,j+1=>by simpa [qdj] using qgX r j
@[go_sem] theorem guardOf_eq {j:Nat}{want:Bool}:guardOf all fr j want=qjy fr want (qdj all j):=by
 simp only[guardOf,qgX]
 cases qdj all j <;> rfl
@[go_sem] theorem nthDst_zero {o:Oper}{r:List Oper}:qdj (o::r) 0=o.dst:=rfl
@[go_sem] theorem nthDst_succ {o:Oper}{r:List Oper}{n:Nat}:qdj (o::r) (n+1)=qdj r n:=rfl
@[go_sem] theorem guardT_some {n t:Nat}{m:List (Nat×I)}{want:Bool}:qjy ⟨n,m⟩ want (some t)=if t<n then qgW want (look t m) else none:=by
 simp only[qjy,Fr.get]
 split
 ·cases look t m <;> first|rfl|(rename_i x;cases x <;> rfl)
 ·rfl
@[go_sem] theorem guardI_true {x:D}:qgW true (.d x)=some (x.isBool,x.toBool):=rfl
@[go_sem] theorem qmI {x:D}:qgW false (.d x)=some (x.isBool,!x.toBool):=rfl
@[go_sem] theorem qmJ {x:D}{e:Bool}:qgW true (.cond e (.d x))=some ((e=true→x.isBool),e&&x.toBool):=rfl
@[go_sem] theorem qlv {x:D}{e:Bool}:qgW false (.cond e (.d x))=some ((e=true→x.isBool),e && !x.toBool):=rfl
@[go_sem] theorem toInt_int {k:IntKind}{n:Int}:(D.int k n).toInt=n:=rfl
@[go_sem] theorem toBool_bool {b:Bool}:(D.bool b).toBool=b:=rfl
@[go_sem] theorem isInt_int {k k':IntKind}{n:Int}:(D.int k n).isInt k'=(k=k'):=rfl
@[go_sem] theorem isBool_bool {b:Bool}:(D.bool b).isBool=True:=rfl
@[go_sem] theorem elems_lst {k:Nat}{l:List D}:(D.lst k l).elems=l:=rfl
@[go_sem] theorem elems_nil:D.nil.elems=[]:=rfl
@[go_sem] theorem isLst_lst {k k':Nat}{l:List D}:(D.lst k l).isLst k'=(k=k'):=rfl
@[go_sem] theorem isLst_nil {k':Nat}:D.nil.isLst k'=True:=rfl
@[go_sem] theorem isSl_lst {k:Nat}{l:List D}:(D.lst k l).isSl=True:=rfl
@[go_sem] theorem isSl_nil:D.nil.isSl=True:=rfl
@[go_sem] theorem isNil_lst {k:Nat}{l:List D}:(D.lst k l).isNil=false:=rfl
@[go_sem] theorem isNil_nil:D.nil.isNil=true:=rfl
@[go_sem] theorem ptrs_ptr {cs:List D}:(D.ptr cs).ptrs=cs:=rfl
@[go_sem] theorem isPtr_ptr {cs:List D}:(D.ptr cs).isPtr=True:=rfl
@[go_sem] theorem cellAt_agg {cs:List D}{j:Nat}:(D.agg cs).cellAt j=cs.getD j .nil:=rfl
@[go_sem] theorem cellAt_int {k:IntKind}{n:Int}:(D.int k n).cellAt 0=D.int k n:=rfl
@[go_sem] theorem cellAt_bool {b:Bool}:(D.bool b).cellAt 0=D.bool b:=rfl
@[go_sem] theorem cellAt_lst {k:Nat}{l:List D}:(D.lst k l).cellAt 0=D.lst k l:=rfl
@[go_sem] theorem cellAt_nil:D.nil.cellAt 0=D.nil:=rfl
@[go_sem] theorem cellAt_raw {v:Value}:(D.raw v).cellAt 0=D.raw v:=rfl
@[go_sem] theorem cellAt_ptr {cs:List D}:(D.ptr cs).cellAt 0=D.ptr cs:=rfl
@[go_sem] theorem cellAt_fn {g:Nat}{cs:List D}:(D.fn g cs).cellAt 0=D.fn g cs:=rfl
@[go_sem] theorem getD_zero {α : Type}{x d : α}{l:List α}:(x::l).getD 0 d=x:=rfl
@[go_sem] theorem getD_succ {α : Type}{x d : α}{l:List α}{n:Nat}:(x::l).getD (n+1) d=l.getD n d:=rfl
@[go_sem] theorem cells_agg {cs:List D}:(D.agg cs).cells=cs:=rfl
@[go_sem] theorem cells_int {k:IntKind}{n:Int}:(D.int k n).cells=[D.int k n]:=rfl
@[go_sem] theorem cells_bool {b:Bool}:(D.bool b).cells=[D.bool b]:=rfl
@[go_sem] theorem cells_lst {k:Nat}{l:List D}:(D.lst k l).cells=[D.lst k l]:=rfl
@[go_sem] theorem cells_nil:D.nil.cells=[D.nil]:=rfl
@[go_sem] theorem one_int {k:IntKind}{n:Int}:(D.int k n).one=true:=rfl
@[go_sem] theorem one_bool {b:Bool}:(D.bool b).one=true:=rfl
@[go_sem] theorem one_lst {k:Nat}{l:List D}:(D.lst k l).one=true:=rfl
@[go_sem] theorem one_nil:D.nil.one=true:=rfl
@[go_sem] theorem one_agg {cs:List D}:(D.agg cs).one=false:=rfl
@[go_sem] theorem one_raw {v:Value}:(D.raw v).one=true:=rfl
@[go_sem] theorem one_ptr {cs:List D}:(D.ptr cs).one=true:=rfl
@[go_sem] theorem one_fn {g:Nat}{cs:List D}:(D.fn g cs).one=true:=rfl
@[go_sem] theorem scalar_int {k:IntKind}{n:Int}:(D.int k n).scalar=true:=rfl
@[go_sem] theorem scalar_bool {b:Bool}:(D.bool b).scalar=true:=rfl
@[go_sem] theorem scalar_raw {v:Value}:(D.raw v).scalar=true:=rfl
@[go_sem] theorem scalar_lst {k:Nat}{l:List D}:(D.lst k l).scalar=false:=rfl
@[go_sem] theorem scalar_nil:D.nil.scalar=true:=rfl
@[go_sem] theorem imp_true_eq {p:Prop}:(true=true→p)=p:=by simp
@[go_sem] theorem qmK {p:Prop}:(false=true→p)=True:=by simp
@[go_sem] theorem qmL {n:Nat}:scalars (List.replicate n D.nil)=true:=by induction n with|zero=>rfl|succ n ih=>simp[List.replicate_succ,scalars,D.cells,D.scalar,ih]
@[go_sem] theorem notTup_agg {cs:List D}:(D.agg cs).notTup=True:=rfl
@[go_sem] theorem notTup_int {k:IntKind}{n:Int}:(D.int k n).notTup=True:=rfl
@[go_sem] theorem notTup_bool {b:Bool}:(D.bool b).notTup=True:=rfl
@[go_sem] theorem notTup_lst {k:Nat}{l:List D}:(D.lst k l).notTup=True:=rfl
@[go_sem] theorem notTup_nil:D.nil.notTup=True:=rfl
@[go_sem] theorem isTup_tup {xs:List D}{n:Nat}:(D.tup xs).isTup n=(xs.length=n):=rfl
@[go_sem] theorem tupLen_tup {xs:List D}:(D.tup xs).tupLen=xs.length:=rfl
@[go_sem] theorem tupAt_tup {xs:List D}{n:Nat}:(D.tup xs).tupAt n=xs.getD n .nil:=rfl
@[go_sem] theorem qkG {x:D}{j:Nat}:qab x j 0=[]:=rfl
@[go_sem] theorem qkH {x:D}{j n:Nat}:qab x j (n+1)=x.cellAt j::qab x (j+1) n:=rfl
@[go_sem] theorem agg_ne_tup {cs xs:List D}:(D.agg cs=D.tup xs)=False:=by simp
@[go_sem] theorem tnorm_int {k:IntKind}{x:D}:tnorm (.int k) x=.int k x.toInt:=rfl
@[go_sem] theorem tnorm_bool {x:D}:tnorm .bool x=.bool x.toBool:=rfl
@[go_sem] theorem tnorm_slice {e:Nat}{x:D}:tnorm (.slice e) x=x:=rfl
@[go_sem] theorem tnorm_ptr {e:Nat}{x:D}:tnorm (.ptr e) x=x:=rfl
@[go_sem] theorem tnorm_func {x:D}:tnorm .func x=x:=rfl
@[go_sem] theorem tnorm_map {k e:Nat}{x:D}:tnorm (.map k e) x=x:=rfl
@[go_sem] theorem tchk_int {k:IntKind}{x:D}:tchk (.int k) x=x.isInt k:=rfl
@[go_sem] theorem tchk_bool {x:D}:tchk .bool x=x.isBool:=rfl
@[go_sem] theorem tchk_slice {e:Nat}{x:D}:tchk (.slice e) x=(x.one=true):=rfl
@[go_sem] theorem tchk_ptr {e:Nat}{x:D}:tchk (.ptr e) x=(x.one=true):=rfl
@[go_sem] theorem tchk_func {x:D}:tchk .func x=(x.one=true):=rfl
@[go_sem] theorem tchk_map {k e:Nat}{x:D}:tchk (.map k e) x=(x.one=true):=rfl
@[go_sem] theorem tnormI_d {t:Ty}{x:D}:tnormI t (.d x)=.d (tnorm t x):=rfl
@[go_sem] theorem tnormI_sl {t:Ty}{i g k lo n:Nat}:tnormI t (.sl i g k lo n)=.sl i g k lo n:=rfl
@[go_sem] theorem tnormI_ptr {t:Ty}{i o:Nat}:tnormI t (.ptr i o)=.ptr i o:=rfl
@[go_sem] theorem tnormI_map {t:Ty}{i:Nat}:tnormI t (.map i)=.map i:=rfl
@[go_sem] theorem tnormI_fn {t:Ty}{g:Nat}{cs:List I}:tnormI t (.fn g cs)=.fn g cs:=rfl
@[go_sem] theorem tchkI_d {t:Ty}{x:D}:qde t (.d x)=tchk t x:=rfl
@[go_sem] theorem tchkI_sl {t:Ty}{i g k lo n:Nat}:qde t (.sl i g k lo n)=True:=rfl
@[go_sem] theorem tchkI_ptr {t:Ty}{i o:Nat}:qde t (.ptr i o)=True:=rfl
@[go_sem] theorem tchkI_map {t:Ty}{i:Nat}:qde t (.map i)=True:=rfl
@[go_sem] theorem tchkI_fn {t:Ty}{g:Nat}{cs:List I}:qde t (.fn g cs)=True:=rfl
@[go_sem] theorem agg_int {k:IntKind}:(Ty.int k).agg=false:=rfl
@[go_sem] theorem agg_bool:Ty.bool.agg=false:=rfl
@[go_sem] theorem agg_slice {e:Nat}:(Ty.slice e).agg=false:=rfl
@[go_sem] theorem agg_ptr {e:Nat}:(Ty.ptr e).agg=false:=rfl
@[go_sem] theorem agg_func:Ty.func.agg=false:=rfl
@[go_sem] theorem agg_map {k e:Nat}:(Ty.map k e).agg=false:=rfl
@[go_sem] theorem agg_struct {fs:List (Nat×Nat)}:(Ty.struct fs).agg=true:=rfl
@[go_sem] theorem agg_array {n e:Nat}:(Ty.array n e).agg=true:=rfl
@[go_sem] theorem allD_nil:allD []=some []:=rfl
def consD (x:D):Option (List D)→Option (List D)
 | some l=>some (x::l)
 | none=>none
@[go_sem] theorem allD_d {x:D}{r:List I}:allD (.d x::r)=consD x (allD r):=by
 simp only[allD];cases allD r <;> rfl
@[go_sem] theorem consD_some {x:D}{l:List D}:consD x (some l)=some (x::l):=rfl
@[go_sem] theorem consD_none {x:D}:consD x none=none:=rfl
@[go_sem] theorem allD_sl {i g k lo n:Nat}{r:List I}:allD (.sl i g k lo n::r)=none:=rfl
@[go_sem] theorem allD_ptr {i o:Nat}{r:List I}:allD (.ptr i o::r)=none:=rfl
@[go_sem] theorem allD_map {i:Nat}{r:List I}:allD (.map i::r)=none:=rfl
@[go_sem] theorem allD_fn {g:Nat}{cs r:List I}:allD (.fn g cs::r)=none:=rfl
def qjz (cs:List I):Option (List D)→I
 | some ds=>.d (.agg ds)
 | none=>.agg cs
@[go_sem] theorem mkAgg_eq {cs:List I}:mkAgg cs=qjz cs (allD cs):=by
 simp only[mkAgg];cases allD cs <;> rfl
@[go_sem] theorem mkAggO_some {cs:List I}{ds:List D}:qjz cs (some ds)=.d (.agg ds):=rfl
@[go_sem] theorem mkAggO_none {cs:List I}:qjz cs none=.agg cs:=rfl
def mkFnO (g:Nat) (cs:List I):Option (List D)→I
 | some ds=>.d (.fn g ds)
 | none=>.fn g cs
@[go_sem] theorem mkFn_eq {g:Nat}{cs:List I}:mkFn g cs=mkFnO g cs (allD cs):=by
 simp only[mkFn];cases allD cs <;> rfl
@[go_sem] theorem mkFnO_some {g:Nat}{cs:List I}{ds:List D}:mkFnO g cs (some ds)=.d (.fn g ds):=rfl
@[go_sem] theorem mkFnO_none {g:Nat}{cs:List I}:mkFnO g cs none=.fn g cs:=rfl
@[go_sem] theorem allOne_nil:qa1 []=True:=rfl
@[go_sem] theorem allOne_cons {x:I}{r:List I}:qa1 (x::r)=(oneI x∧qa1 r):=rfl
@[go_sem] theorem oneI_d {x:D}:oneI (.d x)=(x.one=true):=rfl
@[go_sem] theorem oneI_sl {i g k lo n:Nat}:oneI (.sl i g k lo n)=True:=rfl
@[go_sem] theorem oneI_ptr {i o:Nat}:oneI (.ptr i o)=True:=rfl
@[go_sem] theorem oneI_map {i:Nat}:oneI (.map i)=True:=rfl
@[go_sem] theorem oneI_fn {g:Nat}{cs:List I}:oneI (.fn g cs)=True:=rfl
def qaj:List R→Nat→Option R
 | [],_=>none
 | r::_,0=>some r
 | _::l,n+1=>qaj l n
theorem qam : ∀ (H:List R) (i:Nat),H[i]?=qaj H i
 | [],i=>by simp[qaj]
 | r::l,0=>by simp[qaj]
 | r::l,i+1=>by simpa [qaj] using qam l i
def frzR (fr:Fr) (H:List R) (t i g k lo n:Nat):Option R→Option (Prop×Fr×List R)
 | some (.row g' k' dp l)=>some (g=g'∧k=k'∧dp.shut=true,fr.put (some t) (.d (.lst k ((l.drop lo).take n))),H.set i (.dead g'))
 | _=>none
def frzA (fr:Fr) (t:Nat):Option (Prop×List D×List R)→Option (Prop×Fr×List R)
 | some (fc,cs',H')=>some (fc,fr.put (some t) (.d (.agg cs')),H')
 | none=>none
def frzJd (x:D):Option (Prop×List D×List R)→Option (Prop×List D×List R)
 | some (c,xs,H')=>some (c,x::xs,H')
 | none=>none
def frzJs (c0:Prop) (x:D):Option (Prop×List D×List R)→Option (Prop×List D×List R)
 | some (c,xs,H')=>some (c0∧c,x::xs,H')
 | none=>none
def frzJ (H:List R) (i g k lo n:Nat) (r:List I):Option R→Option (Prop×List D×List R)
 | some (.row g' k' dp l)=>frzJs (g=g'∧k=k'∧dp.shut=true) (.lst k ((l.drop lo).take n)) (qb6 r (H.set i (.dead g')))
 | _=>none
@[go_sem] theorem frzIs_nil:qb6 [] H=some (True,[],H):=rfl
@[go_sem] theorem frzIs_d {x:D}{r:List I}:qb6 (.d x::r) H=frzJd x (qb6 r H):=by
 simp only[qb6]
 cases qb6 r H <;> rfl
@[go_sem] theorem frzIs_sl {i g k lo n:Nat}{r:List I}:qb6 (.sl i g k lo n::r) H=frzJ H i g k lo n r (qaj H i):=by
 simp only[qb6]
 rw[←qam]
 cases H[i]? with
 | none=>rfl
 | some y=>
  cases y <;> rfl
@[go_sem] theorem frzJd_s {x:D}{c:Prop}{xs:List D}:frzJd x (some (c,xs,H))=some (c,x::xs,H):=rfl
@[go_sem] theorem frzJs_s {c0:Prop}{x:D}{c:Prop}{xs:List D}:frzJs c0 x (some (c,xs,H))=some (c0∧c,x::xs,H):=rfl
@[go_sem] theorem frzJ_row {i g k lo n g' k':Nat}{r:List I}{dp:DP}{l:List D}:frzJ H i g k lo n r (some (.row g' k' dp l))=frzJs (g=g'∧k=k'∧dp.shut=true) (.lst k ((l.drop lo).take n)) (qb6 r (H.set i (.dead g'))):=rfl
def frzS (fr:Fr) (H:List R) (t:Nat):I→Option (Prop×Fr×List R)
 | .sl i g k lo n=>frzR fr H t i g k lo n (qaj H i)
 | .agg cs=>frzA fr t (qb6 cs H)
 | _=>none
@[go_sem] theorem frzA_s {t:Nat}{c:Prop}{cs:List D}:frzA fr t (some (c,cs,H))=some (c,fr.put (some t) (.d (.agg cs)),H):=rfl
@[go_sem] theorem frzS_agg {t:Nat}{cs:List I}:frzS fr H t (.agg cs)=frzA fr t (qb6 cs H):=rfl
@[go_sem] theorem frzP_one {j t:Nat}:frzP fr H [(j,.tmp t)]=frzS fr H t (fr.get t):=by
 simp only[frzP]
 cases fr.get t <;> simp only[frzS]
 ·rename_i cs
  cases qb6 cs H <;> rfl
 ·rename_i i g k lo n
  rw[←qam]
  cases H[i]? with
  | none=>rfl
  | some r=>cases r <;> rfl
@[go_sem] theorem frzS_sl {t i g k lo n:Nat}:frzS fr H t (.sl i g k lo n)=frzR fr H t i g k lo n (qaj H i):=rfl
@[go_sem] theorem frzR_row {t i g k lo n g' k':Nat}{dp:DP}{l:List D}:frzR fr H t i g k lo n (some (.row g' k' dp l))=some (g=g'∧k=k'∧dp.shut=true,fr.put (some t) (.d (.lst k ((l.drop lo).take n))),H.set i (.dead g')):=rfl
@[go_sem] theorem ofB_true:DP.ofB true=.own []:=rfl
@[go_sem] theorem ofB_false:DP.ofB false=.fz:=rfl
@[go_sem] theorem ofB_shut {b:Bool}:(DP.ofB b).shut=true:=by cases b <;> rfl
@[go_sem] theorem ofB_o {b:Bool}:(DP.ofB b).o=b:=by cases b <;> rfl
@[go_sem] theorem shut_nil:(DP.own []).shut=true:=rfl
@[go_sem] theorem shut_cons {h:Hole}{hs:List Hole}:(DP.own (h::hs)).shut=false:=rfl
@[go_sem] theorem shut_fz:DP.fz.shut=true:=rfl
@[go_sem] theorem o_own {hs:List Hole}:(DP.own hs).o=true:=rfl
@[go_sem] theorem o_fz:DP.fz.o=false:=rfl
@[go_sem] theorem rootAt_zero {r:R}{l:List R}:qaj (r::l) 0=some r:=rfl
@[go_sem] theorem rootAt_succ {r:R}{l:List R}{n:Nat}:qaj (r::l) (n+1)=qaj l n:=rfl
attribute [go_sem] List.length_cons List.length_nil List.cons_append List.nil_append List.set_cons_zero List.set_cons_succ List.drop_succ_cons List.drop_zero List.take_succ_cons List.take_zero List.drop_nil List.take_nil
section draw
variable {K:Fr→Prop}{j:Nat}{want:Bool}
def qsP (E:Env) (all rest:List Oper) (H:List R) (K:Fr→Prop) (fr:Fr) (dst:Option Tmp):Option (Prop×I)→Prop
 | some (vc,x)=>vc∧opsQ E all H K rest (fr.put dst x)
 | none=>False
def qsG (E:Env) (all rest:List Oper) (H:List R) (K:Fr→Prop) (fr:Fr) (dst:Option Tmp):Option (Prop×Bool)→Option (Prop×I)→Prop
 | some (gc,e),some (vc,x)=>gc∧(e=true→vc)∧opsQ E all H K rest (fr.put dst (.cond e x))
 | _,_=>False
def qsGC (E:Env) (all rest:List Oper) (H:List R) (K:Fr→Prop) (fr:Fr) (dst:Option Tmp) (c:Prop) (fn:Option (Nat×List I)) (args:List I):Option (Prop×Bool)→Prop
 | some (gc,e)=>gc∧qex E c e fn args H (fun x=>opsQ E all H K rest (fr.put dst (.cond e (.d x))))
 | none=>False
@[go_sem] theorem qsP_some {vc:Prop}{x:I}:qsP E all rest H K fr dst (some (vc,x))=(vc∧opsQ E all H K rest (fr.put dst x)):=rfl
@[go_sem] theorem qsG_some {gc vc:Prop}{e:Bool}{x:I}:qsG E all rest H K fr dst (some (gc,e)) (some (vc,x))=(gc∧(e=true→vc)∧opsQ E all H K rest (fr.put dst (.cond e x))):=rfl
@[go_sem] theorem qsGC_some {c gc:Prop}{e:Bool}{fn:Option (Nat×List I)}{args:List I}:qsGC E all rest H K fr dst c fn args (some (gc,e))=(gc∧qex E c e fn args H (fun x=>opsQ E all H K rest (fr.put dst (.cond e (.d x))))):=rfl
theorem qs_P {op:Op}{o:Option (Prop×I)}(h1:qar op=none) (h2:sopP E.T fr H op=o):opsQ E all H K (⟨dst,op,ty,pos,af,none⟩::rest) fr=qsP E all rest H K fr dst o:=by
 simp only[opsQ,h1,h2]
 cases o <;> rfl
theorem qs_G {op:Op}{o:Option (Prop×I)}(h1:qar op=none) (h2:sopP E.T fr H op=o) :
  opsQ E all H K (⟨dst,op,ty,pos,af,some (j,want)⟩::rest) fr=qsG E all rest H K fr dst (guardOf all fr j want) o:=by
 simp only[opsQ,h1,h2]
 cases guardOf all fr j want with
 | none=>rfl
 | some g=>cases o <;> rfl
@[go_sem] theorem qs_nil:opsQ E all H K [] fr=K fr:=rfl
@[go_sem] theorem qs_call {g:Operand}{args:List Operand}{ts:Array TypeId}:opsQ E all H K (⟨dst,.call ⟨.value g,args.toArray,ts⟩,ty,pos,af,none⟩::rest) fr =
  qex E (evc fr g∧evcs fr args) true (fnOf (evx fr g)) (evs fr args) H (fun x=>opsQ E all H K rest (fr.put dst (.d x))):=by simp only[opsQ,qar]
@[go_sem] theorem qsG_call {g:Operand}{args:List Operand}{ts:Array TypeId}:opsQ E all H K (⟨dst,.call ⟨.value g,args.toArray,ts⟩,ty,pos,af,some (j,want)⟩::rest) fr =
  qsGC E all rest H K fr dst (evc fr g∧evcs fr args) (fnOf (evx fr g)) (evs fr args) (guardOf all fr j want):=by
 simp only[opsQ,qar]
 cases guardOf all fr j want <;> rfl
@[go_sem] theorem quiet_def {T:Nat→Option TI}{l:List Oper}:quiet T l=(qao l&&qix T l):=rfl
@[go_sem] theorem scalL_nil {T:Nat→Option TI}:qix T []=true:=rfl
@[go_sem] theorem noProcL_nil {pf:Nat→Kind}:qec pf []=true:=rfl
@[go_sem] theorem scalL_cons {T:Nat→Option TI}{op:Op}{gd:Option (Nat×Bool)}:qix T (⟨dst,op,ty,pos,af,gd⟩::rest)=(qbq T ty op&&qix T rest):=rfl
@[go_sem] theorem qmM {pf:Nat→Kind}{op:Op}{gd:Option (Nat×Bool)}:qec pf (⟨dst,op,ty,pos,af,gd⟩::rest)=(!qbl pf op&&qec pf rest):=rfl
@[go_sem] theorem scalTI_int {k:IntKind}{a b:Nat}{z:D}:qe8 (some ⟨.int k,a,b,z⟩)=true:=rfl
@[go_sem] theorem scalTI_bool {a b:Nat}{z:D}:qe8 (some ⟨.bool,a,b,z⟩)=true:=rfl
@[go_sem] theorem scalTI_none:qe8 none=false:=rfl
@[go_sem] theorem qmN {e a b:Nat}{z:D}:qe8 (some ⟨.slice e,a,b,z⟩)=false:=rfl
@[go_sem] theorem scalTI_else {t:Ty}{a b:Nat}{z:D}(h1 : ∀ k,t=.int k→False) (h2:t=.bool→False):qe8 (some ⟨t,a,b,z⟩)=false:=by
 cases t with
 | int k=>exact absurd rfl (fun h=>h1 k h)
 | bool=>exact absurd rfl (fun h=>h2 h)
 | _=>rfl
@[go_sem] theorem scalO_call {T:Nat→Option TI}{g:Operand}{args:Array Operand}{ts:Array TypeId}:qbq T ty (.call ⟨.value g,args,ts⟩)=qe8 (T ty):=rfl
@[go_sem] theorem procO_callf {pf:Nat→Kind}{g:Nat}{args:Array Operand}{ts:Array TypeId}:qbl pf (.call ⟨.value (.func g),args,ts⟩)=qe9 (pf g):=rfl
@[go_sem] theorem procO_callt {pf:Nat→Kind}{g:Tmp}{args:Array Operand}{ts:Array TypeId}:qbl pf (.call ⟨.value (.tmp g),args,ts⟩)=false:=rfl
@[go_sem] theorem isProcK_own:qe9 .own=false:=rfl
@[go_sem] theorem isProcK_fz:qe9 .fz=false:=rfl
@[go_sem] theorem qmO:qe9 .proc=true:=rfl
@[go_sem] theorem qlw {T:Nat→Option TI}{b:Builtin}{args:Array Operand}{ts:Array TypeId}:qbq T ty (.call ⟨.builtin b,args,ts⟩)=true:=rfl
@[go_sem] theorem qlx {pf:Nat→Kind}{b:Builtin}{args:Array Operand}{ts:Array TypeId}:qbl pf (.call ⟨.builtin b,args,ts⟩)=false:=rfl
@[go_sem] theorem scalO_move {T:Nat→Option TI}{x:Operand}:qbq T ty (.move x)=true:=rfl
@[go_sem] theorem procO_move {pf:Nat→Kind}{x:Operand}:qbl pf (.move x)=false:=rfl
@[go_sem] theorem qmP {T:Nat→Option TI}{x:Operand}:qbq T ty (.assign x)=true:=rfl
@[go_sem] theorem qmQ {pf:Nat→Kind}{x:Operand}:qbl pf (.assign x)=false:=rfl
@[go_sem] theorem scalO_pick {T:Nat→Option TI}{c x y:Operand}:qbq T ty (.pick c x y)=true:=rfl
@[go_sem] theorem procO_pick {pf:Nat→Kind}{c x y:Operand}:qbl pf (.pick c x y)=false:=rfl
@[go_sem] theorem scalO_build {T:Nat→Option TI}{t:TypeId}{p:Array (Nat×Operand)}:qbq T ty (.build t p)=true:=rfl
@[go_sem] theorem procO_build {pf:Nat→Kind}{t:TypeId}{p:Array (Nat×Operand)}:qbl pf (.build t p)=false:=rfl
@[go_sem] theorem scalO_load {T:Nat→Option TI}{t:TypeId}{x:Operand}:qbq T ty (.load t x)=true:=rfl
@[go_sem] theorem procO_load {pf:Nat→Kind}{t:TypeId}{x:Operand}:qbl pf (.load t x)=false:=rfl
@[go_sem] theorem qkI {T:Nat→Option TI}{x:Operand}:qbq T ty (.nilCheck x)=true:=rfl
@[go_sem] theorem qkJ {pf:Nat→Kind}{x:Operand}:qbl pf (.nilCheck x)=false:=rfl
@[go_sem] theorem scalO_binOp {T:Nat→Option TI}{op:BinOp}{t yt:TypeId}{x y:Operand}:qbq T ty (.binOp op t x y yt)=true:=rfl
@[go_sem] theorem procO_binOp {pf:Nat→Kind}{op:BinOp}{t yt:TypeId}{x y:Operand}:qbl pf (.binOp op t x y yt)=false:=rfl
@[go_sem] theorem scalO_unOp {T:Nat→Option TI}{op:UnOp}{t:TypeId}{x:Operand}:qbq T ty (.unOp op t x)=true:=rfl
@[go_sem] theorem procO_unOp {pf:Nat→Kind}{op:UnOp}{t:TypeId}{x:Operand}:qbl pf (.unOp op t x)=false:=rfl
@[go_sem] theorem qly {T:Nat→Option TI}{t u:TypeId}{x:Operand}:qbq T ty (.convert t u x)=true:=rfl
@[go_sem] theorem qlz {pf:Nat→Kind}{t u:TypeId}{x:Operand}:qbl pf (.convert t u x)=false:=rfl
@[go_sem] theorem qkK {T:Nat→Option TI}{c:Fn}{a b:Array Operand}:qbq T ty (.makeFunc c a b)=true:=rfl
@[go_sem] theorem qkL {pf:Nat→Kind}{c:Fn}{a b:Array Operand}:qbl pf (.makeFunc c a b)=false:=rfl
@[go_sem] theorem scalO_slice {T:Nat→Option TI}{t:TypeId}{x:Operand}{lo hi mx:Option Operand}:qbq T ty (.slice t x lo hi mx)=true:=rfl
@[go_sem] theorem procO_slice {pf:Nat→Kind}{t:TypeId}{x:Operand}{lo hi mx:Option Operand}:qbl pf (.slice t x lo hi mx)=false:=rfl
@[go_sem] theorem qjA {T:Nat→Option TI}{t:TypeId}{x:Operand}{i:Nat}:qbq T ty (.fieldAddr t x i)=true:=rfl
@[go_sem] theorem qjB {pf:Nat→Kind}{t:TypeId}{x:Operand}{i:Nat}:qbl pf (.fieldAddr t x i)=false:=rfl
@[go_sem] theorem scalO_field {T:Nat→Option TI}{t:TypeId}{x:Operand}{i:Nat}:qbq T ty (.field t x i)=true:=rfl
@[go_sem] theorem procO_field {pf:Nat→Kind}{t:TypeId}{x:Operand}{i:Nat}:qbl pf (.field t x i)=false:=rfl
@[go_sem] theorem qjC {T:Nat→Option TI}{t:TypeId}{x y:Operand}:qbq T ty (.indexAddr t x y)=true:=rfl
@[go_sem] theorem qjD {pf:Nat→Kind}{t:TypeId}{x y:Operand}:qbl pf (.indexAddr t x y)=false:=rfl
@[go_sem] theorem scalO_index {T:Nat→Option TI}{t:TypeId}{x y:Operand}:qbq T ty (.index t x y)=true:=rfl
@[go_sem] theorem procO_index {pf:Nat→Kind}{t:TypeId}{x y:Operand}:qbl pf (.index t x y)=false:=rfl
@[go_sem] theorem qlA {T:Nat→Option TI}{x:Operand}{i:Nat}:qbq T ty (.extract x i)=true:=rfl
@[go_sem] theorem qlB {pf:Nat→Kind}{x:Operand}{i:Nat}:qbl pf (.extract x i)=false:=rfl
@[go_sem] theorem qmR {T:Nat→Option TI}{t:TypeId}{x y:Operand}{ok:Bool}:qbq T ty (.lookup t x y ok)=true:=rfl
@[go_sem] theorem qmS {pf:Nat→Kind}{t:TypeId}{x y:Operand}{ok:Bool}:qbl pf (.lookup t x y ok)=false:=rfl
@[go_sem] theorem qlC {T:Nat→Option TI}{t:TypeId}{x:Option Operand}:qbq T ty (.makeMap t x)=true:=rfl
@[go_sem] theorem qlD {pf:Nat→Kind}{t:TypeId}{x:Option Operand}:qbl pf (.makeMap t x)=false:=rfl
@[go_sem] theorem qjE {T:Nat→Option TI}{t:TypeId}{m x y:Operand}:qbq T ty (.mapUpdate t m x y)=true:=rfl
@[go_sem] theorem qjF {pf:Nat→Kind}{t:TypeId}{m x y:Operand}:qbl pf (.mapUpdate t m x y)=false:=rfl
@[go_sem] theorem qmT {T:Nat→Option TI}{t:TypeId}{m x y:Operand}:qbq T ty (.insert t m x y)=true:=rfl
@[go_sem] theorem qmU {pf:Nat→Kind}{t:TypeId}{m x y:Operand}:qbl pf (.insert t m x y)=false:=rfl
@[go_sem] theorem scalO_box {T:Nat→Option TI}{t:TypeId}{x:Operand}:qbq T ty (.box t x)=true:=rfl
@[go_sem] theorem procO_box {pf:Nat→Kind}{t:TypeId}{x:Operand}:qbl pf (.box t x)=false:=rfl
@[go_sem] theorem scalO_alloc {T:Nat→Option TI}{t:TypeId}:qbq T ty (.alloc t)=true:=rfl
@[go_sem] theorem procO_alloc {pf:Nat→Kind}{t:TypeId}:qbl pf (.alloc t)=false:=rfl
@[go_sem] theorem qiR {T:Nat→Option TI}{t:TypeId}{n:Nat}{parts:Array (Nat×Operand)}:qbq T ty (.buildSlice t n parts)=true:=rfl
@[go_sem] theorem qiS {pf:Nat→Kind}{t:TypeId}{n:Nat}{parts:Array (Nat×Operand)}:qbl pf (.buildSlice t n parts)=false:=rfl
@[go_sem] theorem qjG {T:Nat→Option TI}{t:TypeId}{x y:Operand}:qbq T ty (.makeSlice t x y)=true:=rfl
@[go_sem] theorem qjH {pf:Nat→Kind}{t:TypeId}{x y:Operand}:qbl pf (.makeSlice t x y)=false:=rfl
@[go_sem] theorem scalO_store {T:Nat→Option TI}{t:TypeId}{x y:Operand}:qbq T ty (.store t x y)=true:=rfl
@[go_sem] theorem procO_store {pf:Nat→Kind}{t:TypeId}{x y:Operand}:qbl pf (.store t x y)=false:=rfl
@[go_sem] theorem quietL_nil:qao []=true:=rfl
@[go_sem] theorem quietL_call {g:Operand}{args:List Operand}{ts:Array TypeId}{gd:Option (Nat×Bool)}:qao (⟨dst,.call ⟨.value g,args.toArray,ts⟩,ty,pos,af,gd⟩::rest)=qao rest:=rfl
def qmV (E:Env) (c:Prop) (e:Bool) (f:Nat) (K:D→Prop):Option (Prop×List D)→Prop
 | some (vc,ds)=>(e=true→c∧vc)∧qlj E e f ds K
 | none=>False
@[go_sem] theorem callQ_s {c:Prop}{e:Bool}{g:Nat}{caps args:List I}{K:D→Prop}:qex E c e (some (g,caps)) args H K=qmV E c e g K (qcT H (args++caps)):=by
 simp only[qex];cases qcT H (args++caps) <;> rfl
@[go_sem] theorem callQ1_s {c vc:Prop}{e:Bool}{g:Nat}{ds:List D}{K:D→Prop}:qmV E c e g K (some (vc,ds))=((e=true→c∧vc)∧qlj E e g ds K):=rfl
theorem qlE {e:Bool}{g:Nat}{ds:List D}{K:D→Prop}{x:D}(h:e=true→Pure E.P g ds x∧scal x) (hk:K x):qlj E e g ds K:=⟨x,h,hk⟩
@[go_sem] theorem scal_int {k:IntKind}{n:Int}:scal (.int k n)=InK k n:=rfl
@[go_sem] theorem scal_bool {b:Bool}:scal (.bool b)=True:=rfl
@[go_sem] theorem qs_move {x:Operand}:opsQ E all H K (⟨dst,.move x,ty,pos,af,none⟩::rest) fr=qsP E all rest H K fr dst (some (evc fr x,evx fr x)):=qs_P rfl rfl
@[go_sem] theorem qs_assign {x:Operand}:opsQ E all H K (⟨dst,.assign x,ty,pos,af,none⟩::rest) fr=qsP E all rest H K fr dst (some (evc fr x,evx fr x)):=qs_P rfl rfl
@[go_sem] theorem qs_pick {c x y:Operand}:opsQ E all H K (⟨dst,.pick c x y,ty,pos,af,none⟩::rest) fr=qsP E all rest H K fr dst (andC (evc fr c) (qhi (evx fr c) (evx fr x) (evx fr y) (evc fr x) (evc fr y))):=qs_P rfl rfl
@[go_sem] theorem qs_build {t:TypeId}{parts:Array (Nat×Operand)}:opsQ E all H K (⟨dst,.build t parts,ty,pos,af,none⟩::rest) fr=qsP E all rest H K fr dst (andC (qaL fr parts.toList) (qdO E.T t (qaG fr parts.toList))):=qs_P rfl rfl
@[go_sem] theorem qs_load {t:TypeId}{x:Operand}:opsQ E all H K (⟨dst,.load t x,ty,pos,af,none⟩::rest) fr=qsP E all rest H K fr dst (andC (evc fr x) (qdl E.T H t (evx fr x))):=qs_P rfl rfl
@[go_sem] theorem qs_nilCheck {x:Operand}:opsQ E all H K (⟨dst,.nilCheck x,ty,pos,af,none⟩::rest) fr=qsP E all rest H K fr dst (andC (evc fr x) (sNil H (evx fr x))):=qs_P rfl rfl
@[go_sem] theorem qs_binOp {op:BinOp}{t yt:TypeId}{x y:Operand}:opsQ E all H K (⟨dst,.binOp op t x y yt,ty,pos,af,none⟩::rest) fr=qsP E all rest H K fr dst (andC (evc fr x∧evc fr y) (sBin E.T H op t (evx fr x) (evx fr y))):=qs_P rfl rfl
@[go_sem] theorem qs_unOp {op:UnOp}{t:TypeId}{x:Operand}:opsQ E all H K (⟨dst,.unOp op t x,ty,pos,af,none⟩::rest) fr=qsP E all rest H K fr dst (andC (evc fr x) (sUn op (evx fr x))):=qs_P rfl rfl
@[go_sem] theorem qs_convert {s t:TypeId}{x:Operand}:opsQ E all H K (⟨dst,.convert s t x,ty,pos,af,none⟩::rest) fr=qsP E all rest H K fr dst (andC (evc fr x) (qf5 E.T s t (evx fr x))):=qs_P rfl rfl
@[go_sem] theorem qs_makeFunc {g:Nat}{caps:List Operand}:opsQ E all H K (⟨dst,.makeFunc (.func g) #[] caps.toArray,ty,pos,af,none⟩::rest) fr=qsP E all rest H K fr dst (some (evcs fr caps,mkFn g (evs fr caps))):=qs_P rfl (by simp[sopP])
@[go_sem] theorem qs_slice {t:TypeId}{x:Operand}{lo hi mx:Option Operand}:opsQ E all H K (⟨dst,.slice t x lo hi mx,ty,pos,af,none⟩::rest) fr=qsP E all rest H K fr dst (andC (evc fr x∧qd4 fr lo∧qd4 fr hi) (qdL E.T H t (evx fr x) (optE fr lo) (optE fr hi) (optE fr mx))):=qs_P rfl rfl
@[go_sem] theorem qmW {t:TypeId}{x:Operand}{i:Nat}:opsQ E all H K (⟨dst,.fieldAddr t x i,ty,pos,af,none⟩::rest) fr=qsP E all rest H K fr dst (andC (evc fr x) (qa8 E.T H t (evx fr x) i)):=qs_P rfl rfl
@[go_sem] theorem qs_field {t:TypeId}{x:Operand}{i:Nat}:opsQ E all H K (⟨dst,.field t x i,ty,pos,af,none⟩::rest) fr=qsP E all rest H K fr dst (andC (evc fr x) (qdJ E.T t (evx fr x) i)):=qs_P rfl rfl
@[go_sem] theorem qmX {t:TypeId}{x y:Operand}:opsQ E all H K (⟨dst,.indexAddr t x y,ty,pos,af,none⟩::rest) fr=qsP E all rest H K fr dst (andC (evc fr x∧evc fr y) (qa9 E.T H t (evx fr x) (evx fr y))):=qs_P rfl rfl
@[go_sem] theorem qs_index {t:TypeId}{x y:Operand}:opsQ E all H K (⟨dst,.index t x y,ty,pos,af,none⟩::rest) fr=qsP E all rest H K fr dst (andC (evc fr x∧evc fr y) (qdK E.T t (evx fr x) (evx fr y))):=qs_P rfl rfl
@[go_sem] theorem qs_lookup {t:TypeId}{x y:Operand}{ok:Bool}:opsQ E all H K (⟨dst,.lookup t x y ok,ty,pos,af,none⟩::rest) fr=qsP E all rest H K fr dst (andC (evc fr x∧evc fr y) (qcO E.T H t (evx fr x) (evx fr y) ok)):=qs_P rfl rfl
@[go_sem] theorem qs_extract {x:Operand}{i:Nat}:opsQ E all H K (⟨dst,.extract x i,ty,pos,af,none⟩::rest) fr=qsP E all rest H K fr dst (andC (evc fr x) (qbG (evx fr x) i)):=qs_P rfl rfl
@[go_sem] theorem qs_len {x:Operand}{t:TypeId}:opsQ E all H K (⟨dst,.call ⟨.builtin .len,#[x],#[t]⟩,ty,pos,af,none⟩::rest) fr=qsP E all rest H K fr dst (andC (evc fr x) (sLen E.T H t (evx fr x))):=qs_P rfl rfl
@[go_sem] theorem qs_cap {x:Operand}{t:TypeId}:opsQ E all H K (⟨dst,.call ⟨.builtin .cap,#[x],#[t]⟩,ty,pos,af,none⟩::rest) fr=qsP E all rest H K fr dst (andC (evc fr x) (sCap E.T t (evx fr x))):=qs_P rfl rfl
@[go_sem] theorem qs_min {x y:Operand}{ts:Array TypeId}:opsQ E all H K (⟨dst,.call ⟨.builtin .min,#[x,y],ts⟩,ty,pos,af,none⟩::rest) fr=qsP E all rest H K fr dst (andC (evc fr x∧evc fr y) (sMM .min (evx fr x) (evx fr y))):=qs_P rfl rfl
@[go_sem] theorem qs_max {x y:Operand}{ts:Array TypeId}:opsQ E all H K (⟨dst,.call ⟨.builtin .max,#[x,y],ts⟩,ty,pos,af,none⟩::rest) fr=qsP E all rest H K fr dst (andC (evc fr x∧evc fr y) (sMM .max (evx fr x) (evx fr y))):=qs_P rfl rfl
@[go_sem] theorem qsG_move {x:Operand}:opsQ E all H K (⟨dst,.move x,ty,pos,af,some (j,want)⟩::rest) fr=qsG E all rest H K fr dst (guardOf all fr j want) (some (evc fr x,evx fr x)):=qs_G rfl rfl
@[go_sem] theorem qsG_assign {x:Operand}:opsQ E all H K (⟨dst,.assign x,ty,pos,af,some (j,want)⟩::rest) fr=qsG E all rest H K fr dst (guardOf all fr j want) (some (evc fr x,evx fr x)):=qs_G rfl rfl
@[go_sem] theorem qsG_pick {c x y:Operand}:opsQ E all H K (⟨dst,.pick c x y,ty,pos,af,some (j,want)⟩::rest) fr=qsG E all rest H K fr dst (guardOf all fr j want) (andC (evc fr c) (qhi (evx fr c) (evx fr x) (evx fr y) (evc fr x) (evc fr y))):=qs_G rfl rfl
@[go_sem] theorem qsG_build {t:TypeId}{parts:Array (Nat×Operand)}:opsQ E all H K (⟨dst,.build t parts,ty,pos,af,some (j,want)⟩::rest) fr=qsG E all rest H K fr dst (guardOf all fr j want) (andC (qaL fr parts.toList) (qdO E.T t (qaG fr parts.toList))):=qs_G rfl rfl
@[go_sem] theorem qsG_load {t:TypeId}{x:Operand}:opsQ E all H K (⟨dst,.load t x,ty,pos,af,some (j,want)⟩::rest) fr=qsG E all rest H K fr dst (guardOf all fr j want) (andC (evc fr x) (qdl E.T H t (evx fr x))):=qs_G rfl rfl
@[go_sem] theorem qmY {x:Operand}:opsQ E all H K (⟨dst,.nilCheck x,ty,pos,af,some (j,want)⟩::rest) fr=qsG E all rest H K fr dst (guardOf all fr j want) (andC (evc fr x) (sNil H (evx fr x))):=qs_G rfl rfl
@[go_sem] theorem qsG_binOp {op:BinOp}{t yt:TypeId}{x y:Operand}:opsQ E all H K (⟨dst,.binOp op t x y yt,ty,pos,af,some (j,want)⟩::rest) fr=qsG E all rest H K fr dst (guardOf all fr j want) (andC (evc fr x∧evc fr y) (sBin E.T H op t (evx fr x) (evx fr y))):=qs_G rfl rfl
@[go_sem] theorem qsG_unOp {op:UnOp}{t:TypeId}{x:Operand}:opsQ E all H K (⟨dst,.unOp op t x,ty,pos,af,some (j,want)⟩::rest) fr=qsG E all rest H K fr dst (guardOf all fr j want) (andC (evc fr x) (sUn op (evx fr x))):=qs_G rfl rfl
@[go_sem] theorem qsG_convert {s t:TypeId}{x:Operand}:opsQ E all H K (⟨dst,.convert s t x,ty,pos,af,some (j,want)⟩::rest) fr=qsG E all rest H K fr dst (guardOf all fr j want) (andC (evc fr x) (qf5 E.T s t (evx fr x))):=qs_G rfl rfl
@[go_sem] theorem qsG_slice {t:TypeId}{x:Operand}{lo hi mx:Option Operand}:opsQ E all H K (⟨dst,.slice t x lo hi mx,ty,pos,af,some (j,want)⟩::rest) fr=qsG E all rest H K fr dst (guardOf all fr j want) (andC (evc fr x∧qd4 fr lo∧qd4 fr hi) (qdL E.T H t (evx fr x) (optE fr lo) (optE fr hi) (optE fr mx))):=qs_G rfl rfl
@[go_sem] theorem qlF {t:TypeId}{x:Operand}{i:Nat}:opsQ E all H K (⟨dst,.fieldAddr t x i,ty,pos,af,some (j,want)⟩::rest) fr=qsG E all rest H K fr dst (guardOf all fr j want) (andC (evc fr x) (qa8 E.T H t (evx fr x) i)):=qs_G rfl rfl
@[go_sem] theorem qsG_field {t:TypeId}{x:Operand}{i:Nat}:opsQ E all H K (⟨dst,.field t x i,ty,pos,af,some (j,want)⟩::rest) fr=qsG E all rest H K fr dst (guardOf all fr j want) (andC (evc fr x) (qdJ E.T t (evx fr x) i)):=qs_G rfl rfl
@[go_sem] theorem qlG {t:TypeId}{x y:Operand}:opsQ E all H K (⟨dst,.indexAddr t x y,ty,pos,af,some (j,want)⟩::rest) fr=qsG E all rest H K fr dst (guardOf all fr j want) (andC (evc fr x∧evc fr y) (qa9 E.T H t (evx fr x) (evx fr y))):=qs_G rfl rfl
@[go_sem] theorem qsG_index {t:TypeId}{x y:Operand}:opsQ E all H K (⟨dst,.index t x y,ty,pos,af,some (j,want)⟩::rest) fr=qsG E all rest H K fr dst (guardOf all fr j want) (andC (evc fr x∧evc fr y) (qdK E.T t (evx fr x) (evx fr y))):=qs_G rfl rfl
@[go_sem] theorem qsG_extract {x:Operand}{i:Nat}:opsQ E all H K (⟨dst,.extract x i,ty,pos,af,some (j,want)⟩::rest) fr=qsG E all rest H K fr dst (guardOf all fr j want) (andC (evc fr x) (qbG (evx fr x) i)):=qs_G rfl rfl
@[go_sem] theorem qsG_len {x:Operand}{t:TypeId}:opsQ E all H K (⟨dst,.call ⟨.builtin .len,#[x],#[t]⟩,ty,pos,af,some (j,want)⟩::rest) fr=qsG E all rest H K fr dst (guardOf all fr j want) (andC (evc fr x) (sLen E.T H t (evx fr x))):=qs_G rfl rfl
@[go_sem] theorem qsG_cap {x:Operand}{t:TypeId}:opsQ E all H K (⟨dst,.call ⟨.builtin .cap,#[x],#[t]⟩,ty,pos,af,some (j,want)⟩::rest) fr=qsG E all rest H K fr dst (guardOf all fr j want) (andC (evc fr x) (sCap E.T t (evx fr x))):=qs_G rfl rfl
@[go_sem] theorem qsG_min {x y:Operand}{ts:Array TypeId}:opsQ E all H K (⟨dst,.call ⟨.builtin .min,#[x,y],ts⟩,ty,pos,af,some (j,want)⟩::rest) fr=qsG E all rest H K fr dst (guardOf all fr j want) (andC (evc fr x∧evc fr y) (sMM .min (evx fr x) (evx fr y))):=qs_G rfl rfl
@[go_sem] theorem qsG_max {x y:Operand}{ts:Array TypeId}:opsQ E all H K (⟨dst,.call ⟨.builtin .max,#[x,y],ts⟩,ty,pos,af,some (j,want)⟩::rest) fr=qsG E all rest H K fr dst (guardOf all fr j want) (andC (evc fr x∧evc fr y) (sMM .max (evx fr x) (evx fr y))):=qs_G rfl rfl
@[go_sem] theorem quietL_move {x:Operand}{gd:Option (Nat×Bool)}:qao (⟨dst,.move x,ty,pos,af,gd⟩::rest)=qao rest:=rfl
@[go_sem] theorem qlH {x:Operand}{gd:Option (Nat×Bool)}:qao (⟨dst,.assign x,ty,pos,af,gd⟩::rest)=qao rest:=rfl
@[go_sem] theorem quietL_pick {c x y:Operand}{gd:Option (Nat×Bool)}:qao (⟨dst,.pick c x y,ty,pos,af,gd⟩::rest)=qao rest:=rfl
@[go_sem] theorem qmZ {t:TypeId}{parts:Array (Nat×Operand)}{gd:Option (Nat×Bool)}:qao (⟨dst,.build t parts,ty,pos,af,gd⟩::rest)=qao rest:=rfl
@[go_sem] theorem quietL_load {t:TypeId}{x:Operand}{gd:Option (Nat×Bool)}:qao (⟨dst,.load t x,ty,pos,af,gd⟩::rest)=qao rest:=rfl
@[go_sem] theorem qjI {x:Operand}{gd:Option (Nat×Bool)}:qao (⟨dst,.nilCheck x,ty,pos,af,gd⟩::rest)=qao rest:=rfl
@[go_sem] theorem qm0 {op:BinOp}{t yt:TypeId}{x y:Operand}{gd:Option (Nat×Bool)}:qao (⟨dst,.binOp op t x y yt,ty,pos,af,gd⟩::rest)=qao rest:=rfl
@[go_sem] theorem quietL_unOp {op:UnOp}{t:TypeId}{x:Operand}{gd:Option (Nat×Bool)}:qao (⟨dst,.unOp op t x,ty,pos,af,gd⟩::rest)=qao rest:=rfl
@[go_sem] theorem qkM {s t:TypeId}{x:Operand}{gd:Option (Nat×Bool)}:qao (⟨dst,.convert s t x,ty,pos,af,gd⟩::rest)=qao rest:=rfl
@[go_sem] theorem qjJ {g:Nat}{caps:List Operand}{gd:Option (Nat×Bool)}:qao (⟨dst,.makeFunc (.func g) #[] caps.toArray,ty,pos,af,gd⟩::rest)=qao rest:=rfl
@[go_sem] theorem qm1 {t:TypeId}{x:Operand}{lo hi mx:Option Operand}{gd:Option (Nat×Bool)}:qao (⟨dst,.slice t x lo hi mx,ty,pos,af,gd⟩::rest)=qao rest:=rfl
@[go_sem] theorem qiT {t:TypeId}{x:Operand}{i:Nat}{gd:Option (Nat×Bool)}:qao (⟨dst,.fieldAddr t x i,ty,pos,af,gd⟩::rest)=qao rest:=rfl
@[go_sem] theorem qm2 {t:TypeId}{x:Operand}{i:Nat}{gd:Option (Nat×Bool)}:qao (⟨dst,.field t x i,ty,pos,af,gd⟩::rest)=qao rest:=rfl
@[go_sem] theorem qiU {t:TypeId}{x y:Operand}{gd:Option (Nat×Bool)}:qao (⟨dst,.indexAddr t x y,ty,pos,af,gd⟩::rest)=qao rest:=rfl
@[go_sem] theorem qm3 {t:TypeId}{x y:Operand}{gd:Option (Nat×Bool)}:qao (⟨dst,.index t x y,ty,pos,af,gd⟩::rest)=qao rest:=rfl
@[go_sem] theorem qkN {x:Operand}{i:Nat}{gd:Option (Nat×Bool)}:qao (⟨dst,.extract x i,ty,pos,af,gd⟩::rest)=qao rest:=rfl
@[go_sem] theorem quietL_len {x:Operand}{t:TypeId}{gd:Option (Nat×Bool)}:qao (⟨dst,.call ⟨.builtin .len,#[x],#[t]⟩,ty,pos,af,gd⟩::rest)=qao rest:=rfl
@[go_sem] theorem quietL_cap {x:Operand}{t:TypeId}{gd:Option (Nat×Bool)}:qao (⟨dst,.call ⟨.builtin .cap,#[x],#[t]⟩,ty,pos,af,gd⟩::rest)=qao rest:=rfl
@[go_sem] theorem quietL_min {x y:Operand}{ts:Array TypeId}{gd:Option (Nat×Bool)}:qao (⟨dst,.call ⟨.builtin .min,#[x,y],ts⟩,ty,pos,af,gd⟩::rest)=qao rest:=rfl
@[go_sem] theorem quietL_max {x y:Operand}{ts:Array TypeId}{gd:Option (Nat×Bool)}:qao (⟨dst,.call ⟨.builtin .max,#[x,y],ts⟩,ty,pos,af,gd⟩::rest)=qao rest:=rfl
@[go_sem] theorem qlI {t:TypeId}{x y:Operand}{ok:Bool}{gd:Option (Nat×Bool)}:qao (⟨dst,.lookup t x y ok,ty,pos,af,gd⟩::rest)=qao rest:=rfl
@[go_sem] theorem qkO {t:TypeId}{x:Option Operand}{gd:Option (Nat×Bool)}:qao (⟨dst,.makeMap t x,ty,pos,af,gd⟩::rest)=false:=rfl
@[go_sem] theorem qiV {t:TypeId}{m x y:Operand}{gd:Option (Nat×Bool)}:qao (⟨dst,.mapUpdate t m x y,ty,pos,af,gd⟩::rest)=false:=rfl
@[go_sem] theorem qlJ {t:TypeId}{m x y:Operand}{gd:Option (Nat×Bool)}:qao (⟨dst,.insert t m x y,ty,pos,af,gd⟩::rest)=false:=rfl
@[go_sem] theorem quietL_box {t:TypeId}{x:Operand}{gd:Option (Nat×Bool)}:qao (⟨dst,.box t x,ty,pos,af,gd⟩::rest)=false:=rfl
@[go_sem] theorem qm4 {t:TypeId}{gd:Option (Nat×Bool)}:qao (⟨dst,.alloc t,ty,pos,af,gd⟩::rest)=false:=rfl
@[go_sem] theorem qiz {t:TypeId}{n:Nat}{parts:Array (Nat×Operand)}{gd:Option (Nat×Bool)}:qao (⟨dst,.buildSlice t n parts,ty,pos,af,gd⟩::rest)=false:=rfl
@[go_sem] theorem qiW {t:TypeId}{x y:Operand}{gd:Option (Nat×Bool)}:qao (⟨dst,.makeSlice t x y,ty,pos,af,gd⟩::rest)=false:=rfl
@[go_sem] theorem qm5 {t:TypeId}{x y:Operand}{gd:Option (Nat×Bool)}:qao (⟨dst,.store t x y,ty,pos,af,gd⟩::rest)=false:=rfl
@[go_sem] theorem qlK {x y:Operand}{t t':TypeId}{gd:Option (Nat×Bool)}:qao (⟨dst,.call ⟨.builtin .append,#[x,y],#[t,t']⟩,ty,pos,af,gd⟩::rest)=false:=rfl
@[go_sem] theorem quietL_copy {x y:Operand}{t t':TypeId}{gd:Option (Nat×Bool)}:qao (⟨dst,.call ⟨.builtin .copy,#[x,y],#[t,t']⟩,ty,pos,af,gd⟩::rest)=false:=rfl
@[go_sem] theorem qm6 {x:Operand}{t:TypeId}{gd:Option (Nat×Bool)}:qao (⟨dst,.call ⟨.builtin .clear,#[x],#[t]⟩,ty,pos,af,gd⟩::rest)=false:=rfl
end draw
end Go.VL
namespace Go.VL
variable {E:Env}{Q:Post}{fr:Fr}{H:List R}{T:Nat→Option TI}{ty:Ty}{sz b:Nat}{z:D}
def qhV:Bool→Ty→Nat→D→Option (Prop×I)
 | true,_,sz,pd=>some (pd.isPtr∧sz≤pd.ptrs.length,.d (.agg (pd.ptrs.take sz)))
 | false,ty,_,pd=>some (pd.isPtr∧0<pd.ptrs.length∧tchk ty (pd.ptrs.getD 0 .nil),.d (tnorm ty (pd.ptrs.getD 0 .nil)))
def qhW:Option R→Bool→Ty→Nat→Nat→Option (Prop×I)
 | some (.box cs),true,_,sz,off=>some (off+sz≤cs.length∧qa1 ((cs.drop off).take sz),mkAgg ((cs.drop off).take sz))
 | some (.box cs),false,ty,_,off=>some (off<cs.length∧qde ty (cs.getD off .junk),tnormI ty (cs.getD off .junk))
 | _,_,_,_,_=>none
def qci (b:Bool) (o:Option (Prop×I)):Option (Prop×I):=
 match b with
 | true=>none
 | false=>o
@[go_sem] theorem xLoadN_t {o:Option (Prop×I)}:qci true o=none:=rfl
@[go_sem] theorem xLoadN_f {o:Option (Prop×I)}:qci false o=o:=rfl
def qcE:Option R→Bool→Ty→Nat→D→Nat→Nat→Nat→Nat→D→Option (Prop×I)
 | some (.row g' k' .fz l),true,_,sz,_,g,k,idx,off,z=>some (g=g'∧k=k'∧idx<l.length∧off+sz≤k,.d (.agg (qab (l.getD idx z) off sz)))
 | some (.row g' k' .fz l),false,ty,sz,_,g,k,idx,off,z=>some (g=g'∧k=k'∧idx<l.length∧off<k∧tchk ty ((l.getD idx z).cellAt off),.d (tnorm ty ((l.getD idx z).cellAt off)))
 | some (.row g' k' (.own []) l),true,_,sz,zr,g,k,idx,off,z=>qci (qdG zr) (some (g=g'∧k=k'∧idx<l.length∧off+sz≤k∧∀ c∈qab (l.getD idx z) off sz,c.scalar=true,.d (.agg (qab (l.getD idx z) off sz))))
 | some (.row g' k' (.own hs) l),true,_,sz,zr,g,k,idx,off,z=>qci (qdG zr)
   (
    match qaK k' hs idx (l.getD idx z) zr.cells off with
    | some (vc,xs)=>some (g=g'∧k=k'∧idx<l.length∧off+sz≤k∧zr.cells.length=sz∧vc∧qa1 xs,mkAgg xs)
    | none=>none)
 | some (.row g' k' (.own _) l),false,ty,sz,_,g,k,idx,off,z=>qci (slTy ty) (some (g=g'∧k=k'∧idx<l.length∧off<k∧tchk ty ((l.getD idx z).cellAt off),.d (tnorm ty ((l.getD idx z).cellAt off))))
 | _,_,_,_,_,_,_,_,_,_=>none
def qhw:Option TI→List R→I→Option (Prop×I)
 | some ti,_,.d pd=>qhV ti.ty.agg ti.ty ti.size pd
 | some ti,H,.ptr i off=>qhW (qaj H i) ti.ty.agg ti.ty ti.size off
 | some ti,H,.eptr i g k idx off z=>qcE (qaj H i) ti.ty.agg ti.ty ti.size ti.zero g k idx off z
 | _,_,_=>none
@[go_sem] theorem sLoad_eq {t:Nat}{p:I}:qdl T H t p=qhw (T t) H p:=by
 unfold qdl
 cases hT:T t with
 | none=>cases p <;> simp only[qbv,hT] <;> rfl
 | some ti=>
  cases p with
  | d pd=>simp only[qhw,qbv,hT];cases ti.ty.agg <;> rfl
  | ptr i off=>
   simp only[qhw,qbv,hT,←qam]
   cases H[i]? with
   | none=>rfl
   | some r=>
    cases r <;> first|rfl|(rename_i cs;cases ti.ty.agg <;> rfl)
  | eptr i g k idx off z=>
   simp only[qhw,←qam]
   cases hi:H[i]? with
   | none=>simp only[qbv,hT,hi];rfl
   | some r=>
    cases r with
    | row g' k' dp l=>
     cases dp with
     | fz=>
      simp only[qbv,hT,hi]
      cases ti.ty.agg <;> rfl
     | own hs=>
      simp only[qhL]
      cases ha:ti.ty.agg with
      | true=>
       cases hn:qdG ti.zero with
       | true=>cases hs <;> simp only[qcE,hn,qci]
       | false=>
        cases hs with
        | nil=>simp only[qbv,hT,hi,ha,hn,qcE,qci]
        | cons x r=>
         simp only[qbv,hT,hi,ha,hn,qcE,qci]
         cases qaK k' (x::r) idx (l.getD idx z) ti.zero.cells off <;> rfl
      | false=>
       cases hn:slTy ti.ty with
       | true=>cases hs <;> simp only[qcE,hn,qci]
       | false=>cases hs <;> simp only[qbv,hT,hi,ha,hn,qcE,qci]
    | _=>simp only[qbv,hT,hi] <;> rfl
  | _=>simp only[qbv,hT] <;> rfl
@[go_sem] theorem xLoad_d {pd:D}:qhw (some ⟨ty,sz,b,z⟩) H (.d pd)=qhV ty.agg ty sz pd:=rfl
@[go_sem] theorem xLoad_ptr {i off:Nat}:qhw (some ⟨ty,sz,b,z⟩) H (.ptr i off)=qhW (qaj H i) ty.agg ty sz off:=rfl
@[go_sem] theorem xLoad_eptr {i g k idx off:Nat}{z':D}:qhw (some ⟨ty,sz,b,z⟩) H (.eptr i g k idx off z')=qcE (qaj H i) ty.agg ty sz z g k idx off z':=rfl
@[go_sem] theorem xLoadD_true {pd:D}:qhV true ty sz pd=some (pd.isPtr∧sz≤pd.ptrs.length,.d (.agg (pd.ptrs.take sz))):=rfl
@[go_sem] theorem qm7 {pd:D}:qhV false ty sz pd=some (pd.isPtr∧0<pd.ptrs.length∧tchk ty (pd.ptrs.getD 0 .nil),.d (tnorm ty (pd.ptrs.getD 0 .nil))):=rfl
@[go_sem] theorem xLoadB_true {cs:List I}{off:Nat}:qhW (some (.box cs)) true ty sz off=some (off+sz≤cs.length∧qa1 ((cs.drop off).take sz),mkAgg ((cs.drop off).take sz)):=rfl
@[go_sem] theorem qm8 {cs:List I}{off:Nat}:qhW (some (.box cs)) false ty sz off=some (off<cs.length∧qde ty (cs.getD off .junk),tnormI ty (cs.getD off .junk)):=rfl
section
variable {g k g' k' idx off:Nat}{l:List D}{z':D}{kk:IntKind}{hs:List Hole}
@[go_sem] theorem xLoadE_tf:qcE (some (.row g' k' .fz l)) true ty sz z g k idx off z'=some (g=g'∧k=k'∧idx<l.length∧off+sz≤k,.d (.agg (qab (l.getD idx z') off sz))):=rfl
@[go_sem] theorem xLoadE_tt:qcE (some (.row g' k' (.own []) l)) true ty sz z g k idx off z'=qci (qdG z) (some (g=g'∧k=k'∧idx<l.length∧off+sz≤k∧∀ c∈qab (l.getD idx z') off sz,c.scalar=true,.d (.agg (qab (l.getD idx z') off sz)))):=rfl
@[go_sem] theorem xLoadE_tth {h:Hole}:qcE (some (.row g' k' (.own (h::hs)) l)) true ty sz z g k idx off z'=qci (qdG z)
   (
    match qaK k' (h::hs) idx (l.getD idx z') z.cells off with
    | some (vc,xs)=>some (g=g'∧k=k'∧idx<l.length∧off+sz≤k∧z.cells.length=sz∧vc∧qa1 xs,mkAgg xs)
    | none=>none):=rfl
@[go_sem] theorem xLoadE_ff:qcE (some (.row g' k' .fz l)) false ty sz z g k idx off z'=some (g=g'∧k=k'∧idx<l.length∧off<k∧tchk ty ((l.getD idx z').cellAt off),.d (tnorm ty ((l.getD idx z').cellAt off))):=rfl
@[go_sem] theorem xLoadE_ft:qcE (some (.row g' k' (.own hs) l)) false ty sz z g k idx off z'=qci (slTy ty) (some (g=g'∧k=k'∧idx<l.length∧off<k∧tchk ty ((l.getD idx z').cellAt off),.d (tnorm ty ((l.getD idx z').cellAt off)))):=by cases hs <;> rfl
@[go_sem] theorem slTy_int:slTy (.int kk)=false:=rfl
@[go_sem] theorem slTy_bool:slTy .bool=false:=rfl
@[go_sem] theorem slTy_slice {e:Nat}:slTy (.slice e)=true:=rfl
@[go_sem] theorem nilsIn_agg {cs:List D}:qdG (.agg cs)=cs.any D.isNil:=rfl
end
attribute [go_sem] List.any_cons List.any_nil Bool.or_false Bool.false_or Bool.or_true Bool.true_or
@[go_sem] theorem isNil_int {k:IntKind}{n:Int}:(D.int k n).isNil=false:=rfl
@[go_sem] theorem isNil_bool {x:Bool}:(D.bool x).isNil=false:=rfl
@[go_sem] theorem isNil_raw {v:Value}:(D.raw v).isNil=false:=rfl
section
variable {g k g' k' idx off i:Nat}{l:List D}{hs:List Hole}{x:I}
def xOp3 (vc0:Prop) (H':List R):Option (Prop×I)→Prop→Option (Prop×I×List R)
 | some (vc',x),vc=>some (vc0∧vc∧vc',x,H')
 | none,_=>none
def xOp2 (T:Nat→Option TI) (t:Nat) (p:I) (vc0:Prop):Option (Prop×List R)→Option (Prop×I×List R)
 | some (vc,H')=>xOp3 vc0 H' (qeo T H' t p) vc
 | none=>none
def xOp1 (T:Nat→Option TI) (t:Nat) (p:I) (i idx off:Nat) (z:D) (zr:D) (q:Prop×List R):Option (Prop×I×List R):=xOp2 T t p q.1 (qbZ z i idx (qbh zr.cells off) q.2)
theorem qlL {t:Nat}{z':D}(hT:T t=some ⟨ty,sz,b,z⟩):qe7 T H t (.eptr i g k idx off z')=xOp1 T t (.eptr i g k idx off z') i idx off z' z (shut H):=by
 simp only[qe7,hT,xOp1]
 cases qbZ z' i idx (qbh z.cells off) (shut H).2 with
 | none=>rfl
 | some p=>
  obtain⟨vc,H'⟩:=p
  simp only[xOp2]
  cases qeo T H' t (.eptr i g k idx off z') <;> rfl
def xOp0 (T:Nat→Option TI) (H:List R) (t:Nat) (p:I):Option TI→Option (Prop×I×List R)
 | some ti=>match p with
  | .eptr i g k idx off z=>xOp1 T t (.eptr i g k idx off z) i idx off z ti.zero (shut H)
  | _=>none
 | none=>none
@[go_sem] theorem sOpen_x {t:Nat}{p:I}:qe7 T H t p=xOp0 T H t p (T t):=by
 cases hT:T t with
 | none=>simp only[qe7,hT];cases p <;> rfl
 | some ti=>
  obtain⟨ty,sz,b,z⟩:=ti
  cases p with
  | eptr i g k idx off z'=>exact qlL hT
  | _=>simp only[qe7,hT];rfl
@[go_sem] theorem xOp0_s {t:Nat}{z':D}:xOp0 T H t (.eptr i g k idx off z') (some ⟨ty,sz,b,z⟩)=xOp1 T t (.eptr i g k idx off z') i idx off z' z (shut H):=rfl
@[go_sem] theorem xOp1_s {t:Nat}{p:I}{z' zr:D}{vc0:Prop}:xOp1 T t p i idx off z' zr (vc0,H)=xOp2 T t p vc0 (qbZ z' i idx (qbh zr.cells off) H):=rfl
@[go_sem] theorem xOp2_s {t:Nat}{p:I}{vc0 vc:Prop}:xOp2 T t p vc0 (some (vc,H))=xOp3 vc0 H (qeo T H t p) vc:=rfl
@[go_sem] theorem xOp3_s {vc0 vc vc':Prop}:xOp3 vc0 H (some (vc',x)) vc=some (vc0∧vc∧vc',x,H):=rfl
@[go_sem] theorem nilOffs_nil {n:Nat}:qbh [] n=[]:=rfl
@[go_sem] theorem nilOffs_n {n:Nat}{r:List D}:qbh (.nil::r) n=n::qbh r (n+1):=rfl
@[go_sem] theorem nilOffs_i {n:Nat}{r:List D}{k:IntKind}{m:Int}:qbh (.int k m::r) n=qbh r (n+1):=rfl
@[go_sem] theorem nilOffs_b {n:Nat}{r:List D}{m:Bool}:qbh (.bool m::r) n=qbh r (n+1):=rfl
@[go_sem] theorem nilOffs_r {n:Nat}{r:List D}{m:Value}:qbh (.raw m::r) n=qbh r (n+1):=rfl
@[go_sem] theorem cells_agg' {cs:List D}:(D.agg cs).cells=cs:=rfl
@[go_sem] theorem cells_nil':D.nil.cells=[.nil]:=rfl
@[go_sem] theorem opensL_nil {z':D}:qbZ z' i idx [] H=some (True,H):=rfl
def xOC (c:Prop):Option (Prop×List R)→Option (Prop×List R)
 | some (vc,H')=>some (c∧vc,H')
 | none=>none
@[go_sem] theorem xOC_s {c vc:Prop}:xOC c (some (vc,H))=some (c∧vc,H):=rfl
def xOR (z:D) (H:List R) (i idx o:Nat) (os:List Nat):Option R→Option (Prop×List R)
 | some (.row g k (.own hs) l)=>xOC (lstD ((l.getD idx z).cellAt o)∧apart idx o hs∧o<k∧idx<l.length)
   (qbZ z i idx os (H.set i (.row g k (.own ((idx,o,.sl H.length 1 (lkD ((l.getD idx z).cellAt o)) 0 ((l.getD idx z).cellAt o).elems.length)::hs)) l) ++
     [.row 1 (lkD ((l.getD idx z).cellAt o)) (.own []) ((l.getD idx z).cellAt o).elems]))
 | _=>none
@[go_sem] theorem opensL_cons {z':D}{o:Nat}{os:List Nat}:qbZ z' i idx (o::os) H=xOR z' H i idx o os (qaj H i):=by
 simp only[qbZ,qam]
 cases qaj H i with
 | none=>rfl
 | some r=>
  cases r with
  | row g k dp l=>
   cases dp with
   | fz=>rfl
   | own hs=>
    simp only[xOR]
    cases qbZ z' i idx os (H.set i (.row g k (.own ((idx,o,.sl H.length 1 (lkD ((l.getD idx z').cellAt o)) 0 ((l.getD idx z').cellAt o).elems.length)::hs)) l) ++
     [.row 1 (lkD ((l.getD idx z').cellAt o)) (.own []) ((l.getD idx z').cellAt o).elems]) <;> rfl
  | _=>rfl
@[go_sem] theorem xOR_s {z':D}{o:Nat}{os:List Nat}:xOR z' H i idx o os (some (.row g k (.own hs) l))=xOC (lstD ((l.getD idx z').cellAt o)∧apart idx o hs∧o<k∧idx<l.length)
   (qbZ z' i idx os (H.set i (.row g k (.own ((idx,o,.sl H.length 1 (lkD ((l.getD idx z').cellAt o)) 0 ((l.getD idx z').cellAt o).elems.length)::hs)) l) ++
     [.row 1 (lkD ((l.getD idx z').cellAt o)) (.own []) ((l.getD idx z').cellAt o).elems])):=rfl
@[go_sem] theorem lkD_lst {l:List D}:lkD (.lst k l)=k:=rfl
@[go_sem] theorem lstD_lst {l:List D}:lstD (.lst k l)=True:=rfl
@[go_sem] theorem apart_nil:apart idx off []=True:=rfl
@[go_sem] theorem apart_cons {h:Hole}:apart idx off (h::hs)=((h.1=idx∧h.2.1≠off)∧apart idx off hs):=rfl
@[go_sem] theorem holeAt_nil {j:Nat}:qan k [] j=none:=rfl
@[go_sem] theorem holeAt_cons {j a c:Nat}:qan k ((a,c,x)::hs) j=if a*k+c=j then some x else qan k hs j:=rfl
def xL5 (ty:Ty) (sz g k g' k' idx off:Nat) (l:List D) (zr:D):Option (Prop×List I)→Option (Prop×I)
 | some (vc,xs)=>some (g=g'∧k=k'∧idx<l.length∧off+sz≤k∧zr.cells.length=sz∧vc∧qa1 xs,mkAgg xs)
 | none=>none
def xL6 (ty:Ty) (g k g' k' idx off:Nat) (l:List D):Option I→Option (Prop×I)
 | some x=>some (g=g'∧k=k'∧idx<l.length∧off<k∧qde ty x,tnormI ty x)
 | none=>none
def xL7 (b:Bool) (o:Option (Prop×I)):Option (Prop×I):=
 match b with
 | true=>o
 | false=>none
@[go_sem] theorem xL7_t {o:Option (Prop×I)}:xL7 true o=o:=rfl
def xL4 (ti:TI) (g k idx off:Nat) (z:D):Option R→Bool→Option (Prop×I)
 | some (.row g' k' (.own (h::hs)) l),true=>xL5 ti.ty ti.size g k g' k' idx off l ti.zero (qaK k' (h::hs) idx (l.getD idx z) ti.zero.cells off)
 | some (.row g' k' (.own (h::hs)) l),false=>xL7 (slTy ti.ty) (xL6 ti.ty g k g' k' idx off l (qan k' (h::hs) (idx*k'+off)))
 | _,_=>none
def xL3 (H:List R):Option TI→I→Option (Prop×I)
 | some ti,.eptr i g k idx off z=>xL4 ti g k idx off z (qaj H i) ti.ty.agg
 | _,_=>none
@[go_sem] theorem sLoadH_eq {t:Nat}{p:I}:qeo T H t p=xL3 H (T t) p:=by
 unfold qeo
 cases T t with
 | none=>rfl
 | some ti=>
  cases p with
  | eptr i g k idx off z=>
   simp only[xL3,←qam]
   cases H[i]? with
   | none=>rfl
   | some r=>
    cases r with
    | row g' k' dp l=>
     cases dp with
     | fz=>cases ti.ty.agg <;> rfl
     | own hs=>
      cases hs with
      | nil=>cases ti.ty.agg <;> rfl
      | cons h hs=>
       cases ti.ty.agg with
       | true=>simp only[xL4];cases qaK k' (h::hs) idx (l.getD idx z) ti.zero.cells off <;> rfl
       | false=>
        simp only[xL4]
        cases slTy ti.ty with
        | true=>simp only[xL7];cases qan k' (h::hs) (idx*k'+off) <;> rfl
        | false=>rfl
    | _=>cases ti.ty.agg <;> rfl
  | _=>rfl
@[go_sem] theorem xL3_s {z':D}:xL3 H (some ⟨ty,sz,b,z⟩) (.eptr i g k idx off z')=xL4 ⟨ty,sz,b,z⟩ g k idx off z' (qaj H i) ty.agg:=rfl
@[go_sem] theorem xL4_t {z':D}{h:Hole}:xL4 ⟨ty,sz,b,z⟩ g k idx off z' (some (.row g' k' (.own (h::hs)) l)) true=xL5 ty sz g k g' k' idx off l z (qaK k' (h::hs) idx (l.getD idx z') z.cells off):=rfl
@[go_sem] theorem xL4_f {z':D}{h:Hole}:xL4 ⟨ty,sz,b,z⟩ g k idx off z' (some (.row g' k' (.own (h::hs)) l)) false=xL7 (slTy ty) (xL6 ty g k g' k' idx off l (qan k' (h::hs) (idx*k'+off))):=rfl
@[go_sem] theorem xL5_s {zr:D}{vc:Prop}{xs:List I}:xL5 ty sz g k g' k' idx off l zr (some (vc,xs))=some (g=g'∧k=k'∧idx<l.length∧off+sz≤k∧zr.cells.length=sz∧vc∧qa1 xs,mkAgg xs):=rfl
@[go_sem] theorem xL6_s:xL6 ty g k g' k' idx off l (some x)=some (g=g'∧k=k'∧idx<l.length∧off<k∧qde ty x,tnormI ty x):=rfl
def xCH1 (x:Option I):Option (Prop×List I)→Option (Prop×List I)
 | some (vc,xs)=>match x with
  | some x=>some (vc,x::xs)
  | none=>none
 | none=>none
def xCH2 (c:D):Option (Prop×List I)→Option (Prop×List I)
 | some (vc,xs)=>some (c.scalar=true∧vc,.d c::xs)
 | none=>none
@[go_sem] theorem xCH1_s {vc:Prop}{xs:List I}:xCH1 (some x) (some (vc,xs))=some (vc,x::xs):=rfl
@[go_sem] theorem xCH2_s {c:D}{vc:Prop}{xs:List I}:xCH2 c (some (vc,xs))=some (c.scalar=true∧vc,.d c::xs):=rfl
variable {c:D}{r:List D}
@[go_sem] theorem cellsH_nil:qaK k hs idx c [] off=some (True,[]):=rfl
@[go_sem] theorem cellsH_n:qaK k hs idx c (.nil::r) off=xCH1 (qan k hs (idx*k+off)) (qaK k hs idx c r (off+1)):=by
 simp only[qaK]
 cases qan k hs (idx*k+off) <;> cases qaK k hs idx c r (off+1) <;> rfl
@[go_sem] theorem cellsH_i {kk:IntKind}{m:Int}:qaK k hs idx c (.int kk m::r) off=xCH2 (c.cellAt off) (qaK k hs idx c r (off+1)):=by
 simp only[qaK];cases qaK k hs idx c r (off+1) <;> rfl
@[go_sem] theorem cellsH_b {m:Bool}:qaK k hs idx c (.bool m::r) off=xCH2 (c.cellAt off) (qaK k hs idx c r (off+1)):=by
 simp only[qaK];cases qaK k hs idx c r (off+1) <;> rfl
def xCl2 (H:List R) (i g k idx off r g' k' n:Nat) (hs:List Hole) (l:List D):Option R→Option (Prop×List R)
 | some (.row g2 k2 (.own []) es)=>some (g'=g2∧k'=k2∧r≠i∧apart idx off hs∧off<k∧idx<l.length,
    (H.set i (.row g k (.own hs) (putC k l idx off (.lst k' (es.take n))))).set r (.dead g2))
 | _=>none
def xCl1 (H:List R) (i:Nat):Option R→Option (Prop×List R)
 | some (.row g k (.own ((idx,off,.sl r g' k' 0 n)::hs)) l)=>xCl2 H i g k idx off r g' k' n hs l (qaj H r)
 | _=>none
@[go_sem] theorem closeAt_eq:qcV H i=xCl1 H i (qaj H i):=by
 unfold qcV
 rw[qam]
 split
 ·rename_i g k idx off r g' k' n hs l hi
  rw[hi]
  simp only[xCl1,qam]
  split
  ·rename_i hr;rw[hr];rfl
  ·rename_i hr
   generalize qaj H r=o at hr
   rcases o with _|r
   ·rfl
   ·cases r with
    | row g k dp l=>
     rcases dp with _|hs
     ·rfl
     ·cases hs with
      | nil=>exact absurd rfl (hr _ _ _)
      | cons x y=>rfl
    | _=>rfl
 ·rename_i hi
  generalize qaj H i=o at hi
  unfold xCl1
  split
  ·exact absurd rfl (hi _ _ _ _ _ _ _ _ _ _)
  ·rfl
@[go_sem] theorem xCl1_s {n r:Nat}:xCl1 H i (some (.row g k (.own ((idx,off,.sl r g' k' 0 n)::hs)) l))=xCl2 H i g k idx off r g' k' n hs l (qaj H r):=rfl
@[go_sem] theorem xCl1_nil:xCl1 H i (some (.row g k (.own []) l))=none:=rfl
@[go_sem] theorem xCl1_fz:xCl1 H i (some (.row g k .fz l))=none:=rfl
@[go_sem] theorem xCl1_box {cs:List I}:xCl1 H i (some (.box cs))=none:=rfl
@[go_sem] theorem xCl1_dead:xCl1 H i (some (.dead g))=none:=rfl
@[go_sem] theorem xCl1_map {es:List (D×D)}:xCl1 H i (some (.map es))=none:=rfl
@[go_sem] theorem xCl2_s {r n g2 k2:Nat}{es:List D}:xCl2 H i g k idx off r g' k' n hs l (some (.row g2 k2 (.own []) es))=some (g'=g2∧k'=k2∧r≠i∧apart idx off hs∧off<k∧idx<l.length,
    (H.set i (.row g k (.own hs) (putC k l idx off (.lst k' (es.take n))))).set r (.dead g2)):=rfl
@[go_sem] theorem xCl2_h {r n g2 k2:Nat}{h:Hole}{hs2:List Hole}{es:List D}:xCl2 H i g k idx off r g' k' n hs l (some (.row g2 k2 (.own (h::hs2)) es))=none:=rfl
@[go_sem] theorem xCl2_d {r n g2:Nat}:xCl2 H i g k idx off r g' k' n hs l (some (.dead g2))=none:=rfl
@[go_sem] theorem xCl2_f {r n g2 k2:Nat}{es:List D}:xCl2 H i g k idx off r g' k' n hs l (some (.row g2 k2 .fz es))=none:=rfl
def xSh1 (is:List Nat) (H:List R):Option (Prop×List R)→Prop×List R
 | some (vc,H')=>(vc∧(qcI is H').1,(qcI is H').2)
 | none=>qcI is H
@[go_sem] theorem shutL_nil:qcI [] H=(True,H):=rfl
@[go_sem] theorem shutL_cons {is:List Nat}:qcI (i::is) H=xSh1 is H (qcV H i):=by
 simp only[qcI];cases qcV H i <;> rfl
@[go_sem] theorem xSh1_n {is:List Nat}:xSh1 is H none=qcI is H:=rfl
def andSh (c:Prop):Prop×List R→Prop×List R
 | (vc,H)=>(c∧vc,H)
@[go_sem] theorem andSh_s {c vc:Prop}:andSh c (vc,H)=(c∧vc,H):=rfl
@[go_sem] theorem xSh1_s {is:List Nat}{vc:Prop}{H':List R}:xSh1 is H (some (vc,H'))=andSh vc (qcI is H'):=rfl
@[go_sem] theorem holey_nil:qdg []=false:=rfl
@[go_sem] theorem holey_h {h:Hole}{H:List R}:qdg (.row g k (.own (h::hs)) l::H)=true:=rfl
@[go_sem] theorem holey_o {H:List R}:qdg (.row g k (.own []) l::H)=qdg H:=rfl
@[go_sem] theorem holey_f {H:List R}:qdg (.row g k .fz l::H)=qdg H:=rfl
@[go_sem] theorem holey_b {cs:List I}{H:List R}:qdg (.box cs::H)=qdg H:=rfl
@[go_sem] theorem holey_d {H:List R}:qdg (.dead g::H)=qdg H:=rfl
@[go_sem] theorem holey_m {es:List (D×D)}{H:List R}:qdg (.map es::H)=qdg H:=rfl
@[go_sem] theorem idxs_nil {n:Nat}:idxs [] n=[]:=rfl
@[go_sem] theorem idxs_cons {n:Nat}{r:R}{H:List R}:idxs (r::H) n=n::idxs H (n+1):=rfl
def xShut (H:List R):Bool→Prop×List R
 | true=>qcI (idxs H 0++(idxs H 0++(idxs H 0++(idxs H 0++(idxs H 0++idxs H 0))))) H
 | false=>(True,H)
@[go_sem] theorem shut_eq:shut H=xShut H (qdg H):=rfl
@[go_sem] theorem xShut_t:xShut H true=qcI (idxs H 0++(idxs H 0++(idxs H 0++(idxs H 0++(idxs H 0++idxs H 0))))) H:=rfl
@[go_sem] theorem xShut_f:xShut H false=(True,H):=rfl
end
def xFA4 (off:Nat) (fsz:Nat) (H:List R):I→Option (Prop×I)
 | .d pd=>some (0<fsz∧pd.isPtr,.d (.ptr (pd.ptrs.drop off)))
 | .ptr i o=>match qaj H i with
  | some (.box _)=>some (0<fsz,.ptr i (o+off))
  | _=>none
 | .eptr i g k idx o z=>match qaj H i with
  | some (.row g' k' _ _)=>some (0<fsz∧g=g'∧k=k',.eptr i g k idx (o+off) z)
  | _=>none
 | _=>none
def xFA3 (off:Nat) (H:List R) (x:I):Option TI→Option (Prop×I)
 | some fi=>xFA4 off fi.size H x
 | none=>none
def xFA2 (T:Nat→Option TI) (H:List R) (x:I):Option (Nat×Nat)→Option (Prop×I)
 | some (off,ft)=>xFA3 off H x (T ft)
 | none=>none
def nthF:List (Nat×Nat)→Nat→Option (Nat×Nat)
 | [],_=>none
 | p::_,0=>some p
 | _::r,n+1=>nthF r n
theorem qfb : ∀ (l:List (Nat×Nat)) (i:Nat),l[i]?=nthF l i
 | [],i=>by simp[nthF]
 | r::l,0=>by simp[nthF]
 | r::l,i+1=>by simpa [nthF] using qfb l i
def xFA1 (T:Nat→Option TI) (H:List R) (x:I) (f:Nat):Option TI→Option (Prop×I)
 | some ⟨.struct fs,_,_,_⟩=>xFA2 T H x (nthF fs f)
 | _=>none
@[go_sem] theorem qlM {s f:Nat}{x:I}:qa8 T H s x f=xFA1 T H x f (T s):=by
 unfold qa8
 cases T s with
 | none=>rfl
 | some ti=>
  obtain⟨ty,sz,b,z⟩:=ti
  cases ty with
  | struct fs=>
   simp only[xFA1,←qfb]
   cases fs[f]? with
   | none=>rfl
   | some p=>
    obtain⟨off,ft⟩:=p
    simp only[xFA2]
    cases T ft with
    | none=>rfl
    | some fi=>
     simp only[xFA3]
     cases x <;> simp only[xFA4,qam] <;> (first|rfl|(split <;> first|rfl|(simp_all;done)|skip))
     all_goals (rename_i hi;rw[hi])
  | _=>rfl
@[go_sem] theorem nthF_zero {p:Nat×Nat}{r:List (Nat×Nat)}:nthF (p::r) 0=some p:=rfl
@[go_sem] theorem nthF_succ {p:Nat×Nat}{r:List (Nat×Nat)}{n:Nat}:nthF (p::r) (n+1)=nthF r n:=rfl
@[go_sem] theorem xFA1_s {f:Nat}{x:I}{fs:List (Nat×Nat)}:xFA1 T H x f (some ⟨.struct fs,sz,b,z⟩)=xFA2 T H x (nthF fs f):=rfl
@[go_sem] theorem xFA2_s {x:I}{off ft:Nat}:xFA2 T H x (some (off,ft))=xFA3 off H x (T ft):=rfl
@[go_sem] theorem xFA3_s {x:I}{off:Nat}:xFA3 off H x (some ⟨ty,sz,b,z⟩)=xFA4 off sz H x:=rfl
@[go_sem] theorem xFA4_d {off:Nat}{pd:D}:xFA4 off sz H (.d pd)=some (0<sz∧pd.isPtr,.d (.ptr (pd.ptrs.drop off))):=rfl
def qgY:Option R→Bool
 | some (.box _)=>true
 | _=>false
@[go_sem] theorem isBoxR_box {cs:List I}:qgY (some (.box cs))=true:=rfl
@[go_sem] theorem xFA4_ptr {off i o:Nat}:xFA4 off sz H (.ptr i o)=if qgY (qaj H i)=true then some (0<sz,.ptr i (o+off)) else none:=by
 simp only[xFA4]
 cases qaj H i with
 | none=>rfl
 | some r=>cases r <;> rfl
def rowR:Option R→Option (Nat×Nat)
 | some (.row g k _ _)=>some (g,k)
 | _=>none
def xFA5 (off fsz:Nat) (i g k idx o:Nat) (z:D):Option (Nat×Nat)→Option (Prop×I)
 | some (g',k')=>some (0<fsz∧g=g'∧k=k',.eptr i g k idx (o+off) z)
 | none=>none
@[go_sem] theorem rowR_row {g k:Nat}{dp:DP}{l:List D}:rowR (some (.row g k dp l))=some (g,k):=rfl
@[go_sem] theorem xFA4_eptr {off i g k idx o:Nat}{z':D}:xFA4 off sz H (.eptr i g k idx o z')=xFA5 off sz i g k idx o z' (rowR (qaj H i)):=by
 simp only[xFA4]
 cases qaj H i with
 | none=>rfl
 | some r=>cases r <;> rfl
@[go_sem] theorem xFA5_some {off i g k idx o g' k':Nat}{z':D}:xFA5 off sz i g k idx o z' (some (g',k'))=some (0<sz∧g=g'∧k=k',.eptr i g k idx (o+off) z'):=rfl
def xIA4 (esz:Nat) (ez:D) (H:List R) (iv:D):I→Option (Prop×I)
 | .d xd=>some (xd.isLst esz∧iv.isInt .i64∧0≤iv.toInt∧iv.toInt<xd.elems.length,.d (.ptr (qab (xd.elems.getD iv.toInt.toNat ez) 0 esz)))
 | .sl i g k lo n=>match rowR (qaj H i) with
  | some (g',k')=>some (g=g'∧k=k'∧k=esz∧iv.isInt .i64∧0≤iv.toInt∧iv.toInt<n,.eptr i g k (lo+iv.toInt.toNat) 0 ez)
  | none=>none
 | _=>none
def xIA5 (esz n:Nat) (H:List R) (iv:D):I→Option (Prop×I)
 | .d xd=>some (xd.isPtr∧iv.isInt .i64∧0≤iv.toInt∧iv.toInt<n,.d (.ptr (xd.ptrs.drop (iv.toInt.toNat*esz))))
 | .ptr i off=>if qgY (qaj H i)=true then some (iv.isInt .i64∧0≤iv.toInt∧iv.toInt<n,.ptr i (off+iv.toInt.toNat*esz)) else none
 | .eptr i g k idx o z=>match rowR (qaj H i) with
  | some (g',k')=>some (g=g'∧k=k'∧iv.isInt .i64∧0≤iv.toInt∧iv.toInt<n,.eptr i g k idx (o+iv.toInt.toNat*esz) z)
  | none=>none
 | _=>none
def xIA2 (H:List R) (iv:D) (x:I):Option TI→Option (Prop×I)
 | some ⟨_,sz,_,z⟩=>xIA4 sz z H iv x
 | none=>none
def xIA3 (n:Nat) (H:List R) (iv:D) (x:I):Option TI→Option (Prop×I)
 | some ⟨_,sz,_,z⟩=>xIA5 sz n H iv x
 | none=>none
def xIA1 (T:Nat→Option TI) (H:List R) (x:I):Option TI→I→Option (Prop×I)
 | some ⟨.slice e,_,_,_⟩,.d iv=>xIA2 H iv x (T e)
 | some ⟨.array n e,_,_,_⟩,.d iv=>xIA3 n H iv x (T e)
 | _,_=>none
@[go_sem] theorem qlN {t:Nat}{x ix:I}:qa9 T H t x ix=xIA1 T H x (T t) ix:=by
 unfold qa9
 cases T t with
 | none=>cases ix <;> rfl
 | some ti=>
  obtain⟨ty,sz,b,z⟩:=ti
  cases ix with
  | d iv=>
   cases ty with
   | slice e=>
    simp only[xIA1]
    cases T e with
    | none=>rfl
    | some ei=>
     obtain⟨ety,esz,eb,ez⟩:=ei
     simp only[xIA2]
     cases x <;> simp only[xIA4,←qam]
     rename_i i g k lo n
     cases H[i]? with
     | none=>rfl
     | some r=>cases r <;> rfl
   | array n e=>
    simp only[xIA1]
    cases T e with
    | none=>rfl
    | some ei=>
     obtain⟨ety,esz,eb,ez⟩:=ei
     simp only[xIA3]
     cases x <;> simp only[xIA5,←qam]
     ·rename_i i off
      cases H[i]? with
      | none=>rfl
      | some r=>cases r <;> rfl
     ·rename_i i g k idx o z'
      cases H[i]? with
      | none=>rfl
      | some r=>cases r <;> rfl
   | _=>rfl
  | _=>cases ty <;> rfl
@[go_sem] theorem xIA1_slice {x:I}{e:Nat}{iv:D}:xIA1 T H x (some ⟨.slice e,sz,b,z⟩) (.d iv)=xIA2 H iv x (T e):=rfl
@[go_sem] theorem xIA1_array {x:I}{n e:Nat}{iv:D}:xIA1 T H x (some ⟨.array n e,sz,b,z⟩) (.d iv)=xIA3 n H iv x (T e):=rfl
@[go_sem] theorem xIA2_s {x:I}{iv:D}:xIA2 H iv x (some ⟨ty,sz,b,z⟩)=xIA4 sz z H iv x:=rfl
@[go_sem] theorem xIA3_s {x:I}{n:Nat}{iv:D}:xIA3 n H iv x (some ⟨ty,sz,b,z⟩)=xIA5 sz n H iv x:=rfl
@[go_sem] theorem xIA4_d {xd iv:D}:xIA4 sz z H iv (.d xd)=some (xd.isLst sz∧iv.isInt .i64∧0≤iv.toInt∧iv.toInt<xd.elems.length,.d (.ptr (qab (xd.elems.getD iv.toInt.toNat z) 0 sz))):=rfl
def xIA6 (esz:Nat) (ez:D) (iv:D) (i g k lo n:Nat):Option (Nat×Nat)→Option (Prop×I)
 | some (g',k')=>some (g=g'∧k=k'∧k=esz∧iv.isInt .i64∧0≤iv.toInt∧iv.toInt<n,.eptr i g k (lo+iv.toInt.toNat) 0 ez)
 | none=>none
@[go_sem] theorem xIA4_sl {iv:D}{i g k lo n:Nat}:xIA4 sz z H iv (.sl i g k lo n)=xIA6 sz z iv i g k lo n (rowR (qaj H i)):=by
 simp only[xIA4];cases rowR (qaj H i) <;> rfl
@[go_sem] theorem xIA6_some {iv:D}{i g k lo n g' k':Nat}:xIA6 sz z iv i g k lo n (some (g',k'))=some (g=g'∧k=k'∧k=sz∧iv.isInt .i64∧0≤iv.toInt∧iv.toInt<n,.eptr i g k (lo+iv.toInt.toNat) 0 z):=rfl
@[go_sem] theorem xIA5_d {xd iv:D}{n:Nat}:xIA5 sz n H iv (.d xd)=some (xd.isPtr∧iv.isInt .i64∧0≤iv.toInt∧iv.toInt<n,.d (.ptr (xd.ptrs.drop (iv.toInt.toNat*sz)))):=rfl
@[go_sem] theorem xIA5_ptr {iv:D}{n i off:Nat}:xIA5 sz n H iv (.ptr i off)=if qgY (qaj H i)=true then some (iv.isInt .i64∧0≤iv.toInt∧iv.toInt<n,.ptr i (off+iv.toInt.toNat*sz)) else none:=rfl
def xIA7 (esz n:Nat) (iv:D) (i g k idx o:Nat) (z:D):Option (Nat×Nat)→Option (Prop×I)
 | some (g',k')=>some (g=g'∧k=k'∧iv.isInt .i64∧0≤iv.toInt∧iv.toInt<n,.eptr i g k idx (o+iv.toInt.toNat*esz) z)
 | none=>none
@[go_sem] theorem xIA5_eptr {iv:D}{n i g k idx o:Nat}{z':D}:xIA5 sz n H iv (.eptr i g k idx o z')=xIA7 sz n iv i g k idx o z' (rowR (qaj H i)):=by
 simp only[xIA5];cases rowR (qaj H i) <;> rfl
@[go_sem] theorem xIA7_some {iv:D}{n i g k idx o g' k':Nat}{z':D}:xIA7 sz n iv i g k idx o z' (some (g',k'))=some (g=g'∧k=k'∧iv.isInt .i64∧0≤iv.toInt∧iv.toInt<n,.eptr i g k idx (o+iv.toInt.toNat*sz) z'):=rfl
def qfc (agg:Bool) (ty:Ty) (sz off:Nat):I→Option (Prop×I)
 | .d xd=>match agg with
  | true=>some (off+sz≤xd.cells.length∧xd.one=false∧(∀ n,xd≠.tup n),.d (.agg (qab xd off sz)))
  | false=>some (off<xd.cells.length∧xd.one=false∧(∀ n,xd≠.tup n)∧tchk ty (xd.cellAt off),.d (tnorm ty (xd.cellAt off)))
 | .agg cs=>match agg with
  | true=>some (off+sz≤cs.length∧qa1 ((cs.drop off).take sz),mkAgg ((cs.drop off).take sz))
  | false=>some (off<cs.length∧qde ty (cs.getD off .junk),tnormI ty (cs.getD off .junk))
 | _=>none
def xF3 (off:Nat) (x:I):Option TI→Option (Prop×I)
 | some fi=>qfc fi.ty.agg fi.ty fi.size off x
 | none=>none
def xF2 (T:Nat→Option TI) (x:I):Option (Nat×Nat)→Option (Prop×I)
 | some (off,ft)=>xF3 off x (T ft)
 | none=>none
def xF1 (T:Nat→Option TI) (x:I) (f:Nat):Option TI→Option (Prop×I)
 | some ⟨.struct fs,_,_,_⟩=>xF2 T x (nthF fs f)
 | _=>none
theorem qhX {ti:TI}{off:Nat}{x:I}:qih ti off x=qfc ti.ty.agg ti.ty ti.size off x:=by
 unfold qih
 cases x <;> simp only[qfc] <;> cases ti.ty.agg <;> rfl
@[go_sem] theorem sField_eq {s f:Nat}{x:I}:qdJ T s x f=xF1 T x f (T s):=by
 unfold qdJ
 cases T s with
 | none=>rfl
 | some ti=>
  obtain⟨ty,sz,b,z⟩:=ti
  cases ty with
  | struct fs=>
   simp only[xF1,←qfb]
   cases fs[f]? with
   | none=>rfl
   | some p=>
    obtain⟨off,ft⟩:=p
    simp only[xF2]
    cases T ft with
    | none=>rfl
    | some fi=>simp only[xF3];exact qhX
  | _=>rfl
@[go_sem] theorem xF1_s {f:Nat}{x:I}{fs:List (Nat×Nat)}:xF1 T x f (some ⟨.struct fs,sz,b,z⟩)=xF2 T x (nthF fs f):=rfl
@[go_sem] theorem xF2_s {x:I}{off ft:Nat}:xF2 T x (some (off,ft))=xF3 off x (T ft):=rfl
@[go_sem] theorem xF3_s {x:I}{off:Nat}:xF3 off x (some ⟨ty,sz,b,z⟩)=qfc ty.agg ty sz off x:=rfl
@[go_sem] theorem xPart_dt {off:Nat}{xd:D}:qfc true ty sz off (.d xd)=some (off+sz≤xd.cells.length∧xd.one=false∧(∀ n,xd≠.tup n),.d (.agg (qab xd off sz))):=rfl
@[go_sem] theorem xPart_df {off:Nat}{xd:D}:qfc false ty sz off (.d xd)=some (off<xd.cells.length∧xd.one=false∧(∀ n,xd≠.tup n)∧tchk ty (xd.cellAt off),.d (tnorm ty (xd.cellAt off))):=rfl
@[go_sem] theorem xPart_at {off:Nat}{cs:List I}:qfc true ty sz off (.agg cs)=some (off+sz≤cs.length∧qa1 ((cs.drop off).take sz),mkAgg ((cs.drop off).take sz)):=rfl
@[go_sem] theorem xPart_af {off:Nat}{cs:List I}:qfc false ty sz off (.agg cs)=some (off<cs.length∧qde ty (cs.getD off .junk),tnormI ty (cs.getD off .junk)):=rfl
def xIx2 (n:Nat) (iv:D) (x:I):Option TI→Option (Prop×I)
 | some ei=>match qfc ei.ty.agg ei.ty ei.size (iv.toInt.toNat*ei.size) x with
  | some (vc,y)=>some (iv.isInt .i64∧0≤iv.toInt∧iv.toInt<n∧vc,y)
  | none=>none
 | none=>none
def xIxS (iv:D):I→Option (Prop×I)
 | .d (.raw (.string s))=>some (iv.isCnt∧0≤iv.toInt∧iv.toInt.toNat<s.size,.d (.int .u8 (qii s iv.toInt.toNat)))
 | _=>none
def xIx1 (T:Nat→Option TI) (x:I):Option TI→I→Option (Prop×I)
 | some ⟨.array n e,_,_,_⟩,.d iv=>xIx2 n iv x (T e)
 | some ⟨.string,_,_,_⟩,.d iv=>xIxS iv x
 | _,_=>none
@[go_sem] theorem xIxS_s {iv:D}{s:ByteArray}:xIxS iv (.d (.raw (.string s)))=some (iv.isCnt∧0≤iv.toInt∧iv.toInt.toNat<s.size,.d (.int .u8 (qii s iv.toInt.toNat))):=rfl
@[go_sem] theorem xIx1_str {x:I}{iv:D}:xIx1 T x (some ⟨.string,sz,b,z⟩) (.d iv)=xIxS iv x:=rfl
@[go_sem] theorem sIndex_eq {t:Nat}{x ix:I}:qdK T t x ix=xIx1 T x (T t) ix:=by
 unfold qdK
 cases T t with
 | none=>cases ix <;> rfl
 | some ti=>
  obtain⟨ty,sz,b,z⟩:=ti
  cases ix with
  | d iv=>
   cases ty with
   | array n e=>
    simp only[xIx1]
    cases T e with
    | none=>rfl
    | some ei=>simp only[xIx2,qhX];rfl
   | string=>cases x <;> first|rfl|(rename_i xd;cases xd <;> first|rfl|(rename_i v;cases v <;> rfl))
   | _=>rfl
  | _=>cases ty <;> rfl
@[go_sem] theorem xIx1_a {x:I}{n e:Nat}{iv:D}:xIx1 T x (some ⟨.array n e,sz,b,z⟩) (.d iv)=xIx2 n iv x (T e):=rfl
def andX (iv:D) (n:Nat):Option (Prop×I)→Option (Prop×I)
 | some (vc,y)=>some (iv.isInt .i64∧0≤iv.toInt∧iv.toInt<n∧vc,y)
 | none=>none
@[go_sem] theorem andX_some {iv:D}{n:Nat}{vc:Prop}{y:I}:andX iv n (some (vc,y))=some (iv.isInt .i64∧0≤iv.toInt∧iv.toInt<n∧vc,y):=rfl
@[go_sem] theorem xIx2_s {x:I}{n:Nat}{iv:D}:xIx2 n iv x (some ⟨ty,sz,b,z⟩)=andX iv n (qfc ty.agg ty sz (iv.toInt.toNat*sz) x):=by
 simp only[xIx2];cases qfc ty.agg ty sz (iv.toInt.toNat*sz) x <;> rfl
@[go_sem] theorem optI_none {d:Int}:optI none d=some d:=rfl
@[go_sem] theorem optI_some {x:D}{d:Int}:optI (some (.d x)) d=some x.toInt:=rfl
@[go_sem] theorem optC_none:optC none=True:=rfl
@[go_sem] theorem optC_some {x:D}:optC (some (.d x))=x.isInt .i64:=rfl
def xSl4 (esz:Nat) (xd:D) (c:Prop):Option Int→Option Int→Option (Prop×I)
 | some l,some h=>some (xd.isLst esz∧c∧0<esz∧0≤l∧l≤h∧h≤xd.elems.length,.d (slD esz xd l h))
 | _,_=>none
def xSl5 (esz:Nat) (i g k l0 n:Nat) (c:Prop):Option (Nat×Nat)→Option Int→Option Int→Option (Prop×I)
 | some (g',k'),some l,some h=>some (g=g'∧k=k'∧k=esz∧c∧0≤l∧l≤h∧h≤n,.sl i g k (l0+l.toNat) (h-l).toNat)
 | _,_,_=>none
def xSl3 (esz:Nat) (H:List R) (lo hi:Option I):I→Option (Prop×I)
 | .d xd=>xSl4 esz xd (optC lo∧optC hi) (optI lo 0) (optI hi xd.elems.length)
 | .sl i g k l0 n=>xSl5 esz i g k l0 n (optC lo∧optC hi) (rowR (qaj H i)) (optI lo 0) (optI hi n)
 | _=>none
def xSl2 (H:List R) (lo hi:Option I) (x:I):Option TI→Option (Prop×I)
 | some ei=>xSl3 ei.size H lo hi x
 | none=>none
def xSl1 (T:Nat→Option TI) (H:List R) (lo hi:Option I) (x:I):Option TI→Option I→Option (Prop×I)
 | some ⟨.slice e,_,_,_⟩,none=>xSl2 H lo hi x (T e)
 | _,_=>none
@[go_sem] theorem sSlice_eq {t:Nat}{x:I}{lo hi mx:Option I}:qdL T H t x lo hi mx=xSl1 T H lo hi x (T t) mx:=by
 unfold qdL
 cases T t with
 | none=>cases mx <;> rfl
 | some ti=>
  obtain⟨ty,sz,b,z⟩:=ti
  cases mx with
  | some m=>cases ty <;> rfl
  | none=>
   cases ty with
   | slice e=>
    simp only[xSl1]
    cases T e with
    | none=>rfl
    | some ei=>
     simp only[xSl2]
     cases x <;> simp only[xSl3,←qam]
     ·rename_i xd
      cases optI lo 0 <;> cases optI hi xd.elems.length <;> simp only[xSl4,and_assoc]
     ·rename_i i g k l0 n
      cases H[i]? with
      | none=>cases optI lo 0 <;> cases optI hi n <;> rfl
      | some r=>
       cases r <;> cases optI lo 0 <;> cases optI hi n <;> simp only[rowR,xSl5,and_assoc]
   | _=>rfl
@[go_sem] theorem xSl1_s {x:I}{lo hi:Option I}{e:Nat}:xSl1 T H lo hi x (some ⟨.slice e,sz,b,z⟩) none=xSl2 H lo hi x (T e):=rfl
@[go_sem] theorem xSl2_s {x:I}{lo hi:Option I}:xSl2 H lo hi x (some ⟨ty,sz,b,z⟩)=xSl3 sz H lo hi x:=rfl
@[go_sem] theorem xSl3_d {xd:D}{lo hi:Option I}:xSl3 sz H lo hi (.d xd)=xSl4 sz xd (optC lo∧optC hi) (optI lo 0) (optI hi xd.elems.length):=rfl
@[go_sem] theorem xSl3_sl {i g k l0 n:Nat}{lo hi:Option I}:xSl3 sz H lo hi (.sl i g k l0 n)=xSl5 sz i g k l0 n (optC lo∧optC hi) (rowR (qaj H i)) (optI lo 0) (optI hi n):=rfl
@[go_sem] theorem slD_nil {k:Nat}{l h:Int}:slD k .nil l h=.nil:=rfl
@[go_sem] theorem slD_lst {k k':Nat}{L:List D}{l h:Int}:slD k (.lst k' L) l h=.lst k ((L.drop l.toNat).take (h-l).toNat):=rfl
@[go_sem] theorem xSl4_s {xd:D}{c:Prop}{l h:Int}:xSl4 sz xd c (some l) (some h)=some (xd.isLst sz∧c∧0<sz∧0≤l∧l≤h∧h≤xd.elems.length,.d (slD sz xd l h)):=rfl
@[go_sem] theorem xSl5_s {i g k l0 n g' k':Nat}{c:Prop}{l h:Int}:xSl5 sz i g k l0 n c (some (g',k')) (some l) (some h)=some (g=g'∧k=k'∧k=sz∧c∧0≤l∧l≤h∧h≤n,.sl i g k (l0+l.toNat) (h-l).toNat):=rfl
def eqB (x y:Int):Bool:=decide (x=y)
def ltB (x y:Int):Bool:=decide (x<y)
def leB (x y:Int):Bool:=decide (x≤y)
@[go_sem] theorem eqB_eq {x y:Int}:eqB x y=decide (x=y):=rfl
@[go_sem] theorem ltB_eq {x y:Int}:ltB x y=decide (x<y):=rfl
@[go_sem] theorem leB_eq {x y:Int}:leB x y=decide (x≤y):=rfl
def pickB (c x y:Bool):Bool:=if c=true then x else y
@[go_sem] theorem pickB_l {c y:Bool}:pickB c true y=(c || y):=by cases c <;> rfl
@[go_sem] theorem pickB_r {c x:Bool}:pickB c x false=(c&&x):=by cases c <;> rfl
def minI (x y:Int):Int:=if y<x then y else x
def maxI (x y:Int):Int:=if x<y then y else x
@[go_sem] theorem minI_eq {x y:Int}:minI x y=min x y:=by unfold minI;omega
@[go_sem] theorem maxI_eq {x y:Int}:maxI x y=max x y:=by unfold maxI;omega
def xBI (op:BinOp) (k:IntKind) (x y:D):Option (Prop×I):=
 match op with
 | .add=>some (x.isInt k∧y.isInt k∧InK k (x.toInt+y.toInt),.d (.int k (x.toInt+y.toInt)))
 | .sub=>some (x.isInt k∧y.isInt k∧InK k (x.toInt-y.toInt),.d (.int k (x.toInt-y.toInt)))
 | .mul=>some (x.isInt k∧y.isInt k∧InK k (x.toInt*y.toInt),.d (.int k (x.toInt*y.toInt)))
 | .quo=>some (x.isInt k∧y.isInt k∧0≤x.toInt∧0<y.toInt,.d (.int k (x.toInt/y.toInt)))
 | .rem=>some (x.isInt k∧y.isInt k∧0<y.toInt,.d (.int k (remV x.toInt y.toInt)))
 | .and=>some (x.isInt k∧y.isInt k∧0≤x.toInt∧0≤y.toInt,.d (.int k ((x.toInt.toNat &&& y.toInt.toNat:Nat):Int)))
 | .or=>some (x.isInt k∧y.isInt k∧0≤x.toInt∧0≤y.toInt,.d (.int k ((x.toInt.toNat ||| y.toInt.toNat:Nat):Int)))
 | .xor=>some (x.isInt k∧y.isInt k∧0≤x.toInt∧0≤y.toInt,.d (.int k ((x.toInt.toNat ^^^ y.toInt.toNat:Nat):Int)))
 | .shl=>some (x.isInt k∧y.isCnt∧0≤y.toInt∧y.toInt≤k.bits∧InK k (x.toInt*2 ^ y.toInt.toNat),.d (.int k (x.toInt*2 ^ y.toInt.toNat)))
 | .shr=>some (x.isInt k∧y.isCnt∧0≤y.toInt∧y.toInt≤k.bits,.d (.int k (x.toInt/2 ^ y.toInt.toNat)))
 | .eql=>some (x.isInt k∧y.isInt k,.d (.bool (eqB x.toInt y.toInt)))
 | .neq=>some (x.isInt k∧y.isInt k,.d (.bool (!eqB x.toInt y.toInt)))
 | .lss=>some (x.isInt k∧y.isInt k,.d (.bool (ltB x.toInt y.toInt)))
 | .leq=>some (x.isInt k∧y.isInt k,.d (.bool (leB x.toInt y.toInt)))
 | .gtr=>some (x.isInt k∧y.isInt k,.d (.bool (ltB y.toInt x.toInt)))
 | .geq=>some (x.isInt k∧y.isInt k,.d (.bool (leB y.toInt x.toInt)))
 | _=>none
def xBB (op:BinOp) (x y:D):Option (Prop×I):=
 match op with
 | .eql=>some (x.isBool∧y.isBool,.d (.bool (x.toBool == y.toBool)))
 | .neq=>some (x.isBool∧y.isBool,.d (.bool (!(x.toBool == y.toBool))))
 | _=>none
def xBS (op:BinOp) (x:D):Option (Prop×I):=
 match op with
 | .eql=>some (x.isSl∧(x=.nil∨x.elems≠[]),.d (.bool x.isNil))
 | .neq=>some (x.isSl∧(x=.nil∨x.elems≠[]),.d (.bool (!x.isNil)))
 | _=>none
def xBL (op:BinOp) (g k n:Nat):Option (Nat×Nat)→Option (Prop×I)
 | some (g',k')=>match op with
  | .eql=>some (g=g'∧k=k'∧0<n,.d (.bool false))
  | .neq=>some (g=g'∧k=k'∧0<n,.d (.bool true))
  | _=>none
 | none=>none
def xBA (T:Nat→Option TI) (fs:List (Nat×Nat)) (cs ds:List D):BinOp→Option (Prop×I)
 | .eql=>some (cs.length=fs.length∧ds.length=fs.length∧qcG T 0 fs cs ds,.d (.bool (qdM T fs cs ds)))
 | .neq=>some (cs.length=fs.length∧ds.length=fs.length∧qcG T 0 fs cs ds,.d (.bool (!(qdM T fs cs ds))))
 | _=>none
@[go_sem] theorem isCnt_int {k:IntKind}{n:Int}:(D.int k n).isCnt=True:=rfl
def xBT (a b:ByteArray):BinOp→Option (Prop×I)
 | .eql=>some (True,.d (.bool (a.toList == b.toList)))
 | .neq=>some (True,.d (.bool (!(a.toList == b.toList))))
 | _=>none
@[go_sem] theorem xBT_eql {a b:ByteArray}:xBT a b .eql=some (True,.d (.bool (a.toList == b.toList))):=rfl
@[go_sem] theorem xBT_neq {a b:ByteArray}:xBT a b .neq=some (True,.d (.bool (!(a.toList == b.toList)))):=rfl
def xBin (T:Nat→Option TI) (H:List R) (op:BinOp) (x y:I):Option TI→Option (Prop×I)
 | some ⟨.int k,_,_,_⟩=>match x,y with
  | .d x,.d y=>xBI op k x y
  | _,_=>none
 | some ⟨.bool,_,_,_⟩=>match x,y with
  | .d x,.d y=>xBB op x y
  | _,_=>none
 | some ⟨.slice _,_,_,_⟩=>match x,y with
  | .d x,.d .nil=>xBS op x
  | .sl i g k lo n,.d .nil=>xBL op g k n (rowR (qaj H i))
  | _,_=>none
 | some ⟨.struct fs,_,_,_⟩=>match x,y with
  | .d (.agg cs),.d (.agg ds)=>xBA T fs cs ds op
  | _,_=>none
 | some ⟨.string,_,_,_⟩=>match x,y with
  | .d (.raw (.string a)),.d (.raw (.string b))=>xBT a b op
  | _,_=>none
 | _=>none
@[go_sem] theorem sBin_eq {op:BinOp}{t:Nat}{x y:I}:sBin T H op t x y=xBin T H op x y (T t):=by
 unfold sBin
 cases T t with
 | none=>rfl
 | some ti=>
  obtain⟨ty,sz,b,z⟩:=ti
  cases ty with
  | int k=>cases x <;> cases y <;> rfl
  | bool=>cases x <;> cases y <;> rfl
  | slice e=>
   cases x <;> cases y <;> first
    | rfl
    | (rename_i yd;cases yd <;> first|rfl|skip)
   rename_i i g k lo n
   simp only[xBin,←qam]
   cases H[i]? with
   | none=>rfl
   | some r=>cases r <;> rfl
  | struct fs=>
   cases x with
   | d xd=>
    cases y with
    | d yd=>cases xd <;> cases yd <;> first|rfl|(cases op <;> rfl)
    | _=>cases xd <;> rfl
   | _=>cases y <;> first|rfl|(rename_i yd;cases yd <;> rfl)
  | string=>
   cases x with
   | d xd=>
    cases y with
    | d yd=>
     cases xd with
     | raw v=>
      cases v with
      | string a=>
       cases yd with
       | raw u=>
        cases u with
        | string c=>cases op <;> rfl
        | _=>rfl
       | _=>rfl
      | _=>rfl
     | _=>rfl
    | _=>
     cases xd with
     | raw v=>cases v <;> rfl
     | _=>rfl
   | _=>cases y <;> rfl
  | _=>rfl
@[go_sem] theorem xBin_struct {op:BinOp}{fs:List (Nat×Nat)}{cs ds:List D}:xBin T H op (.d (.agg cs)) (.d (.agg ds)) (some ⟨.struct fs,sz,b,z⟩)=xBA T fs cs ds op:=rfl
@[go_sem] theorem xBA_eql {fs:List (Nat×Nat)}{cs ds:List D}:xBA T fs cs ds .eql=some (cs.length=fs.length∧ds.length=fs.length∧qcG T 0 fs cs ds,.d (.bool (qdM T fs cs ds))):=rfl
@[go_sem] theorem xBA_neq {fs:List (Nat×Nat)}{cs ds:List D}:xBA T fs cs ds .neq=some (cs.length=fs.length∧ds.length=fs.length∧qcG T 0 fs cs ds,.d (.bool (!(qdM T fs cs ds)))):=rfl
@[go_sem] theorem allI64_nil {j:Nat}:qdh T j []=True:=rfl
@[go_sem] theorem allI64_cons {j o t:Nat}{r:List (Nat×Nat)}:qdh T j ((o,t)::r)=(o=j∧qev (T t)=true∧qdh T (j+1) r):=rfl
@[go_sem] theorem isI64_s {a c:Nat}{zz:D}:qev (some ⟨.int .i64,a,c,zz⟩)=true:=rfl
@[go_sem] theorem allSc_nil {j:Nat}{xs ys:List D}:qcG T j [] xs ys=True:=by simp only[qcG]
@[go_sem] theorem allSc_cons {j o t:Nat}{r:List (Nat×Nat)}{x y:D}{xs ys:List D}:qcG T j ((o,t)::r) (x::xs) (y::ys)=(o=j∧scOk (T t) x y∧qcG T (j+1) r xs ys):=rfl
@[go_sem] theorem scOk_i {a c:Nat}{zz x y:D}:scOk (some ⟨.int .i64,a,c,zz⟩) x y=(x.isInt .i64∧y.isInt .i64):=rfl
@[go_sem] theorem scOk_b {a c:Nat}{zz x y:D}:scOk (some ⟨.bool,a,c,zz⟩) x y=(x.isBool∧y.isBool):=rfl
@[go_sem] theorem eqScs_nil {xs ys:List D}:qdM T [] xs ys=true:=by simp only[qdM]
@[go_sem] theorem eqScs_cons {o t:Nat}{r:List (Nat×Nat)}{x y:D}{xs ys:List D}:qdM T ((o,t)::r) (x::xs) (y::ys)=(scEq (T t) x y&&qdM T r xs ys):=rfl
@[go_sem] theorem scEq_i {a c:Nat}{zz x y:D}:scEq (some ⟨.int .i64,a,c,zz⟩) x y=decide (x.toInt=y.toInt):=rfl
@[go_sem] theorem scEq_b {a c:Nat}{zz x y:D}:scEq (some ⟨.bool,a,c,zz⟩) x y=(x.toBool == y.toBool):=rfl
@[go_sem] theorem qm9:intCells []=True:=rfl
@[go_sem] theorem qlO {x:D}{r:List D}:intCells (x::r)=(x.isInt .i64∧intCells r):=rfl
@[go_sem] theorem eqInts_nil:qbF [] []=true:=rfl
@[go_sem] theorem eqInts_cons {x y:D}{r s:List D}:qbF (x::r) (y::s)=(decide (x.toInt=y.toInt)&&qbF r s):=rfl
@[go_sem] theorem xBin_int {op:BinOp}{k:IntKind}{x y:D}:xBin T H op (.d x) (.d y) (some ⟨.int k,sz,b,z⟩)=xBI op k x y:=rfl
@[go_sem] theorem xBin_bool {op:BinOp}{x y:D}:xBin T H op (.d x) (.d y) (some ⟨.bool,sz,b,z⟩)=xBB op x y:=rfl
@[go_sem] theorem xBin_slice {op:BinOp}{e:Nat}{x:D}:xBin T H op (.d x) (.d .nil) (some ⟨.slice e,sz,b,z⟩)=xBS op x:=rfl
@[go_sem] theorem xBin_sl {op:BinOp}{e i g k lo n:Nat}:xBin T H op (.sl i g k lo n) (.d .nil) (some ⟨.slice e,sz,b,z⟩)=xBL op g k n (rowR (qaj H i)):=rfl
section
variable {k:IntKind}{x y:D}
@[go_sem] theorem xBI_add:xBI .add k x y=some (x.isInt k∧y.isInt k∧InK k (x.toInt+y.toInt),.d (.int k (x.toInt+y.toInt))):=rfl
@[go_sem] theorem xBI_sub:xBI .sub k x y=some (x.isInt k∧y.isInt k∧InK k (x.toInt-y.toInt),.d (.int k (x.toInt-y.toInt))):=rfl
@[go_sem] theorem xBI_mul:xBI .mul k x y=some (x.isInt k∧y.isInt k∧InK k (x.toInt*y.toInt),.d (.int k (x.toInt*y.toInt))):=rfl
@[go_sem] theorem xBI_quo:xBI .quo k x y=some (x.isInt k∧y.isInt k∧0≤x.toInt∧0<y.toInt,.d (.int k (x.toInt/y.toInt))):=rfl
@[go_sem] theorem xBI_rem:xBI .rem k x y=some (x.isInt k∧y.isInt k∧0<y.toInt,.d (.int k (remV x.toInt y.toInt))):=rfl
@[go_sem] theorem xBI_and:xBI .and k x y=some (x.isInt k∧y.isInt k∧0≤x.toInt∧0≤y.toInt,.d (.int k ((x.toInt.toNat &&& y.toInt.toNat:Nat):Int))):=rfl
@[go_sem] theorem xBI_or:xBI .or k x y=some (x.isInt k∧y.isInt k∧0≤x.toInt∧0≤y.toInt,.d (.int k ((x.toInt.toNat ||| y.toInt.toNat:Nat):Int))):=rfl
@[go_sem] theorem xBI_xor:xBI .xor k x y=some (x.isInt k∧y.isInt k∧0≤x.toInt∧0≤y.toInt,.d (.int k ((x.toInt.toNat ^^^ y.toInt.toNat:Nat):Int))):=rfl
@[go_sem] theorem xBI_shl:xBI .shl k x y=some (x.isInt k∧y.isCnt∧0≤y.toInt∧y.toInt≤k.bits∧InK k (x.toInt*2 ^ y.toInt.toNat),.d (.int k (x.toInt*2 ^ y.toInt.toNat))):=rfl
@[go_sem] theorem xBI_shr:xBI .shr k x y=some (x.isInt k∧y.isCnt∧0≤y.toInt∧y.toInt≤k.bits,.d (.int k (x.toInt/2 ^ y.toInt.toNat))):=rfl
@[go_sem] theorem xBI_eql:xBI .eql k x y=some (x.isInt k∧y.isInt k,.d (.bool (eqB x.toInt y.toInt))):=rfl
@[go_sem] theorem xBI_neq:xBI .neq k x y=some (x.isInt k∧y.isInt k,.d (.bool (!eqB x.toInt y.toInt))):=rfl
@[go_sem] theorem xBI_lss:xBI .lss k x y=some (x.isInt k∧y.isInt k,.d (.bool (ltB x.toInt y.toInt))):=rfl
@[go_sem] theorem xBI_leq:xBI .leq k x y=some (x.isInt k∧y.isInt k,.d (.bool (leB x.toInt y.toInt))):=rfl
@[go_sem] theorem xBI_gtr:xBI .gtr k x y=some (x.isInt k∧y.isInt k,.d (.bool (ltB y.toInt x.toInt))):=rfl
@[go_sem] theorem xBI_geq:xBI .geq k x y=some (x.isInt k∧y.isInt k,.d (.bool (leB y.toInt x.toInt))):=rfl
@[go_sem] theorem xBB_eql:xBB .eql x y=some (x.isBool∧y.isBool,.d (.bool (x.toBool == y.toBool))):=rfl
@[go_sem] theorem xBB_neq:xBB .neq x y=some (x.isBool∧y.isBool,.d (.bool (!(x.toBool == y.toBool)))):=rfl
@[go_sem] theorem xBS_eql:xBS .eql x=some (x.isSl∧(x=.nil∨x.elems≠[]),.d (.bool x.isNil)):=rfl
@[go_sem] theorem xBS_neq:xBS .neq x=some (x.isSl∧(x=.nil∨x.elems≠[]),.d (.bool (!x.isNil))):=rfl
@[go_sem] theorem xBL_eql {g k n g' k':Nat}:xBL .eql g k n (some (g',k'))=some (g=g'∧k=k'∧0<n,.d (.bool false)):=rfl
@[go_sem] theorem xBL_neq {g k n g' k':Nat}:xBL .neq g k n (some (g',k'))=some (g=g'∧k=k'∧0<n,.d (.bool true)):=rfl
end
@[go_sem] theorem sUn_not {x:D}:sUn .not (.d x)=some (x.isBool,.d (.bool (!x.toBool))):=rfl
@[go_sem] theorem sUn_neg {x:D}:sUn .neg (.d x)=some (x.isInt .i64∧InK .i64 (- x.toInt),.d (.int .i64 (- x.toInt))):=rfl
@[go_sem] theorem sMM_min {x y:D}:sMM .min (.d x) (.d y)=some (x.isInt .i64∧y.isInt .i64,.d (.int .i64 (minI x.toInt y.toInt))):=rfl
@[go_sem] theorem sMM_max {x y:D}:sMM .max (.d x) (.d y)=some (x.isInt .i64∧y.isInt .i64,.d (.int .i64 (maxI x.toInt y.toInt))):=rfl
@[go_sem] theorem qna {vs:List I}{j:Nat}:qbG (.tup vs) j=some (j<vs.length,vs.getD j .junk):=rfl
@[go_sem] theorem sExtract_d {x:D}{j:Nat}:qbG (.d x) j=some (x.isTup x.tupLen∧j<x.tupLen,.d (x.tupAt j)):=rfl
@[go_sem] theorem sPick_d {c x y:D}{ca cb:Prop}:qhi (.d c) (.d x) (.d y) ca cb=some (c.isBool∧(c.toBool=true→ca∧x.isBool)∧(c.toBool=false→cb∧y.isBool),.d (.bool (pickB c.toBool x.toBool y.toBool))):=rfl
@[go_sem] theorem sNil_d {x:D}:sNil H (.d x)=some (x.isPtr,.d x):=rfl
@[go_sem] theorem sNil_ptr {i o:Nat}:sNil H (.ptr i o)=if qgY (qaj H i)=true then some (True,.ptr i o) else none:=by
 simp only[sNil,qam]
 cases qaj H i with
 | none=>rfl
 | some r=>cases r <;> rfl
def xNilE (x:I) (g k:Nat):Option R→Option (Prop×I)
 | some (.row g' k' _ _)=>some (g'=g∧k'=k,x)
 | _=>none
@[go_sem] theorem xNilE_row {x:I}{g k g' k':Nat}{dp:DP}{l:List D}:xNilE x g k (some (.row g' k' dp l))=some (g'=g∧k'=k,x):=rfl
@[go_sem] theorem sNil_eptr {i g k idx off:Nat}{z:D}:sNil H (.eptr i g k idx off z)=xNilE (.eptr i g k idx off z) g k (qaj H i):=by
 simp only[sNil,qam]
 cases qaj H i with
 | none=>rfl
 | some r=>cases r <;> rfl
def qhY (x:D):Option TI→Option (Prop×I)
 | some ⟨.int .u8,_,_,_⟩=>some (isUs x,.d (.raw (.string (bsOf (usOf x)))))
 | _=>none
def xConv (T:Nat→Option TI) (x:I):Option TI→Option TI→Option (Prop×I)
 | some ⟨.int k,_,_,_⟩,some ⟨.int k',_,_,_⟩=>match x with
  | .d xd=>some (xd.isInt k∧cvC k' xd.toInt,.d (.int k' (cvV k' xd.toInt)))
  | _=>none
 | some ⟨.slice e,_,_,_⟩,some ⟨.string,_,_,_⟩=>match x with
  | .d xd=>qhY xd (T e)
  | _=>none
 | _,_=>none
theorem qjK {e:Nat}{x:D}:qhO T e x=qhY x (T e):=by
 unfold qhO
 cases T e with
 | none=>rfl
 | some ei=>
  obtain⟨ty,sz,b,z⟩:=ei
  cases ty with
  | int k=>cases k <;> rfl
  | _=>rfl
@[go_sem] theorem sConv_eq {s d:Nat}{x:I}:qf5 T s d x=xConv T x (T s) (T d):=by
 unfold qf5
 cases T s with
 | none=>cases T d <;> cases x <;> rfl
 | some si=>
  obtain⟨ty,sz,b,z⟩:=si
  cases T d with
  | none=>cases ty <;> cases x <;> rfl
  | some di=>
   obtain⟨ty',sz',b',z'⟩:=di
   cases ty <;> cases ty' <;> cases x <;> first|rfl|exact qjK
@[go_sem] theorem xConvS_u8 {x:D}{sz b:Nat}{z:D}:qhY x (some ⟨.int .u8,sz,b,z⟩)=some (isUs x,.d (.raw (.string (bsOf (usOf x))))):=rfl
@[go_sem] theorem xConv_str {xd:D}{e sz' b':Nat}{z':D}:xConv T (.d xd) (some ⟨.slice e,sz,b,z⟩) (some ⟨.string,sz',b',z'⟩)=qhY xd (T e):=rfl
@[go_sem] theorem xConv_d {xd:D}{k k':IntKind}{sz' b':Nat}{z':D}:xConv T (.d xd) (some ⟨.int k,sz,b,z⟩) (some ⟨.int k',sz',b',z'⟩)=some (xd.isInt k∧cvC k' xd.toInt,.d (.int k' (cvV k' xd.toInt))):=rfl
@[go_sem] theorem cvC_i64 {n:Int}:cvC .i64 n=InK .i64 n:=rfl
@[go_sem] theorem cvV_i64 {n:Int}:cvV .i64 n=n:=rfl
@[go_sem] theorem cvC_u8 {n:Int}:cvC .u8 n=True:=rfl
@[go_sem] theorem cvV_u8 {n:Int}:cvV .u8 n=n%256:=rfl
@[go_sem] theorem cvC_u64 {n:Int}:cvC .u64 n=InK .u64 n:=rfl
@[go_sem] theorem cvV_u64 {n:Int}:cvV .u64 n=n:=rfl
def xCap (x:I):Option TI→Option (Prop×I)
 | some ⟨.slice _,_,_,_⟩=>match x with
  | .d .nil=>some (True,.d (.int .i64 0))
  | _=>none
 | _=>none
@[go_sem] theorem sCap_eq {t:Nat}{x:I}:sCap T t x=xCap x (T t):=by
 unfold sCap
 cases T t with
 | none=>rfl
 | some ti=>
  obtain⟨ty,sz,b,z⟩:=ti
  cases ty <;> cases x <;> first|rfl|(rename_i xd;cases xd <;> rfl)
@[go_sem] theorem xCap_n {e:Nat}:xCap (.d .nil) (some ⟨.slice e,sz,b,z⟩)=some (True,.d (.int .i64 0)):=rfl
def xLenS (g k n:Nat):Option (Nat×Nat)→Option (Prop×I)
 | some (g',k')=>some (g=g'∧k=k',.d (.int .i64 (n:Nat)))
 | none=>none
def xLen (H:List R) (x:I):Option TI→Option (Prop×I)
 | some ⟨.slice _,_,_,_⟩=>match x with
  | .d xd=>some (xd.isSl,.d (.int .i64 (xd.elems.length:Nat)))
  | .sl i g k lo n=>xLenS g k n (rowR (qaj H i))
  | _=>none
 | some ⟨.array n _,_,_,_⟩=>some (InK .i64 n,.d (.int .i64 (n:Nat)))
 | _=>none
@[go_sem] theorem sLen_eq {t:Nat}{x:I}:sLen T H t x=xLen H x (T t):=by
 unfold sLen
 cases T t with
 | none=>rfl
 | some ti=>
  obtain⟨ty,sz,b,z⟩:=ti
  cases ty with
  | slice e=>
   cases x <;> simp only[xLen,←qam]
   rename_i i g k lo n
   cases H[i]? with
   | none=>rfl
   | some r=>cases r <;> rfl
  | _=>rfl
@[go_sem] theorem xLen_d {xd:D}{e:Nat}:xLen H (.d xd) (some ⟨.slice e,sz,b,z⟩)=some (xd.isSl,.d (.int .i64 (xd.elems.length:Nat))):=rfl
@[go_sem] theorem xLen_sl {i g k lo n e:Nat}:xLen H (.sl i g k lo n) (some ⟨.slice e,sz,b,z⟩)=xLenS g k n (rowR (qaj H i)):=rfl
@[go_sem] theorem xLen_a {x:I}{n e:Nat}:xLen H x (some ⟨.array n e,sz,b,z⟩)=some (InK .i64 n,.d (.int .i64 (n:Nat))):=rfl
@[go_sem] theorem xLenS_some {g k n g' k':Nat}:xLenS g k n (some (g',k'))=some (g=g'∧k=k',.d (.int .i64 (n:Nat))):=rfl
end Go.VL

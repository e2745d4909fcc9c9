/- Part 20: the rewriting rules by which the machine runs. Conditions: none; lemmas. -/
import Derived.Test.YteikeianenfhaaaGreatVM4
import Derived.Attr
set_option linter.unusedVariables false
set_option linter.unusedSimpArgs false
set_option maxHeartbeats 2000000
namespace Go.VL
set_option linter.defProp false
variable {c x y:Operand}{ops:Array Oper}{r:List (Nat×Operand)}{e b ok:Bool}{vc gc fc:Prop}{fn:Option (Nat×List I)}{args:List Operand}{op:BinOp}{o o2:Option (Prop×I×List R)}{z:Option (Prop×Fr×List R)}{k:Fr->List R->Option (Prop×I×List R)}{deep:LitM}{t yt s t' u:TypeId}{n i g k' g':Nat}{cs:List I}{lo hi mx:Option Operand}{parts p:Array (Nat×Operand)}{ts:Array TypeId}{m:List (Nat×I)}{α:Type}{l xs ds:List D}{dp:DP}{pf:Nat->Kind}{gd:Option (Nat×Bool)}
variable {E:Env}{Q:Post}{fr:Fr}{H:List R}{f:Nat}{ks:List Item}{all rest:List Oper}{dst:Option Tmp}{ty:TypeId}{pos:String}{af:Array Edge}{T:Nat->Option TI}
@[go_sem] def zaa:exec E (f+1) [] Q fr H=Q .normal fr H:=by simp only[exec]
@[go_sem] def zab {id:Nat}:exec E (f+1) (.blk id::ks) Q fr H=exec E f ks Q fr H:=by simp only[exec]
@[go_sem] def zac {c:Code}:exec E (f+1) (.code c::ks) Q fr H=qa5 E f c ks Q fr H:=by simp only[exec]
@[go_sem] def zad:qa5 E (f+1) .skip ks Q fr H=exec E f ks Q fr H:=by simp only[qa5]
@[go_sem] def zae {x y:Code}:qa5 E (f+1) (.seq x y) ks Q fr H=qa5 E f x (.code y::ks) Q fr H:=by simp only[qa5]
@[go_sem] def zaf {id:Nat}{x:Code}:qa5 E (f+1) (.block id x) ks Q fr H=qa5 E f x (.blk id::ks) Q fr H:=by simp only[qa5]
@[go_sem] def zag {id:Nat}:qa5 E (f+1) (.exit id) ks Q fr H=qdo E f (exK id ks) id ks Q fr H:=by simp only[qa5]
@[go_sem] def zah:qa5 E (f+1) .ret ks Q fr H=Q .ret fr H:=by simp only[qa5]
@[go_sem] def zai {x y:Code}:qa5 E (f+1) (.cond c x y) ks Q fr H=qml E f (ev fr c) x y ks Q fr H:=by simp only[qa5]
@[go_sem] def qr4 {id:Nat}:qa5 E (f+1) (.region id ops false) ks Q fr H=ops' E f ops.toList ops.toList ks Q fr H:=by simp only[qa5]
@[go_sem] def zaj {id:Nat}:qa5 E (f+1) (.region id ops true) ks Q fr H=(if(quiet E.T ops.toList&&qgR E.pf ops.toList)=true then E.P.follows .mixedOrders=true/\Region.lexB .any ops=true/\opsQ E ops.toList H (fun fr'=>exec E f ks Q fr' H) ops.toList fr else iwp E.P E.n (.region id ops true) (qbR E ks Q) fr H):=by simp only[qa5]
@[go_sem] def zak {c:Code}:qa5 E (f+1) (.loop c) ks Q fr H=iwp E.P E.n (.loop c) (qbR E ks Q) fr H:=by simp only[qa5]
@[go_sem] def zal {id:Nat}:exK id []=none:=rfl
@[go_sem] def zam {id:Nat}{c:Code}:exK id (.code c::ks)=exK id ks:=rfl
@[go_sem] def zan {id id':Nat}:exK id (.blk id'::ks)=if id=id' then some ks else exK id ks:=rfl
@[go_sem] def zao {id:Nat}{ks':List Item}:qdo E (f+1) (some ks') id ks Q fr H=exec E f ks' Q fr H:=by simp only[qdo]
@[go_sem] def zap {id:Nat}:qdo E (f+1) none id ks Q fr H=Q (.exit id) fr H:=by simp only[qdo]
@[go_sem] def zaq {d:D}{x y:Code}:qml E (f+1) (.d d) x y ks Q fr H=(d.isBool/\(d.toBool=true->qa5 E f x ks Q fr H)/\(d.toBool=false->qa5 E f y ks Q fr H)):=by simp only[qml]
@[go_sem] def zar:ops' E (f+1) all [] ks Q fr H=exec E f ks Q fr H:=by simp only[ops']
@[go_sem] def zas {r:I}:opsK E (f+1) all rest ks Q fr dst r H=ops' E f all rest ks Q (fr.put dst r) H:=by simp only[opsK]
@[go_sem] def zat {r:I}:opsG E (f+1) all rest ks Q fr dst H r=ops' E f all rest ks Q (fr.put dst r) H:=by simp only[opsG]
@[go_sem] def zau {e:Exit}:qbR E [] Q e fr H=Q e fr H:=rfl
@[go_sem] def qr5 {c:Code}:qbR E (.code c::ks) Q .ret fr H=qbR E ks Q .ret fr H:=rfl
@[go_sem] def qqL {id:Nat}:qbR E (.blk id::ks) Q .ret fr H=qbR E ks Q .ret fr H:=rfl
def goP (E:Env) (f:Nat) (all rest:List Oper) (ks:List Item) (Q:Post) (fr:Fr) (dst:Option Tmp) (H:List R):Option (Prop×I)->Prop
 | some (vc,x)=>vc/\ops' E f all rest ks Q (fr.put dst x) H
 | none=>False
def goI (E:Env) (f:Nat) (all rest:List Oper) (ks:List Item) (Q:Post) (fr:Fr) (dst:Option Tmp):Option (Prop×I×List R)->Prop
 | some (vc,x,H)=>vc/\ops' E f all rest ks Q (fr.put dst x) H
 | none=>False
def goG (E:Env) (f:Nat) (all rest:List Oper) (ks:List Item) (Q:Post) (fr:Fr) (dst:Option Tmp) (H:List R):Option (Prop×Bool)->Option (Prop×I)->Prop
 | some (gc,e),some (vc,x)=>gc/\(e=true->vc)/\ops' E f all rest ks Q (fr.put dst (.cond e x)) H
 | _,_=>False
def goGC (E:Env) (f:Nat) (all rest:List Oper) (ks:List Item) (Q:Post) (fr:Fr) (dst:Option Tmp) (H:List R) (c:Prop) (fn:Option (Nat×List I)) (args:List I):Option (Prop×Bool)->Prop
 | some (gc,e)=>gc/\qk6 E c e fn args H (opsG E f all rest ks Q fr dst)
 | none=>False
@[go_sem] def zav {x:I}:goP E f all rest ks Q fr dst H (some (vc,x))=(vc/\ops' E f all rest ks Q (fr.put dst x) H):=rfl
@[go_sem] def zaw {x:I}:goI E f all rest ks Q fr dst (some (vc,x,H))=(vc/\ops' E f all rest ks Q (fr.put dst x) H):=rfl
@[go_sem] def zax {x:I}:goG E f all rest ks Q fr dst H (some (gc,e)) (some (vc,x))=(gc/\(e=true->vc)/\ops' E f all rest ks Q (fr.put dst (.cond e x)) H):=rfl
@[go_sem] def zay {c:Prop}{args:List I}:goGC E f all rest ks Q fr dst H c fn args (some (gc,e))=(gc/\qk6 E c e fn args H (opsG E f all rest ks Q fr dst)):=rfl
def qeC {op:Op}{o:Option (Prop×I)}(h1:qbl op=none) (h2:sopP E.T fr H op=o) (h3:sopI E.T fr H op=none) (h4:qki fr H op=none:=by rfl) (h5:sopO E.deep E.T fr H op=none:=by rfl) :
  ops' E (f+1) all (⟨dst,op,ty,pos,af,none⟩::rest) ks Q fr H=goP E f all rest ks Q fr dst H o:=by
 simp only[ops',h1,h2,h3,h4,h5];cases o <;> rfl
def qje {op:Op}{o:Option (Prop×I)}{j:Nat}{want:Bool}(h1:qbl op=none) (h2:sopP E.T fr H op=o) (h3:sopI E.T fr H op=none:=by rfl) :
  ops' E (f+1) all (⟨dst,op,ty,pos,af,some (j,want)⟩::rest) ks Q fr H=goG E f all rest ks Q fr dst H (guardOf all fr j want) o:=by
 simp only[ops',h1,h2,h3];cases guardOf all fr j want with
 | none=>rfl
 | some g=>cases o <;> rfl
def qjf {op:Op}(h1:qbl op=none) (h2:sopP E.T fr H op=none) (h3:sopI E.T fr H op=o) (h4:qki fr H op=none:=by rfl) (h5:sopO E.deep E.T fr H op=none:=by rfl) :
  ops' E (f+1) all (⟨dst,op,ty,pos,af,none⟩::rest) ks Q fr H=goI E f all rest ks Q fr dst o:=by
 simp only[ops',h1,h2,h3,h4,h5];cases o <;> rfl
def goF2 (E:Env) (f:Nat) (all rest:List Oper) (ks:List Item) (Q:Post) (fr:Fr) (dst:Option Tmp) (fc:Prop):Option (Prop×I×List R)->Prop
 | some (vc,x,H)=>fc/\vc/\ops' E f all rest ks Q (fr.put dst x) H
 | none=>False
def goF1 (E:Env) (f:Nat) (all rest:List Oper) (ks:List Item) (Q:Post) (dst:Option Tmp) (k:Fr->List R->Option (Prop×I×List R)):Option (Prop×Fr×List R)->Prop
 | some (fc,fr,H)=>goF2 E f all rest ks Q fr dst fc (k fr H)
 | none=>False
def goF (E:Env) (f:Nat) (all rest:List Oper) (ks:List Item) (Q:Post) (fr:Fr) (dst:Option Tmp) (z:Option (Prop×Fr×List R)) (k:Fr->List R->Option (Prop×I×List R)) (o2:Option (Prop×I×List R)):Option (Prop×I×List R)->Prop
 | some (vc,x,H)=>vc/\ops' E f all rest ks Q (fr.put dst x) H
 | none=>
  match o2 with
  | some (vc,x,H)=>vc/\ops' E f all rest ks Q (fr.put dst x) H
  | none=>goF1 E f all rest ks Q dst k z
@[go_sem] def zaz {x:I}:goF E f all rest ks Q fr dst z k o2 (some (vc,x,H))=(vc/\ops' E f all rest ks Q (fr.put dst x) H):=rfl
@[go_sem] def zaA:goF E f all rest ks Q fr dst z k none none=goF1 E f all rest ks Q dst k z:=rfl
@[go_sem] def qqM {x:I}:goF E f all rest ks Q fr dst z k (some (vc,x,H)) none=(vc/\ops' E f all rest ks Q (fr.put dst x) H):=rfl
def goL (E:Env) (f:Nat) (all rest:List Oper) (ks:List Item) (Q:Post) (fr:Fr) (dst:Option Tmp) (H:List R) (o2:Option (Prop×I×List R)):Option (Prop×I)->Prop
 | some (vc,x)=>vc/\ops' E f all rest ks Q (fr.put dst x) H
 | none=>goI E f all rest ks Q fr dst o2
@[go_sem] def zaB {x:I}:goL E f all rest ks Q fr dst H o2 (some (vc,x))=(vc/\ops' E f all rest ks Q (fr.put dst x) H):=rfl
@[go_sem] def zaC:goL E f all rest ks Q fr dst H o2 none=goI E f all rest ks Q fr dst o2:=rfl
def qoZ (b:Bool) (o:Option (Prop×I×List R)):Option (Prop×I×List R):=
 match b with
 | true=>o
 | false=>none
@[go_sem] def zaD:qoZ true o=o:=rfl
@[go_sem] def zaE:qoZ false o=none:=rfl
def litO (deep:LitM) (T:Nat->Option TI) (fr:Fr) (H:List R) (t n:Nat):List (Nat×Operand)->Option (Prop×I×List R)
 | [(i,x)]=>qoZ (qfX deep (evx fr x)) (qbP (evc fr x) (qmj T H t n i (evx fr x)))
 | _=>none
@[go_sem] def zaF {T:Nat->Option TI}{t:Nat}:litO deep T fr H t n []=none:=rfl
@[go_sem] def zaG {T:Nat->Option TI}{t:Nat}:litO deep T fr H t n [(i,x)]=qoZ (qfX deep (evx fr x)) (qbP (evc fr x) (qmj T H t n i (evx fr x))):=rfl
@[go_sem] def zaH {T:Nat->Option TI}{t:Nat}{a b:Nat×Operand}:litO deep T fr H t n (a::b::r)=none:=rfl
@[go_sem] def zaI:qfX deep (.agg cs)=deep.agg:=rfl
@[go_sem] def qr6:LitM.agg .low=true:=rfl
@[go_sem] def qr7:LitM.agg .frz=false:=rfl
@[go_sem] def zaJ:LitM.sl .low=false:=rfl
@[go_sem] def qr8:LitM.sl .both=true:=rfl
@[go_sem] def zaK:LitM.sl .frz=false:=rfl
@[go_sem] def zaL {k lo:Nat}:qfX deep (.sl i g k lo n)=deep.sl:=rfl
@[go_sem] def zaM {x:D}:qfX deep (.d x)=false:=rfl
@[go_sem] def zaN:goF1 E f all rest ks Q dst k (some (fc,fr,H))=goF2 E f all rest ks Q fr dst fc (k fr H):=rfl
@[go_sem] def zaO {x:I}:goF2 E f all rest ks Q fr dst fc (some (vc,x,H))=(fc/\vc/\ops' E f all rest ks Q (fr.put dst x) H):=rfl
def frzP (fr:Fr) (H:List R) (ps:List (Nat×Operand)):Option (Prop×Fr×List R):=
 match ps with
 | [(_,.tmp t)]=>
  match fr.get t with
  | .sl i g k lo n=>
   match H[i]? with
   | some (.row g' k' dp l)=>some (g=g'/\k=k'/\dp.shut=true,fr.put (some t) (.d (.lst k ((l.drop lo).take n))),H.set i (.dead g'))
   | _=>none
  | .agg cs=>
   match qd2 cs H with
   | some (fc,cs',H')=>some (fc,fr.put (some t) (.d (.agg cs')),H')
   | none=>none
  | _=>none
 | _=>none
section ops
variable {j:Nat}{want:Bool}
@[go_sem] def zaP:ops' E (f+1) all (⟨dst,.move x,ty,pos,af,none⟩::rest) ks Q fr H=goP E f all rest ks Q fr dst H (some (evc fr x,evx fr x)):=qeC rfl rfl rfl
@[go_sem] def zaQ:ops' E (f+1) all (⟨dst,.assign x,ty,pos,af,none⟩::rest) ks Q fr H=goP E f all rest ks Q fr dst H (some (evc fr x,evx fr x)):=qeC rfl rfl rfl
@[go_sem] def zaR:ops' E (f+1) all (⟨dst,.pick c x y,ty,pos,af,none⟩::rest) ks Q fr H=goP E f all rest ks Q fr dst H (andC (evc fr c) (ql5 (evx fr c) (evx fr x) (evx fr y) (evc fr x) (evc fr y))):=qeC rfl rfl rfl
@[go_sem] def zaS:ops' E (f+1) all (⟨dst,.build t parts,ty,pos,af,none⟩::rest) ks Q fr H=goP E f all rest ks Q fr dst H (andC (qch fr parts.toList) (qjn E.T t (qb3 fr parts.toList))):=qeC rfl rfl rfl
@[go_sem] def zaT:ops' E (f+1) all (⟨dst,.load t x,ty,pos,af,none⟩::rest) ks Q fr H=goL E f all rest ks Q fr dst H (qbP (evc fr x) (qhF E.T H t (evx fr x))) (andC (evc fr x) (qfw E.T H t (evx fr x))):=by
 have h2:sopP E.T fr H (.load t x)=andC (evc fr x) (qfw E.T H t (evx fr x)):=rfl;have h3:sopI E.T fr H (.load t x)=none:=rfl;have h4:qki fr H (.load t x)=none:=rfl;have h5:sopO E.deep E.T fr H (.load t x)=qbP (evc fr x) (qhF E.T H t (evx fr x)):=rfl;simp only[ops',qbl,h2,h3,h4,h5];cases andC (evc fr x) (qfw E.T H t (evx fr x)) with
 | some q=>rfl
 | none=>
  simp only[goL];cases qbP (evc fr x) (qhF E.T H t (evx fr x)) <;> rfl
@[go_sem] def qr9:ops' E (f+1) all (⟨dst,.nilCheck x,ty,pos,af,none⟩::rest) ks Q fr H=goP E f all rest ks Q fr dst H (andC (evc fr x) (sNil H (evx fr x))):=qeC rfl rfl rfl
@[go_sem] def zaU:ops' E (f+1) all (⟨dst,.binOp op t x y yt,ty,pos,af,none⟩::rest) ks Q fr H=goP E f all rest ks Q fr dst H (andC (evc fr x/\evc fr y) (sBin E.T H op t (evx fr x) (evx fr y))):=qeC rfl rfl rfl
@[go_sem] def zaV {op:UnOp}:ops' E (f+1) all (⟨dst,.unOp op t x,ty,pos,af,none⟩::rest) ks Q fr H=goP E f all rest ks Q fr dst H (andC (evc fr x) (sUn op (evx fr x))):=qeC rfl rfl rfl
@[go_sem] def zaW:ops' E (f+1) all (⟨dst,.convert s t x,ty,pos,af,none⟩::rest) ks Q fr H=goP E f all rest ks Q fr dst H (andC (evc fr x) (ql2 E.T s t (evx fr x))):=qeC rfl rfl rfl
@[go_sem] def qsa {caps:List Operand}:ops' E (f+1) all (⟨dst,.makeFunc (.func g) #[] caps.toArray,ty,pos,af,none⟩::rest) ks Q fr H=goP E f all rest ks Q fr dst H (some (evcs fr caps,mkFn g (evs fr caps))):=qeC rfl (by simp[sopP]) rfl
@[go_sem] def zaX:ops' E (f+1) all (⟨dst,.slice t x lo hi mx,ty,pos,af,none⟩::rest) ks Q fr H=goP E f all rest ks Q fr dst H (andC (evc fr x/\qh4 fr lo/\qh4 fr hi) (qhj E.T H t (evx fr x) (optE fr lo) (optE fr hi) (optE fr mx))):=qeC rfl rfl rfl
@[go_sem] def qqN:ops' E (f+1) all (⟨dst,.fieldAddr t x i,ty,pos,af,none⟩::rest) ks Q fr H=goP E f all rest ks Q fr dst H (andC (evc fr x) (qcw E.T H t (evx fr x) i)):=qeC rfl rfl rfl
@[go_sem] def qqO:ops' E (f+1) all (⟨dst,.indexAddr t x y,ty,pos,af,none⟩::rest) ks Q fr H=goP E f all rest ks Q fr dst H (andC (evc fr x/\evc fr y) (qcg E.T H t (evx fr x) (evx fr y))):=qeC rfl rfl rfl
@[go_sem] def zaY:ops' E (f+1) all (⟨dst,.index t x y,ty,pos,af,none⟩::rest) ks Q fr H=goP E f all rest ks Q fr dst H (andC (evc fr x/\evc fr y) (qjl E.T t (evx fr x) (evx fr y))):=qeC rfl rfl rfl
@[go_sem] def zaZ:ops' E (f+1) all (⟨dst,.extract x i,ty,pos,af,none⟩::rest) ks Q fr H=goP E f all rest ks Q fr dst H (andC (evc fr x) (qfi (evx fr x) i)):=qeC rfl rfl rfl
@[go_sem] def zba:ops' E (f+1) all (⟨dst,.lookup t x y ok,ty,pos,af,none⟩::rest) ks Q fr H=goP E f all rest ks Q fr dst H (andC (evc fr x/\evc fr y) (qfP E.T H t (evx fr x) (evx fr y) ok)):=qeC rfl rfl rfl
@[go_sem] def zbb:ops' E (f+1) all (⟨dst,.makeMap t none,ty,pos,af,none⟩::rest) ks Q fr H=goI E f all rest ks Q fr dst (qex E.T H t):=qjf rfl rfl rfl
@[go_sem] def zbc:ops' E (f+1) all (⟨dst,.call ⟨.builtin .len,#[x],#[t]⟩,ty,pos,af,none⟩::rest) ks Q fr H=goP E f all rest ks Q fr dst H (andC (evc fr x) (sLen E.T H t (evx fr x))):=qeC rfl rfl rfl
@[go_sem] def zbd:ops' E (f+1) all (⟨dst,.call ⟨.builtin .cap,#[x],#[t]⟩,ty,pos,af,none⟩::rest) ks Q fr H=goP E f all rest ks Q fr dst H (andC (evc fr x) (sCap E.T t (evx fr x))):=qeC rfl rfl rfl
@[go_sem] def zbe:ops' E (f+1) all (⟨dst,.call ⟨.builtin .min,#[x,y],ts⟩,ty,pos,af,none⟩::rest) ks Q fr H=goP E f all rest ks Q fr dst H (andC (evc fr x/\evc fr y) (sMM .min (evx fr x) (evx fr y))):=qeC rfl rfl rfl
@[go_sem] def zbf:ops' E (f+1) all (⟨dst,.call ⟨.builtin .max,#[x,y],ts⟩,ty,pos,af,none⟩::rest) ks Q fr H=goP E f all rest ks Q fr dst H (andC (evc fr x/\evc fr y) (sMM .max (evx fr x) (evx fr y))):=qeC rfl rfl rfl
@[go_sem] def zbg:ops' E (f+1) all (⟨dst,.box t x,ty,pos,af,none⟩::rest) ks Q fr H=goI E f all rest ks Q fr dst (qbP (evc fr x) (sBox E.T H t (evx fr x))):=qjf rfl rfl rfl
@[go_sem] def zbh:ops' E (f+1) all (⟨dst,.alloc t,ty,pos,af,none⟩::rest) ks Q fr H=goI E f all rest ks Q fr dst (qh6 E.T H t):=qjf rfl rfl rfl
@[go_sem] def qqc:ops' E (f+1) all (⟨dst,.buildSlice t n parts,ty,pos,af,none⟩::rest) ks Q fr H =
  goF E f all rest ks Q fr dst (frzP fr H parts.toList) (fun fr' H'=>qbP (qch fr' parts.toList) (sLit E.T H' t n (qb3 fr' parts.toList))) (litO E.deep E.T fr H t n parts.toList) (qbP (qch fr parts.toList) (sLit E.T H t n (qb3 fr parts.toList))):=by
 have h2:sopP E.T fr H (.buildSlice t n parts)=none:=rfl;have h3 : ∀ fr H,sopI E.T fr H (.buildSlice t n parts)=qbP (qch fr parts.toList) (sLit E.T H t n (qb3 fr parts.toList)):=fun _ _=>rfl
 have h4:qki fr H (.buildSlice t n parts)=frzP fr H parts.toList:=rfl;have h5:sopO E.deep E.T fr H (.buildSlice t n parts)=litO E.deep E.T fr H t n parts.toList:=by
  simp only[sopO];generalize parts.toList=ps;rcases ps with _|⟨⟨i,x⟩,_|⟨b,r⟩⟩
  ·rfl
  ·simp only[litO,qoZ];cases qfX E.deep (evx fr x) <;> rfl
  ·rfl
 simp only[ops',qbl,h2,h3,h4,h5];cases qbP (qch fr parts.toList) (sLit E.T H t n (qb3 fr parts.toList)) with
 | some q=>rfl
 | none=>
  simp only[goF];cases litO E.deep E.T fr H t n parts.toList with
  | some q=>rfl
  | none=>
   simp only;cases frzP fr H parts.toList with
   | none=>rfl
   | some q=>
    obtain⟨fc,fr',H'⟩:=q;simp only[goF1];cases qbP (qch fr' parts.toList) (sLit E.T H' t n (qb3 fr' parts.toList)) <;> rfl
@[go_sem] def qqP:ops' E (f+1) all (⟨dst,.makeSlice t x y,ty,pos,af,none⟩::rest) ks Q fr H=goI E f all rest ks Q fr dst (qbP (evc fr x/\evc fr y) (ql6 E.T H t (evx fr x) (evx fr y))):=qjf rfl rfl rfl
def stI (c:Prop):Option (Prop×List R)->Option (Prop×I×List R)
 | some (vc,H')=>some (c/\vc,.junk,H')
 | none=>none
@[go_sem] def zbi {c:Prop}:stI c (some (vc,H))=some (c/\vc,.junk,H):=rfl
@[go_sem] def zbj:ops' E (f+1) all (⟨dst,.store t x y,ty,pos,af,none⟩::rest) ks Q fr H=goI E f all rest ks Q fr dst (stI (evc fr x/\evc fr y) (qh8 E.T H t (evx fr x) (evx fr y))):=
 qjf rfl rfl (by simp only[sopI,stI];cases qh8 E.T H t (evx fr x) (evx fr y) <;> rfl)
@[go_sem] def qqQ {m:Operand}:ops' E (f+1) all (⟨dst,.mapUpdate t m x y,ty,pos,af,none⟩::rest) ks Q fr H=goI E f all rest ks Q fr dst (stI (evc fr m/\evc fr x/\evc fr y) (qb6 E.T H t (evx fr m) (evx fr x) (evx fr y))):=by
 refine qjf rfl rfl ?_;simp only[sopI];cases qb6 E.T H t (evx fr m) (evx fr x) (evx fr y) <;> rfl
@[go_sem] def zbk {m:Operand}:ops' E (f+1) all (⟨dst,.insert t m x y,ty,pos,af,none⟩::rest) ks Q fr H=goI E f all rest ks Q fr dst (stI (evc fr m/\evc fr x/\evc fr y) (qb6 E.T H t (evx fr m) (evx fr x) (evx fr y))):=by
 refine qjf rfl rfl ?_;simp only[sopI];cases qb6 E.T H t (evx fr m) (evx fr x) (evx fr y) <;> rfl
@[go_sem] def zbl:ops' E (f+1) all (⟨dst,.call ⟨.builtin .append,#[x,y],#[t,t']⟩,ty,pos,af,none⟩::rest) ks Q fr H=goI E f all rest ks Q fr dst (qbP (evc fr x/\evc fr y) (sApp E.T H t t' (evx fr x) (evx fr y))):=qjf rfl rfl rfl
@[go_sem] def zbm:ops' E (f+1) all (⟨dst,.call ⟨.builtin .copy,#[x,y],#[t,t']⟩,ty,pos,af,none⟩::rest) ks Q fr H=goI E f all rest ks Q fr dst (qbP (evc fr x/\evc fr y) (qnS E.T H t t' (evx fr x) (evx fr y))):=qjf rfl rfl rfl
@[go_sem] def zbn:ops' E (f+1) all (⟨dst,.call ⟨.builtin .clear,#[x],#[t]⟩,ty,pos,af,none⟩::rest) ks Q fr H=goI E f all rest ks Q fr dst (qbP (evc fr x) (qjq E.T H t (evx fr x))):=qjf rfl rfl rfl
@[go_sem] def zbo {g:Operand}:ops' E (f+1) all (⟨dst,.call ⟨.value g,args.toArray,ts⟩,ty,pos,af,none⟩::rest) ks Q fr H =
  qe1 E (evc fr g/\evcs fr args) (fnOf (evx fr g)) (evs fr args) H (opsK E f all rest ks Q fr dst):=by simp only[ops',qbl]
@[go_sem] def zbp:ops' E (f+1) all (⟨dst,.move x,ty,pos,af,some (j,want)⟩::rest) ks Q fr H=goG E f all rest ks Q fr dst H (guardOf all fr j want) (some (evc fr x,evx fr x)):=qje rfl rfl
@[go_sem] def zbq:ops' E (f+1) all (⟨dst,.pick c x y,ty,pos,af,some (j,want)⟩::rest) ks Q fr H=goG E f all rest ks Q fr dst H (guardOf all fr j want) (andC (evc fr c) (ql5 (evx fr c) (evx fr x) (evx fr y) (evc fr x) (evc fr y))):=qje rfl rfl
@[go_sem] def zbr:ops' E (f+1) all (⟨dst,.load t x,ty,pos,af,some (j,want)⟩::rest) ks Q fr H=goG E f all rest ks Q fr dst H (guardOf all fr j want) (andC (evc fr x) (qfw E.T H t (evx fr x))):=qje rfl rfl
@[go_sem] def qqR:ops' E (f+1) all (⟨dst,.nilCheck x,ty,pos,af,some (j,want)⟩::rest) ks Q fr H=goG E f all rest ks Q fr dst H (guardOf all fr j want) (andC (evc fr x) (sNil H (evx fr x))):=qje rfl rfl
@[go_sem] def zbs:ops' E (f+1) all (⟨dst,.binOp op t x y yt,ty,pos,af,some (j,want)⟩::rest) ks Q fr H=goG E f all rest ks Q fr dst H (guardOf all fr j want) (andC (evc fr x/\evc fr y) (sBin E.T H op t (evx fr x) (evx fr y))):=qje rfl rfl
@[go_sem] def zbt {op:UnOp}:ops' E (f+1) all (⟨dst,.unOp op t x,ty,pos,af,some (j,want)⟩::rest) ks Q fr H=goG E f all rest ks Q fr dst H (guardOf all fr j want) (andC (evc fr x) (sUn op (evx fr x))):=qje rfl rfl
@[go_sem] def qqd:ops' E (f+1) all (⟨dst,.fieldAddr t x i,ty,pos,af,some (j,want)⟩::rest) ks Q fr H=goG E f all rest ks Q fr dst H (guardOf all fr j want) (andC (evc fr x) (qcw E.T H t (evx fr x) i)):=qje rfl rfl
@[go_sem] def qqe:ops' E (f+1) all (⟨dst,.indexAddr t x y,ty,pos,af,some (j,want)⟩::rest) ks Q fr H=goG E f all rest ks Q fr dst H (guardOf all fr j want) (andC (evc fr x/\evc fr y) (qcg E.T H t (evx fr x) (evx fr y))):=qje rfl rfl
@[go_sem] def zbu:ops' E (f+1) all (⟨dst,.lookup t x y ok,ty,pos,af,some (j,want)⟩::rest) ks Q fr H=goG E f all rest ks Q fr dst H (guardOf all fr j want) (andC (evc fr x/\evc fr y) (qfP E.T H t (evx fr x) (evx fr y) ok)):=qje rfl rfl
@[go_sem] def zbv:ops' E (f+1) all (⟨dst,.call ⟨.builtin .len,#[x],#[t]⟩,ty,pos,af,some (j,want)⟩::rest) ks Q fr H=goG E f all rest ks Q fr dst H (guardOf all fr j want) (andC (evc fr x) (sLen E.T H t (evx fr x))):=qje rfl rfl
@[go_sem] def zbw {g:Operand}:ops' E (f+1) all (⟨dst,.call ⟨.value g,args.toArray,ts⟩,ty,pos,af,some (j,want)⟩::rest) ks Q fr H =
  goGC E f all rest ks Q fr dst H (evc fr g/\evcs fr args) (fnOf (evx fr g)) (evs fr args) (guardOf all fr j want):=by
 simp only[ops',qbl];cases guardOf all fr j want <;> rfl
end ops
@[go_sem] def qo0 (l:List α):l.toArray.toList=l:=rfl
@[go_sem] def zbx {c:Prop}{x:I}:andC c (some (vc,x))=some (c/\vc,x):=rfl
@[go_sem] def zby {c:Prop}:andC c none=none:=rfl
@[go_sem] def zbz {c:Prop}:qbP c none=none:=rfl
@[go_sem] def zbA {c:Prop}{x:I}:qbP c (some (vc,x,H))=some (c/\vc,x,H):=rfl
def qfI:I->I
 | .cond _ x=>x
 | x=>x
def qjg:I->Prop
 | .cond e _=>e=true
 | _=>True
@[go_sem] def zbB {o:Operand}:evx fr o=qfI (ev fr o):=rfl
@[go_sem] def zbC {o:Operand}:evc fr o=qjg (ev fr o):=rfl
@[go_sem] def zbD {t:Nat}:ev fr (.tmp t)=fr.get t:=rfl
@[go_sem] def zbE:ev fr (.func g)=.d (.fn g []):=rfl
@[go_sem] def zbF {n:Int}:ev fr (.const (.int .i64 n))=if -9223372036854775808<=n/\n<=9223372036854775807 then .d (.int .i64 n) else .junk:=rfl
@[go_sem] def zbG {n:Int}:ev fr (.const (.int .u64 n))=if 0<=n/\n<=18446744073709551615 then .d (.int .u64 n) else .junk:=rfl
@[go_sem] def zbH {s:ByteArray}:ev fr (.const (.string s))=.d (.raw (.string s)):=rfl
@[go_sem] def zbI:ev fr (.const (.bool b))=.d (.bool b):=rfl
@[go_sem] def zbJ:ev fr (.const (.slice none 0 0))=.d .nil:=rfl
@[go_sem] def zbK:ev fr (.const (.pointer none))=.d (.raw (.pointer none)):=rfl
@[go_sem] def zbL {x:D}:qfI (.d x)=.d x:=rfl
@[go_sem] def zbM:qfI (.agg cs)=.agg cs:=rfl
@[go_sem] def zbN {k lo:Nat}:qfI (.sl i g k lo n)=.sl i g k lo n:=rfl
@[go_sem] def zbO {o:Nat}:qfI (.ptr i o)=.ptr i o:=rfl
@[go_sem] def zbP {k x o:Nat}{z:D}:qfI (.eptr i g k x o z)=.eptr i g k x o z:=rfl
@[go_sem] def zbQ:qfI (.map i)=.map i:=rfl
@[go_sem] def zbR:qfI (.fn g cs)=.fn g cs:=rfl
@[go_sem] def zbS:qfI (.tup cs)=.tup cs:=rfl
@[go_sem] def zbT {x:I}:qfI (.cond e x)=x:=rfl
@[go_sem] def zbU {x:D}:qjg (.d x)=True:=rfl
@[go_sem] def zbV:qjg (.agg cs)=True:=rfl
@[go_sem] def zbW {k lo:Nat}:qjg (.sl i g k lo n)=True:=rfl
@[go_sem] def zbX {o:Nat}:qjg (.ptr i o)=True:=rfl
@[go_sem] def zbY {k x o:Nat}{z:D}:qjg (.eptr i g k x o z)=True:=rfl
@[go_sem] def zbZ:qjg (.map i)=True:=rfl
@[go_sem] def zca:qjg (.fn g cs)=True:=rfl
@[go_sem] def zcb:qjg (.tup cs)=True:=rfl
@[go_sem] def zcc {x:I}:qjg (.cond e x)=(e=true):=rfl
@[go_sem] def zcd {t:Nat}:Fr.get ⟨n,m⟩ t=look t m:=rfl
@[go_sem] def zce {s t:Nat}{x:I}:look t ((s,x)::m)=if s=t then x else look t m:=rfl
@[go_sem] def zcf {t:Nat}{x:I}:Fr.put ⟨n,m⟩ (some t) x=if t<n then⟨n,(t,x)::m⟩ else⟨n,m⟩:=rfl
@[go_sem] def zcg {x:I}:Fr.put fr none x=fr:=rfl
@[go_sem] def zch:evs fr []=[]:=rfl
@[go_sem] def zci {o:Operand}{r:List Operand}:evs fr (o::r)=evx fr o::evs fr r:=rfl
@[go_sem] def zcj:evcs fr []=True:=rfl
@[go_sem] def zck {o:Operand}{r:List Operand}:evcs fr (o::r)=(evc fr o/\evcs fr r):=rfl
@[go_sem] def zcl:optE fr none=none:=rfl
@[go_sem] def zcm {o:Operand}:optE fr (some o)=some (evx fr o):=rfl
@[go_sem] def zcn:qh4 fr none=True:=rfl
@[go_sem] def zco {o:Operand}:qh4 fr (some o)=evc fr o:=rfl
@[go_sem] def zcp:qb3 fr []=[]:=rfl
@[go_sem] def qsb {o:Operand}:qb3 fr ((i,o)::r)=(i,evx fr o)::qb3 fr r:=rfl
@[go_sem] def qsc:qch fr []=True:=rfl
@[go_sem] def qqS {o:Operand}:qch fr ((i,o)::r)=(evc fr o/\qch fr r):=rfl
@[go_sem] def zcq {t:Nat}:qdn t []=[]:=rfl
@[go_sem] def zcr {t:Nat}{x:I}{r:List I}:qdn t (x::r)=(t,x)::qdn (t+1) r:=rfl
attribute [go_sem] yaL List.map_nil yaU
def qfJ:List Oper->Nat->Option Tmp
 | [],_=>none
 | o::_,0=>o.dst
 | _::r,n+1=>qfJ r n
def qo1 (fr:Fr) (want:Bool):Option Tmp->Option (Prop×Bool)
 | some t=>if t<fr.n then(match fr.get t with|.d x=>some (x.isBool,if want then x.toBool else !x.toBool)|.cond e (.d x)=>some ((e=true->x.isBool),e&&(if want then x.toBool else !x.toBool))|_=>none) else none
 | none=>none
def qla (want:Bool):I->Option (Prop×Bool)
 | .d x=>some (x.isBool,if want then x.toBool else !x.toBool)
 | .cond e (.d x)=>some ((e=true->x.isBool),e&&(if want then x.toBool else !x.toBool))
 | _=>none
def qlb : ∀ (l:List Oper) (j:Nat),(l[j]?).bind (·.dst)=qfJ l j
 | [],j=>by simp[qfJ]
 | o::r,0=>by simp[qfJ]
 | o::r,j+1=>by simpa [qfJ] using qlb r j
@[go_sem] def zcs {j:Nat}{want:Bool}:guardOf all fr j want=qo1 fr want (qfJ all j):=by
 simp only[guardOf,qlb];cases qfJ all j <;> rfl
@[go_sem] def zct {o:Oper}{r:List Oper}:qfJ (o::r) 0=o.dst:=rfl
@[go_sem] def zcu {o:Oper}{r:List Oper}:qfJ (o::r) (n+1)=qfJ r n:=rfl
@[go_sem] def zcv {t:Nat}{want:Bool}:qo1 ⟨n,m⟩ want (some t)=if t<n then qla want (look t m) else none:=by
 simp only[qo1,Fr.get];split
 ·cases look t m <;> first|rfl|(rename_i x;cases x <;> rfl)
 ·rfl
@[go_sem] def zcw {x:D}:qla true (.d x)=some (x.isBool,x.toBool):=rfl
@[go_sem] def qsd {x:D}:qla false (.d x)=some (x.isBool,!x.toBool):=rfl
@[go_sem] def qse {x:D}:qla true (.cond e (.d x))=some ((e=true->x.isBool),e&&x.toBool):=rfl
@[go_sem] def qqT {x:D}:qla false (.cond e (.d x))=some ((e=true->x.isBool),e && !x.toBool):=rfl
@[go_sem] def zcx {k:IntKind}{n:Int}:(D.int k n).toInt=n:=rfl
@[go_sem] def zcy:(D.bool b).toBool=b:=rfl
@[go_sem] def zcz {k k':IntKind}{n:Int}:(D.int k n).isInt k'=(k=k'):=rfl
@[go_sem] def zcA:(D.bool b).isBool=True:=rfl
@[go_sem] def zcB {k:Nat}:(D.lst k l).elems=l:=rfl
@[go_sem] def zcC:D.nil.elems=[]:=rfl
@[go_sem] def zcD {k:Nat}:(D.lst k l).isLst k'=(k=k'):=rfl
@[go_sem] def zcE:D.nil.isLst k'=True:=rfl
@[go_sem] def zcF {k:Nat}:(D.lst k l).isSl=True:=rfl
@[go_sem] def zcG:D.nil.isSl=True:=rfl
@[go_sem] def zcH:D.nil.isNil=true:=rfl
@[go_sem] def zcI {cs:List D}:(D.ptr cs).ptrs=cs:=rfl
@[go_sem] def zcJ {cs:List D}:(D.ptr cs).isPtr=True:=rfl
@[go_sem] def zcK {cs:List D}{j:Nat}:(D.agg cs).cellAt j=cs.getD j .nil:=rfl
@[go_sem] def zcL {k:IntKind}{n:Int}:(D.int k n).cellAt 0=D.int k n:=rfl
@[go_sem] def zcM:(D.bool b).cellAt 0=D.bool b:=rfl
@[go_sem] def zcN {k:Nat}:(D.lst k l).cellAt 0=D.lst k l:=rfl
@[go_sem] def zcO:D.nil.cellAt 0=D.nil:=rfl
@[go_sem] def zcP {x d : α}{l:List α}:(x::l).getD 0 d=x:=rfl
@[go_sem] def zcQ {x d : α}{l:List α}:(x::l).getD (n+1) d=l.getD n d:=rfl
@[go_sem] def zcR {cs:List D}:(D.agg cs).cells=cs:=rfl
@[go_sem] def zcS {k:IntKind}{n:Int}:(D.int k n).cells=[D.int k n]:=rfl
@[go_sem] def zcT:(D.bool b).cells=[D.bool b]:=rfl
@[go_sem] def zcU {k:Nat}:(D.lst k l).cells=[D.lst k l]:=rfl
@[go_sem] def zcV:D.nil.cells=[D.nil]:=rfl
@[go_sem] def zcW {k:IntKind}{n:Int}:(D.int k n).one=true:=rfl
@[go_sem] def zcX:(D.bool b).one=true:=rfl
@[go_sem] def zcY {k:Nat}:(D.lst k l).one=true:=rfl
@[go_sem] def zcZ:D.nil.one=true:=rfl
@[go_sem] def zda {cs:List D}:(D.agg cs).one=false:=rfl
@[go_sem] def zdb {k:IntKind}{n:Int}:(D.int k n).scalar=true:=rfl
@[go_sem] def zdc:(D.bool b).scalar=true:=rfl
@[go_sem] def zdd {k:Nat}:(D.lst k l).scalar=false:=rfl
@[go_sem] def zde:D.nil.scalar=true:=rfl
@[go_sem] def qsf:scalars (List.replicate n D.nil)=true:=by induction n with|zero=>rfl|succ n ih=>simp[List.replicate_succ,scalars,D.cells,D.scalar,ih]
@[go_sem] def zdf {cs:List D}:(D.agg cs).notTup=True:=rfl
@[go_sem] def zdg {k:IntKind}{n:Int}:(D.int k n).notTup=True:=rfl
@[go_sem] def zdh:(D.bool b).notTup=True:=rfl
@[go_sem] def zdi {k:Nat}:(D.lst k l).notTup=True:=rfl
@[go_sem] def zdj:(D.tup xs).isTup n=(xs.length=n):=rfl
@[go_sem] def zdk:(D.tup xs).tupLen=xs.length:=rfl
@[go_sem] def zdl:(D.tup xs).tupAt n=xs.getD n .nil:=rfl
@[go_sem] def qqf {x:D}{j:Nat}:qaj x j 0=[]:=rfl
@[go_sem] def qqg {x:D}{j:Nat}:qaj x j (n+1)=x.cellAt j::qaj x (j+1) n:=rfl
@[go_sem] def zdm {cs:List D}:(D.agg cs=D.tup xs)=False:=by simp
@[go_sem] def zdn {k:IntKind}{x:D}:tnorm (.int k) x=.int k x.toInt:=rfl
@[go_sem] def zdo {x:D}:tnorm .bool x=.bool x.toBool:=rfl
@[go_sem] def zdp {e:Nat}{x:D}:tnorm (.slice e) x=x:=rfl
@[go_sem] def zdq {k:IntKind}{x:D}:tchk (.int k) x=x.isInt k:=rfl
@[go_sem] def zdr {x:D}:tchk .bool x=x.isBool:=rfl
@[go_sem] def zds {e:Nat}{x:D}:tchk (.slice e) x=(x.one=true):=rfl
@[go_sem] def zdt {t:Ty}{x:D}:tnormI t (.d x)=.d (tnorm t x):=rfl
@[go_sem] def zdu {t:Ty}{k lo:Nat}:tnormI t (.sl i g k lo n)=.sl i g k lo n:=rfl
@[go_sem] def zdv {t:Ty}{x:D}:qhA t (.d x)=tchk t x:=rfl
@[go_sem] def zdw {t:Ty}{k lo:Nat}:qhA t (.sl i g k lo n)=True:=rfl
@[go_sem] def zdx {k:IntKind}:(Ty.int k).agg=false:=rfl
@[go_sem] def zdy:Ty.bool.agg=false:=rfl
@[go_sem] def zdz {e:Nat}:(Ty.slice e).agg=false:=rfl
@[go_sem] def zdA {fs:List (Nat×Nat)}:(Ty.struct fs).agg=true:=rfl
@[go_sem] def zdB {e:Nat}:(Ty.array n e).agg=true:=rfl
@[go_sem] def zdC:allD []=some []:=rfl
def consD (x:D):Option (List D)->Option (List D)
 | some l=>some (x::l)
 | none=>none
@[go_sem] def zdD {x:D}{r:List I}:allD (.d x::r)=consD x (allD r):=by
 simp only[allD];cases allD r <;> rfl
@[go_sem] def zdE {x:D}:consD x (some l)=some (x::l):=rfl
@[go_sem] def zdF {x:D}:consD x none=none:=rfl
@[go_sem] def zdG {k lo:Nat}{r:List I}:allD (.sl i g k lo n::r)=none:=rfl
@[go_sem] def zdH {o:Nat}{r:List I}:allD (.ptr i o::r)=none:=rfl
def qo2 (cs:List I):Option (List D)->I
 | some ds=>.d (.agg ds)
 | none=>.agg cs
@[go_sem] def zdI:mkAgg cs=qo2 cs (allD cs):=by
 simp only[mkAgg];cases allD cs <;> rfl
@[go_sem] def zdJ:qo2 cs (some ds)=.d (.agg ds):=rfl
@[go_sem] def zdK:qo2 cs none=.agg cs:=rfl
def mkFnO (g:Nat) (cs:List I):Option (List D)->I
 | some ds=>.d (.fn g ds)
 | none=>.fn g cs
@[go_sem] def zdL:mkFn g cs=mkFnO g cs (allD cs):=by
 simp only[mkFn];cases allD cs <;> rfl
@[go_sem] def zdM:mkFnO g cs none=.fn g cs:=rfl
@[go_sem] def zdN:qcc []=True:=rfl
@[go_sem] def zdO {x:I}{r:List I}:qcc (x::r)=(oneI x/\qcc r):=rfl
@[go_sem] def zdP {x:D}:oneI (.d x)=(x.one=true):=rfl
@[go_sem] def zdQ {k lo:Nat}:oneI (.sl i g k lo n)=True:=rfl
def qat:List R->Nat->Option R
 | [],_=>none
 | r::_,0=>some r
 | _::l,n+1=>qat l n
def qaA : ∀ (H:List R) (i:Nat),H[i]?=qat H i
 | [],i=>by simp[qat]
 | r::l,0=>by simp[qat]
 | r::l,i+1=>by simpa [qat] using qaA l i
def frzR (fr:Fr) (H:List R) (t i g k lo n:Nat):Option R->Option (Prop×Fr×List R)
 | some (.row g' k' dp l)=>some (g=g'/\k=k'/\dp.shut=true,fr.put (some t) (.d (.lst k ((l.drop lo).take n))),H.set i (.dead g'))
 | _=>none
def frzA (fr:Fr) (t:Nat):Option (Prop×List D×List R)->Option (Prop×Fr×List R)
 | some (fc,cs',H')=>some (fc,fr.put (some t) (.d (.agg cs')),H')
 | none=>none
def frzJd (x:D):Option (Prop×List D×List R)->Option (Prop×List D×List R)
 | some (c,xs,H')=>some (c,x::xs,H')
 | none=>none
def frzJs (c0:Prop) (x:D):Option (Prop×List D×List R)->Option (Prop×List D×List R)
 | some (c,xs,H')=>some (c0/\c,x::xs,H')
 | none=>none
def frzJ (H:List R) (i g k lo n:Nat) (r:List I):Option R->Option (Prop×List D×List R)
 | some (.row g' k' dp l)=>frzJs (g=g'/\k=k'/\dp.shut=true) (.lst k ((l.drop lo).take n)) (qd2 r (H.set i (.dead g')))
 | _=>none
@[go_sem] def zdR:qd2 [] H=some (True,[],H):=rfl
@[go_sem] def zdS {x:D}{r:List I}:qd2 (.d x::r) H=frzJd x (qd2 r H):=by
 simp only[qd2];cases qd2 r H <;> rfl
@[go_sem] def zdT {k lo:Nat}{r:List I}:qd2 (.sl i g k lo n::r) H=frzJ H i g k lo n r (qat H i):=by
 simp only[qd2];rw[<-qaA];cases H[i]? with
 | none=>rfl
 | some y=>
  cases y <;> rfl
@[go_sem] def zdU {x:D}{c:Prop}:frzJd x (some (c,xs,H))=some (c,x::xs,H):=rfl
@[go_sem] def zdV {c0:Prop}{x:D}{c:Prop}:frzJs c0 x (some (c,xs,H))=some (c0/\c,x::xs,H):=rfl
@[go_sem] def zdW {k lo:Nat}{r:List I}:frzJ H i g k lo n r (some (.row g' k' dp l))=frzJs (g=g'/\k=k'/\dp.shut=true) (.lst k ((l.drop lo).take n)) (qd2 r (H.set i (.dead g'))):=rfl
def frzS (fr:Fr) (H:List R) (t:Nat):I->Option (Prop×Fr×List R)
 | .sl i g k lo n=>frzR fr H t i g k lo n (qat H i)
 | .agg cs=>frzA fr t (qd2 cs H)
 | _=>none
@[go_sem] def zdX {t:Nat}{c:Prop}{cs:List D}:frzA fr t (some (c,cs,H))=some (c,fr.put (some t) (.d (.agg cs)),H):=rfl
@[go_sem] def zdY {t:Nat}:frzS fr H t (.agg cs)=frzA fr t (qd2 cs H):=rfl
@[go_sem] def zdZ {j t:Nat}:frzP fr H [(j,.tmp t)]=frzS fr H t (fr.get t):=by
 simp only[frzP];cases fr.get t <;> simp only[frzS]
 ·rename_i cs;cases qd2 cs H <;> rfl
 ·rename_i i g k lo n;rw[<-qaA];cases H[i]? with
  | none=>rfl
  | some r=>cases r <;> rfl
@[go_sem] def zea {t k lo:Nat}:frzS fr H t (.sl i g k lo n)=frzR fr H t i g k lo n (qat H i):=rfl
@[go_sem] def zeb {t k lo:Nat}:frzR fr H t i g k lo n (some (.row g' k' dp l))=some (g=g'/\k=k'/\dp.shut=true,fr.put (some t) (.d (.lst k ((l.drop lo).take n))),H.set i (.dead g')):=rfl
@[go_sem] def zec:DP.ofB true=.own []:=rfl
@[go_sem] def zed:DP.ofB false=.fz:=rfl
@[go_sem] def zee:(DP.own []).shut=true:=rfl
@[go_sem] def zef:DP.fz.shut=true:=rfl
@[go_sem] def zeg {hs:List Hole}:(DP.own hs).o=true:=rfl
@[go_sem] def zeh:DP.fz.o=false:=rfl
@[go_sem] def zei {r:R}{l:List R}:qat (r::l) 0=some r:=rfl
@[go_sem] def zej {r:R}{l:List R}:qat (r::l) (n+1)=qat l n:=rfl
attribute [go_sem] yag yal List.cons_append List.nil_append List.set_cons_zero List.set_cons_succ List.drop_succ_cons List.drop_zero List.take_succ_cons List.take_zero List.drop_nil List.take_nil
section draw
variable {K:Fr->Prop}{j:Nat}{want:Bool}
def qsP (E:Env) (all rest:List Oper) (H:List R) (K:Fr->Prop) (fr:Fr) (dst:Option Tmp):Option (Prop×I)->Prop
 | some (vc,x)=>vc/\opsQ E all H K rest (fr.put dst x)
 | none=>False
def qsG (E:Env) (all rest:List Oper) (H:List R) (K:Fr->Prop) (fr:Fr) (dst:Option Tmp):Option (Prop×Bool)->Option (Prop×I)->Prop
 | some (gc,e),some (vc,x)=>gc/\(e=true->vc)/\opsQ E all H K rest (fr.put dst (.cond e x))
 | _,_=>False
def qsGC (E:Env) (all rest:List Oper) (H:List R) (K:Fr->Prop) (fr:Fr) (dst:Option Tmp) (c:Prop) (fn:Option (Nat×List I)) (args:List I):Option (Prop×Bool)->Prop
 | some (gc,e)=>gc/\qhG E c e fn args H (fun x=>opsQ E all H K rest (fr.put dst (.cond e (.d x))))
 | none=>False
@[go_sem] def zek {x:I}:qsP E all rest H K fr dst (some (vc,x))=(vc/\opsQ E all H K rest (fr.put dst x)):=rfl
@[go_sem] def zel {x:I}:qsG E all rest H K fr dst (some (gc,e)) (some (vc,x))=(gc/\(e=true->vc)/\opsQ E all H K rest (fr.put dst (.cond e x))):=rfl
@[go_sem] def zem {c:Prop}{args:List I}:qsGC E all rest H K fr dst c fn args (some (gc,e))=(gc/\qhG E c e fn args H (fun x=>opsQ E all H K rest (fr.put dst (.cond e (.d x))))):=rfl
def qs_P {op:Op}{o:Option (Prop×I)}(h1:qbl op=none) (h2:sopP E.T fr H op=o):opsQ E all H K (⟨dst,op,ty,pos,af,none⟩::rest) fr=qsP E all rest H K fr dst o:=by
 simp only[opsQ,h1,h2];cases o <;> rfl
def qs_G {op:Op}{o:Option (Prop×I)}(h1:qbl op=none) (h2:sopP E.T fr H op=o) :
  opsQ E all H K (⟨dst,op,ty,pos,af,some (j,want)⟩::rest) fr=qsG E all rest H K fr dst (guardOf all fr j want) o:=by
 simp only[opsQ,h1,h2];cases guardOf all fr j want with
 | none=>rfl
 | some g=>cases o <;> rfl
@[go_sem] def zen:opsQ E all H K [] fr=K fr:=rfl
@[go_sem] def zeo {g:Operand}:opsQ E all H K (⟨dst,.call ⟨.value g,args.toArray,ts⟩,ty,pos,af,none⟩::rest) fr =
  qhG E (evc fr g/\evcs fr args) true (fnOf (evx fr g)) (evs fr args) H (fun x=>opsQ E all H K rest (fr.put dst (.d x))):=by simp only[opsQ,qbl]
@[go_sem] def zep {g:Operand}:opsQ E all H K (⟨dst,.call ⟨.value g,args.toArray,ts⟩,ty,pos,af,some (j,want)⟩::rest) fr =
  qsGC E all rest H K fr dst (evc fr g/\evcs fr args) (fnOf (evx fr g)) (evs fr args) (guardOf all fr j want):=by
 simp only[opsQ,qbl];cases guardOf all fr j want <;> rfl
@[go_sem] def zeq {T:Nat->Option TI}{l:List Oper}:quiet T l=(qaZ l&&qnZ T l):=rfl
@[go_sem] def zer {T:Nat->Option TI}:qnZ T []=true:=rfl
@[go_sem] def zes:qgR pf []=true:=rfl
@[go_sem] def zet {T:Nat->Option TI}{op:Op}:qnZ T (⟨dst,op,ty,pos,af,gd⟩::rest)=(qdR T ty op&&qnZ T rest):=rfl
@[go_sem] def qsg {op:Op}:qgR pf (⟨dst,op,ty,pos,af,gd⟩::rest)=(!qdS pf op&&qgR pf rest):=rfl
@[go_sem] def zeu {k:IntKind}{a b:Nat}{z:D}:qk9 (some ⟨.int k,a,b,z⟩)=true:=rfl
@[go_sem] def zev {a b:Nat}{z:D}:qk9 (some ⟨.bool,a,b,z⟩)=true:=rfl
@[go_sem] def zew {t:Ty}{a b:Nat}{z:D}(h1 : ∀ k,t=.int k->False) (h2:t=.bool->False):qk9 (some ⟨t,a,b,z⟩)=false:=by
 cases t with
 | int k=>exact absurd rfl (fun h=>h1 k h)
 | bool=>exact absurd rfl (fun h=>h2 h)
 | _=>rfl
@[go_sem] def zex {T:Nat->Option TI}{g:Operand}{args:Array Operand}:qdR T ty (.call ⟨.value g,args,ts⟩)=qk9 (T ty):=rfl
@[go_sem] def zey {args:Array Operand}:qdS pf (.call ⟨.value (.func g),args,ts⟩)=qil (pf g):=rfl
@[go_sem] def zez:qil .own=false:=rfl
@[go_sem] def zeA:qil .fz=false:=rfl
@[go_sem] def qsh:qil .proc=true:=rfl
@[go_sem] def qqU {T:Nat->Option TI}{b:Builtin}{args:Array Operand}:qdR T ty (.call ⟨.builtin b,args,ts⟩)=true:=rfl
@[go_sem] def qqV {b:Builtin}{args:Array Operand}:qdS pf (.call ⟨.builtin b,args,ts⟩)=false:=rfl
@[go_sem] def zeB {T:Nat->Option TI}:qdR T ty (.move x)=true:=rfl
@[go_sem] def zeC:qdS pf (.move x)=false:=rfl
@[go_sem] def qsi {T:Nat->Option TI}:qdR T ty (.assign x)=true:=rfl
@[go_sem] def qsj:qdS pf (.assign x)=false:=rfl
@[go_sem] def zeD {T:Nat->Option TI}:qdR T ty (.pick c x y)=true:=rfl
@[go_sem] def zeE:qdS pf (.pick c x y)=false:=rfl
@[go_sem] def zeF {T:Nat->Option TI}:qdR T ty (.build t p)=true:=rfl
@[go_sem] def zeG:qdS pf (.build t p)=false:=rfl
@[go_sem] def zeH {T:Nat->Option TI}:qdR T ty (.load t x)=true:=rfl
@[go_sem] def zeI:qdS pf (.load t x)=false:=rfl
@[go_sem] def qqh {T:Nat->Option TI}:qdR T ty (.nilCheck x)=true:=rfl
@[go_sem] def qqi:qdS pf (.nilCheck x)=false:=rfl
@[go_sem] def zeJ {T:Nat->Option TI}:qdR T ty (.binOp op t x y yt)=true:=rfl
@[go_sem] def zeK:qdS pf (.binOp op t x y yt)=false:=rfl
@[go_sem] def zeL {T:Nat->Option TI}{op:UnOp}:qdR T ty (.unOp op t x)=true:=rfl
@[go_sem] def zeM {op:UnOp}:qdS pf (.unOp op t x)=false:=rfl
@[go_sem] def qqW {T:Nat->Option TI}:qdR T ty (.convert t u x)=true:=rfl
@[go_sem] def qqX:qdS pf (.convert t u x)=false:=rfl
@[go_sem] def zeN {T:Nat->Option TI}:qdR T ty (.slice t x lo hi mx)=true:=rfl
@[go_sem] def zeO:qdS pf (.slice t x lo hi mx)=false:=rfl
@[go_sem] def qo3 {T:Nat->Option TI}:qdR T ty (.fieldAddr t x i)=true:=rfl
@[go_sem] def qo4:qdS pf (.fieldAddr t x i)=false:=rfl
@[go_sem] def qo5 {T:Nat->Option TI}:qdR T ty (.indexAddr t x y)=true:=rfl
@[go_sem] def qo6:qdS pf (.indexAddr t x y)=false:=rfl
@[go_sem] def zeP {T:Nat->Option TI}:qdR T ty (.index t x y)=true:=rfl
@[go_sem] def zeQ:qdS pf (.index t x y)=false:=rfl
@[go_sem] def qqY {T:Nat->Option TI}:qdR T ty (.extract x i)=true:=rfl
@[go_sem] def qqZ:qdS pf (.extract x i)=false:=rfl
@[go_sem] def qsk {T:Nat->Option TI}:qdR T ty (.lookup t x y ok)=true:=rfl
@[go_sem] def qsl:qdS pf (.lookup t x y ok)=false:=rfl
@[go_sem] def zeR {T:Nat->Option TI}:qdR T ty (.alloc t)=true:=rfl
@[go_sem] def zeS:qdS pf (.alloc t)=false:=rfl
@[go_sem] def qor {T:Nat->Option TI}:qdR T ty (.buildSlice t n parts)=true:=rfl
@[go_sem] def qot:qdS pf (.buildSlice t n parts)=false:=rfl
@[go_sem] def zeT {T:Nat->Option TI}:qdR T ty (.store t x y)=true:=rfl
@[go_sem] def zeU:qdS pf (.store t x y)=false:=rfl
@[go_sem] def zeV:qaZ []=true:=rfl
@[go_sem] def zeW {g:Operand}:qaZ (⟨dst,.call ⟨.value g,args.toArray,ts⟩,ty,pos,af,gd⟩::rest)=qaZ rest:=rfl
def qsm (E:Env) (c:Prop) (e:Bool) (f:Nat) (K:D->Prop):Option (Prop×List D)->Prop
 | some (vc,ds)=>(e=true->c/\vc)/\qqI E e f ds K
 | none=>False
@[go_sem] def zeX {c:Prop}{caps args:List I}{K:D->Prop}:qhG E c e (some (g,caps)) args H K=qsm E c e g K (qfz H (args++caps)):=by
 simp only[qhG];cases qfz H (args++caps) <;> rfl
@[go_sem] def zeY {c:Prop}{K:D->Prop}:qsm E c e g K (some (vc,ds))=((e=true->c/\vc)/\qqI E e g ds K):=rfl
def qcE {K:D->Prop}{x:D}(h:e=true->Pure E.P g ds x/\scal x) (hk:K x):qqI E e g ds K:=⟨x,h,hk⟩
@[go_sem] def zeZ:opsQ E all H K (⟨dst,.move x,ty,pos,af,none⟩::rest) fr=qsP E all rest H K fr dst (some (evc fr x,evx fr x)):=qs_P rfl rfl
@[go_sem] def zfa:opsQ E all H K (⟨dst,.assign x,ty,pos,af,none⟩::rest) fr=qsP E all rest H K fr dst (some (evc fr x,evx fr x)):=qs_P rfl rfl
@[go_sem] def zfb:opsQ E all H K (⟨dst,.pick c x y,ty,pos,af,none⟩::rest) fr=qsP E all rest H K fr dst (andC (evc fr c) (ql5 (evx fr c) (evx fr x) (evx fr y) (evc fr x) (evc fr y))):=qs_P rfl rfl
@[go_sem] def zfc:opsQ E all H K (⟨dst,.load t x,ty,pos,af,none⟩::rest) fr=qsP E all rest H K fr dst (andC (evc fr x) (qfw E.T H t (evx fr x))):=qs_P rfl rfl
@[go_sem] def zfd:opsQ E all H K (⟨dst,.nilCheck x,ty,pos,af,none⟩::rest) fr=qsP E all rest H K fr dst (andC (evc fr x) (sNil H (evx fr x))):=qs_P rfl rfl
@[go_sem] def zfe:opsQ E all H K (⟨dst,.binOp op t x y yt,ty,pos,af,none⟩::rest) fr=qsP E all rest H K fr dst (andC (evc fr x/\evc fr y) (sBin E.T H op t (evx fr x) (evx fr y))):=qs_P rfl rfl
@[go_sem] def zff {op:UnOp}:opsQ E all H K (⟨dst,.unOp op t x,ty,pos,af,none⟩::rest) fr=qsP E all rest H K fr dst (andC (evc fr x) (sUn op (evx fr x))):=qs_P rfl rfl
@[go_sem] def zfg:opsQ E all H K (⟨dst,.convert s t x,ty,pos,af,none⟩::rest) fr=qsP E all rest H K fr dst (andC (evc fr x) (ql2 E.T s t (evx fr x))):=qs_P rfl rfl
@[go_sem] def zfh:opsQ E all H K (⟨dst,.slice t x lo hi mx,ty,pos,af,none⟩::rest) fr=qsP E all rest H K fr dst (andC (evc fr x/\qh4 fr lo/\qh4 fr hi) (qhj E.T H t (evx fr x) (optE fr lo) (optE fr hi) (optE fr mx))):=qs_P rfl rfl
@[go_sem] def qsn:opsQ E all H K (⟨dst,.fieldAddr t x i,ty,pos,af,none⟩::rest) fr=qsP E all rest H K fr dst (andC (evc fr x) (qcw E.T H t (evx fr x) i)):=qs_P rfl rfl
@[go_sem] def qso:opsQ E all H K (⟨dst,.indexAddr t x y,ty,pos,af,none⟩::rest) fr=qsP E all rest H K fr dst (andC (evc fr x/\evc fr y) (qcg E.T H t (evx fr x) (evx fr y))):=qs_P rfl rfl
@[go_sem] def zfi:opsQ E all H K (⟨dst,.call ⟨.builtin .len,#[x],#[t]⟩,ty,pos,af,none⟩::rest) fr=qsP E all rest H K fr dst (andC (evc fr x) (sLen E.T H t (evx fr x))):=qs_P rfl rfl
@[go_sem] def zfj:opsQ E all H K (⟨dst,.move x,ty,pos,af,some (j,want)⟩::rest) fr=qsG E all rest H K fr dst (guardOf all fr j want) (some (evc fr x,evx fr x)):=qs_G rfl rfl
@[go_sem] def zfk:opsQ E all H K (⟨dst,.pick c x y,ty,pos,af,some (j,want)⟩::rest) fr=qsG E all rest H K fr dst (guardOf all fr j want) (andC (evc fr c) (ql5 (evx fr c) (evx fr x) (evx fr y) (evc fr x) (evc fr y))):=qs_G rfl rfl
@[go_sem] def zfl:opsQ E all H K (⟨dst,.load t x,ty,pos,af,some (j,want)⟩::rest) fr=qsG E all rest H K fr dst (guardOf all fr j want) (andC (evc fr x) (qfw E.T H t (evx fr x))):=qs_G rfl rfl
@[go_sem] def zfm:opsQ E all H K (⟨dst,.binOp op t x y yt,ty,pos,af,some (j,want)⟩::rest) fr=qsG E all rest H K fr dst (guardOf all fr j want) (andC (evc fr x/\evc fr y) (sBin E.T H op t (evx fr x) (evx fr y))):=qs_G rfl rfl
@[go_sem] def zfn:opsQ E all H K (⟨dst,.slice t x lo hi mx,ty,pos,af,some (j,want)⟩::rest) fr=qsG E all rest H K fr dst (guardOf all fr j want) (andC (evc fr x/\qh4 fr lo/\qh4 fr hi) (qhj E.T H t (evx fr x) (optE fr lo) (optE fr hi) (optE fr mx))):=qs_G rfl rfl
@[go_sem] def qq0:opsQ E all H K (⟨dst,.indexAddr t x y,ty,pos,af,some (j,want)⟩::rest) fr=qsG E all rest H K fr dst (guardOf all fr j want) (andC (evc fr x/\evc fr y) (qcg E.T H t (evx fr x) (evx fr y))):=qs_G rfl rfl
@[go_sem] def zfo:opsQ E all H K (⟨dst,.call ⟨.builtin .len,#[x],#[t]⟩,ty,pos,af,some (j,want)⟩::rest) fr=qsG E all rest H K fr dst (guardOf all fr j want) (andC (evc fr x) (sLen E.T H t (evx fr x))):=qs_G rfl rfl
@[go_sem] def zfp:qaZ (⟨dst,.move x,ty,pos,af,gd⟩::rest)=qaZ rest:=rfl
@[go_sem] def qq1:qaZ (⟨dst,.assign x,ty,pos,af,gd⟩::rest)=qaZ rest:=rfl
@[go_sem] def zfq:qaZ (⟨dst,.pick c x y,ty,pos,af,gd⟩::rest)=qaZ rest:=rfl
@[go_sem] def qsp:qaZ (⟨dst,.build t parts,ty,pos,af,gd⟩::rest)=qaZ rest:=rfl
@[go_sem] def zfr:qaZ (⟨dst,.load t x,ty,pos,af,gd⟩::rest)=qaZ rest:=rfl
@[go_sem] def qo7:qaZ (⟨dst,.nilCheck x,ty,pos,af,gd⟩::rest)=qaZ rest:=rfl
@[go_sem] def qsq:qaZ (⟨dst,.binOp op t x y yt,ty,pos,af,gd⟩::rest)=qaZ rest:=rfl
@[go_sem] def zfs {op:UnOp}:qaZ (⟨dst,.unOp op t x,ty,pos,af,gd⟩::rest)=qaZ rest:=rfl
@[go_sem] def qqj:qaZ (⟨dst,.convert s t x,ty,pos,af,gd⟩::rest)=qaZ rest:=rfl
@[go_sem] def qsr:qaZ (⟨dst,.slice t x lo hi mx,ty,pos,af,gd⟩::rest)=qaZ rest:=rfl
@[go_sem] def qou:qaZ (⟨dst,.fieldAddr t x i,ty,pos,af,gd⟩::rest)=qaZ rest:=rfl
@[go_sem] def qov:qaZ (⟨dst,.indexAddr t x y,ty,pos,af,gd⟩::rest)=qaZ rest:=rfl
@[go_sem] def qss:qaZ (⟨dst,.index t x y,ty,pos,af,gd⟩::rest)=qaZ rest:=rfl
@[go_sem] def qqk:qaZ (⟨dst,.extract x i,ty,pos,af,gd⟩::rest)=qaZ rest:=rfl
@[go_sem] def zft:qaZ (⟨dst,.call ⟨.builtin .len,#[x],#[t]⟩,ty,pos,af,gd⟩::rest)=qaZ rest:=rfl
@[go_sem] def zfu:qaZ (⟨dst,.call ⟨.builtin .min,#[x,y],ts⟩,ty,pos,af,gd⟩::rest)=qaZ rest:=rfl
@[go_sem] def qq3:qaZ (⟨dst,.lookup t x y ok,ty,pos,af,gd⟩::rest)=qaZ rest:=rfl
@[go_sem] def qst:qaZ (⟨dst,.alloc t,ty,pos,af,gd⟩::rest)=false:=rfl
@[go_sem] def qn1:qaZ (⟨dst,.buildSlice t n parts,ty,pos,af,gd⟩::rest)=false:=rfl
@[go_sem] def qsu:qaZ (⟨dst,.store t x y,ty,pos,af,gd⟩::rest)=false:=rfl
@[go_sem] def qq4:qaZ (⟨dst,.call ⟨.builtin .append,#[x,y],#[t,t']⟩,ty,pos,af,gd⟩::rest)=false:=rfl
end draw
end Go.VL
namespace Go.VL
set_option linter.defProp false
variable {o:Option (Prop×I)}{t e n j a g2 f l0:Nat}{p:Nat×Nat}{pd zr iv xd:D}{cs xs:List I}{h:Hole}{vc0 vc:Prop}{m:Bool}{os is:List Nat}{es:List (D×D)}{dp:DP}{ix:I}{lo hi:Option I}{d:Int}{op:BinOp}
variable {E:Env}{Q:Post}{fr:Fr}{H:List R}{T:Nat->Option TI}{ty:Ty}{sz b:Nat}{z:D}
def qm3:Bool->Ty->Nat->D->Option (Prop×I)
 | true,_,sz,pd=>some (pd.isPtr/\sz<=pd.ptrs.length,.d (.agg (pd.ptrs.take sz)))
 | false,ty,_,pd=>some (pd.isPtr/\0<pd.ptrs.length/\tchk ty (pd.ptrs.getD 0 .nil),.d (tnorm ty (pd.ptrs.getD 0 .nil)))
def qm4:Option R->Bool->Ty->Nat->Nat->Option (Prop×I)
 | some (.box cs),true,_,sz,off=>some (off+sz<=cs.length/\qcc ((cs.drop off).take sz),mkAgg ((cs.drop off).take sz))
 | some (.box cs),false,ty,_,off=>some (off<cs.length/\qhA ty (cs.getD off .junk),tnormI ty (cs.getD off .junk))
 | _,_,_,_,_=>none
def qec (b:Bool) (o:Option (Prop×I)):Option (Prop×I):=
 match b with
 | true=>none
 | false=>o
@[go_sem] def zfv:qec true o=none:=rfl
@[go_sem] def zfw:qec false o=o:=rfl
def qeM:Option R->Bool->Ty->Nat->D->Nat->Nat->Nat->Nat->D->Option (Prop×I)
 | some (.row g' k' .fz l),true,_,sz,_,g,k,idx,off,z=>some (g=g'/\k=k'/\idx<l.length/\off+sz<=k,.d (.agg (qaj (l.getD idx z) off sz)))
 | some (.row g' k' .fz l),false,ty,sz,_,g,k,idx,off,z=>some (g=g'/\k=k'/\idx<l.length/\off<k/\tchk ty ((l.getD idx z).cellAt off),.d (tnorm ty ((l.getD idx z).cellAt off)))
 | some (.row g' k' (.own []) l),true,_,sz,zr,g,k,idx,off,z=>qec (qf9 zr) (some (g=g'/\k=k'/\idx<l.length/\off+sz<=k/\∀ c∈qaj (l.getD idx z) off sz,c.scalar=true,.d (.agg (qaj (l.getD idx z) off sz))))
 | some (.row g' k' (.own hs) l),true,_,sz,zr,g,k,idx,off,z=>qec (qf9 zr)
   (
    match qbB k' hs idx (l.getD idx z) zr.cells off with
    | some (vc,xs)=>some (g=g'/\k=k'/\idx<l.length/\off+sz<=k/\zr.cells.length=sz/\vc/\qcc xs,mkAgg xs)
    | none=>none)
 | some (.row g' k' (.own _) l),false,ty,sz,_,g,k,idx,off,z=>qec (slTy ty) (some (g=g'/\k=k'/\idx<l.length/\off<k/\tchk ty ((l.getD idx z).cellAt off),.d (tnorm ty ((l.getD idx z).cellAt off))))
 | _,_,_,_,_,_,_,_,_,_=>none
def qmm:Option TI->List R->I->Option (Prop×I)
 | some ti,_,.d pd=>qm3 ti.ty.agg ti.ty ti.size pd
 | some ti,H,.ptr i off=>qm4 (qat H i) ti.ty.agg ti.ty ti.size off
 | some ti,H,.eptr i g k idx off z=>qeM (qat H i) ti.ty.agg ti.ty ti.size ti.zero g k idx off z
 | _,_,_=>none
@[go_sem] def zfx {p:I}:qfw T H t p=qmm (T t) H p:=by
 unfold qfw;cases hT:T t with
 | none=>cases p <;> simp only[qcB,hT] <;> rfl
 | some ti=>
  cases p with
  | d pd=>simp only[qmm,qcB,hT];cases ti.ty.agg <;> rfl
  | ptr i off=>
   simp only[qmm,qcB,hT,<-qaA];cases H[i]? with
   | none=>rfl
   | some r=>
    cases r <;> first|rfl|(rename_i cs;cases ti.ty.agg <;> rfl)
  | eptr i g k idx off z=>
   simp only[qmm,<-qaA];cases hi:H[i]? with
   | none=>simp only[qcB,hT,hi];rfl
   | some r=>
    cases r with
    | row g' k' dp l=>
     cases dp with
     | fz=>
      simp only[qcB,hT,hi];cases ti.ty.agg <;> rfl
     | own hs=>
      simp only[qmR];cases ha:ti.ty.agg with
      | true=>
       cases hn:qf9 ti.zero with
       | true=>cases hs <;> simp only[qeM,hn,qec]
       | false=>
        cases hs with
        | nil=>simp only[qcB,hT,hi,ha,hn,qeM,qec]
        | cons x r=>
         simp only[qcB,hT,hi,ha,hn,qeM,qec];cases qbB k' (x::r) idx (l.getD idx z) ti.zero.cells off <;> rfl
      | false=>
       cases hn:slTy ti.ty with
       | true=>cases hs <;> simp only[qeM,hn,qec]
       | false=>cases hs <;> simp only[qcB,hT,hi,ha,hn,qeM,qec]
    | _=>simp only[qcB,hT,hi] <;> rfl
  | _=>simp only[qcB,hT] <;> rfl
@[go_sem] def zfy:qmm (some ⟨ty,sz,b,z⟩) H (.d pd)=qm3 ty.agg ty sz pd:=rfl
@[go_sem] def zfz {i off:Nat}:qmm (some ⟨ty,sz,b,z⟩) H (.ptr i off)=qm4 (qat H i) ty.agg ty sz off:=rfl
@[go_sem] def zfA {i g k idx off:Nat}{z':D}:qmm (some ⟨ty,sz,b,z⟩) H (.eptr i g k idx off z')=qeM (qat H i) ty.agg ty sz z g k idx off z':=rfl
@[go_sem] def zfB:qm3 true ty sz pd=some (pd.isPtr/\sz<=pd.ptrs.length,.d (.agg (pd.ptrs.take sz))):=rfl
@[go_sem] def qsv:qm3 false ty sz pd=some (pd.isPtr/\0<pd.ptrs.length/\tchk ty (pd.ptrs.getD 0 .nil),.d (tnorm ty (pd.ptrs.getD 0 .nil))):=rfl
@[go_sem] def zfC {off:Nat}:qm4 (some (.box cs)) true ty sz off=some (off+sz<=cs.length/\qcc ((cs.drop off).take sz),mkAgg ((cs.drop off).take sz)):=rfl
@[go_sem] def qsw {off:Nat}:qm4 (some (.box cs)) false ty sz off=some (off<cs.length/\qhA ty (cs.getD off .junk),tnormI ty (cs.getD off .junk)):=rfl
section
variable {g k g' k' idx off:Nat}{l:List D}{z':D}{kk:IntKind}{hs:List Hole}
@[go_sem] def zfD:qeM (some (.row g' k' .fz l)) true ty sz z g k idx off z'=some (g=g'/\k=k'/\idx<l.length/\off+sz<=k,.d (.agg (qaj (l.getD idx z') off sz))):=rfl
@[go_sem] def zfE:qeM (some (.row g' k' (.own []) l)) true ty sz z g k idx off z'=qec (qf9 z) (some (g=g'/\k=k'/\idx<l.length/\off+sz<=k/\∀ c∈qaj (l.getD idx z') off sz,c.scalar=true,.d (.agg (qaj (l.getD idx z') off sz)))):=rfl
@[go_sem] def zfF:qeM (some (.row g' k' (.own (h::hs)) l)) true ty sz z g k idx off z'=qec (qf9 z)
   (
    match qbB k' (h::hs) idx (l.getD idx z') z.cells off with
    | some (vc,xs)=>some (g=g'/\k=k'/\idx<l.length/\off+sz<=k/\z.cells.length=sz/\vc/\qcc xs,mkAgg xs)
    | none=>none):=rfl
@[go_sem] def zfG:qeM (some (.row g' k' .fz l)) false ty sz z g k idx off z'=some (g=g'/\k=k'/\idx<l.length/\off<k/\tchk ty ((l.getD idx z').cellAt off),.d (tnorm ty ((l.getD idx z').cellAt off))):=rfl
@[go_sem] def zfH:qeM (some (.row g' k' (.own hs) l)) false ty sz z g k idx off z'=qec (slTy ty) (some (g=g'/\k=k'/\idx<l.length/\off<k/\tchk ty ((l.getD idx z').cellAt off),.d (tnorm ty ((l.getD idx z').cellAt off)))):=by cases hs <;> rfl
@[go_sem] def zfI:slTy (.int kk)=false:=rfl
@[go_sem] def zfJ:slTy .bool=false:=rfl
@[go_sem] def zfK:slTy (.slice e)=true:=rfl
@[go_sem] def zfL {cs:List D}:qf9 (.agg cs)=cs.any D.isNil:=rfl
end
attribute [go_sem] List.any_cons List.any_nil Bool.or_false Bool.false_or Bool.or_true Bool.true_or
@[go_sem] def zfM {k:IntKind}{n:Int}:(D.int k n).isNil=false:=rfl
@[go_sem] def zfN {x:Bool}:(D.bool x).isNil=false:=rfl
section
variable {g k g' k' idx off i:Nat}{l:List D}{hs:List Hole}{x:I}
def xOp3 (vc0:Prop) (H':List R):Option (Prop×I)->Prop->Option (Prop×I×List R)
 | some (vc',x),vc=>some (vc0/\vc/\vc',x,H')
 | none,_=>none
def xOp2 (T:Nat->Option TI) (t:Nat) (p:I) (vc0:Prop):Option (Prop×List R)->Option (Prop×I×List R)
 | some (vc,H')=>xOp3 vc0 H' (qhr T H' t p) vc
 | none=>none
def xOp1 (T:Nat->Option TI) (t:Nat) (p:I) (i idx off:Nat) (z:D) (zr:D) (q:Prop×List R):Option (Prop×I×List R):=xOp2 T t p q.1 (qdV z i idx (qcT zr.cells off) q.2)
def qq5 {z':D}(hT:T t=some ⟨ty,sz,b,z⟩):qhF T H t (.eptr i g k idx off z')=xOp1 T t (.eptr i g k idx off z') i idx off z' z (shut H):=by
 simp only[qhF,hT,xOp1];cases qdV z' i idx (qcT z.cells off) (shut H).2 with
 | none=>rfl
 | some p=>
  obtain⟨vc,H'⟩:=p;simp only[xOp2];cases qhr T H' t (.eptr i g k idx off z') <;> rfl
def xOp0 (T:Nat->Option TI) (H:List R) (t:Nat) (p:I):Option TI->Option (Prop×I×List R)
 | some ti=>match p with
  | .eptr i g k idx off z=>xOp1 T t (.eptr i g k idx off z) i idx off z ti.zero (shut H)
  | _=>none
 | none=>none
@[go_sem] def zfO {p:I}:qhF T H t p=xOp0 T H t p (T t):=by
 cases hT:T t with
 | none=>simp only[qhF,hT];cases p <;> rfl
 | some ti=>
  obtain⟨ty,sz,b,z⟩:=ti;cases p with
  | eptr i g k idx off z'=>exact qq5 hT
  | _=>simp only[qhF,hT];rfl
@[go_sem] def zfP {z':D}:xOp0 T H t (.eptr i g k idx off z') (some ⟨ty,sz,b,z⟩)=xOp1 T t (.eptr i g k idx off z') i idx off z' z (shut H):=rfl
@[go_sem] def zfQ {p:I}{z':D}:xOp1 T t p i idx off z' zr (vc0,H)=xOp2 T t p vc0 (qdV z' i idx (qcT zr.cells off) H):=rfl
@[go_sem] def zfR {p:I}:xOp2 T t p vc0 (some (vc,H))=xOp3 vc0 H (qhr T H t p) vc:=rfl
@[go_sem] def zfS {vc':Prop}:xOp3 vc0 H (some (vc',x)) vc=some (vc0/\vc/\vc',x,H):=rfl
@[go_sem] def zfT:qcT [] n=[]:=rfl
@[go_sem] def zfU {r:List D}:qcT (.nil::r) n=n::qcT r (n+1):=rfl
@[go_sem] def zfV {r:List D}{k:IntKind}{m:Int}:qcT (.int k m::r) n=qcT r (n+1):=rfl
@[go_sem] def zfW {r:List D}:qcT (.bool m::r) n=qcT r (n+1):=rfl
@[go_sem] def zfX {z':D}:qdV z' i idx [] H=some (True,H):=rfl
def xOC (c:Prop):Option (Prop×List R)->Option (Prop×List R)
 | some (vc,H')=>some (c/\vc,H')
 | none=>none
@[go_sem] def zfY {c:Prop}:xOC c (some (vc,H))=some (c/\vc,H):=rfl
def xOR (z:D) (H:List R) (i idx o:Nat) (os:List Nat):Option R->Option (Prop×List R)
 | some (.row g k (.own hs) l)=>xOC (lstD ((l.getD idx z).cellAt o)/\apart idx o hs/\o<k/\idx<l.length)
   (qdV z i idx os (H.set i (.row g k (.own ((idx,o,.sl H.length 1 (lkD ((l.getD idx z).cellAt o)) 0 ((l.getD idx z).cellAt o).elems.length)::hs)) l) ++
     [.row 1 (lkD ((l.getD idx z).cellAt o)) (.own []) ((l.getD idx z).cellAt o).elems]))
 | _=>none
@[go_sem] def zfZ {z':D}{o:Nat}:qdV z' i idx (o::os) H=xOR z' H i idx o os (qat H i):=by
 simp only[qdV,qaA];cases qat H i with
 | none=>rfl
 | some r=>
  cases r with
  | row g k dp l=>
   cases dp with
   | fz=>rfl
   | own hs=>
    simp only[xOR];cases qdV z' i idx os (H.set i (.row g k (.own ((idx,o,.sl H.length 1 (lkD ((l.getD idx z').cellAt o)) 0 ((l.getD idx z').cellAt o).elems.length)::hs)) l) ++
     [.row 1 (lkD ((l.getD idx z').cellAt o)) (.own []) ((l.getD idx z').cellAt o).elems]) <;> rfl
  | _=>rfl
@[go_sem] def zga {z':D}{o:Nat}:xOR z' H i idx o os (some (.row g k (.own hs) l))=xOC (lstD ((l.getD idx z').cellAt o)/\apart idx o hs/\o<k/\idx<l.length)
   (qdV z' i idx os (H.set i (.row g k (.own ((idx,o,.sl H.length 1 (lkD ((l.getD idx z').cellAt o)) 0 ((l.getD idx z').cellAt o).elems.length)::hs)) l) ++
     [.row 1 (lkD ((l.getD idx z').cellAt o)) (.own []) ((l.getD idx z').cellAt o).elems])):=rfl
@[go_sem] def zgb {l:List D}:lkD (.lst k l)=k:=rfl
@[go_sem] def zgc {l:List D}:lstD (.lst k l)=True:=rfl
@[go_sem] def zgd:apart idx off []=True:=rfl
@[go_sem] def zge:apart idx off (h::hs)=((h.1=idx/\h.2.1≠off)/\apart idx off hs):=rfl
@[go_sem] def zgf:qaD k [] j=none:=rfl
@[go_sem] def zgg {c:Nat}:qaD k ((a,c,x)::hs) j=if a*k+c=j then some x else qaD k hs j:=rfl
def xL5 (ty:Ty) (sz g k g' k' idx off:Nat) (l:List D) (zr:D):Option (Prop×List I)->Option (Prop×I)
 | some (vc,xs)=>some (g=g'/\k=k'/\idx<l.length/\off+sz<=k/\zr.cells.length=sz/\vc/\qcc xs,mkAgg xs)
 | none=>none
def xL6 (ty:Ty) (g k g' k' idx off:Nat) (l:List D):Option I->Option (Prop×I)
 | some x=>some (g=g'/\k=k'/\idx<l.length/\off<k/\qhA ty x,tnormI ty x)
 | none=>none
def xL7 (b:Bool) (o:Option (Prop×I)):Option (Prop×I):=
 match b with
 | true=>o
 | false=>none
@[go_sem] def zgh:xL7 true o=o:=rfl
def xL4 (ti:TI) (g k idx off:Nat) (z:D):Option R->Bool->Option (Prop×I)
 | some (.row g' k' (.own (h::hs)) l),true=>xL5 ti.ty ti.size g k g' k' idx off l ti.zero (qbB k' (h::hs) idx (l.getD idx z) ti.zero.cells off)
 | some (.row g' k' (.own (h::hs)) l),false=>xL7 (slTy ti.ty) (xL6 ti.ty g k g' k' idx off l (qaD k' (h::hs) (idx*k'+off)))
 | _,_=>none
def xL3 (H:List R):Option TI->I->Option (Prop×I)
 | some ti,.eptr i g k idx off z=>xL4 ti g k idx off z (qat H i) ti.ty.agg
 | _,_=>none
@[go_sem] def zgi {p:I}:qhr T H t p=xL3 H (T t) p:=by
 unfold qhr;cases T t with
 | none=>rfl
 | some ti=>
  cases p with
  | eptr i g k idx off z=>
   simp only[xL3,<-qaA];cases H[i]? with
   | none=>rfl
   | some r=>
    cases r with
    | row g' k' dp l=>
     cases dp with
     | fz=>cases ti.ty.agg <;> rfl
     | own hs=>
      cases hs with
      | nil=>cases ti.ty.agg <;> rfl
      | cons h hs=>
       cases ti.ty.agg with
       | true=>simp only[xL4];cases qbB k' (h::hs) idx (l.getD idx z) ti.zero.cells off <;> rfl
       | false=>
        simp only[xL4];cases slTy ti.ty with
        | true=>simp only[xL7];cases qaD k' (h::hs) (idx*k'+off) <;> rfl
        | false=>rfl
    | _=>cases ti.ty.agg <;> rfl
  | _=>rfl
@[go_sem] def zgj {z':D}:xL3 H (some ⟨ty,sz,b,z⟩) (.eptr i g k idx off z')=xL4 ⟨ty,sz,b,z⟩ g k idx off z' (qat H i) ty.agg:=rfl
@[go_sem] def zgk {z':D}:xL4 ⟨ty,sz,b,z⟩ g k idx off z' (some (.row g' k' (.own (h::hs)) l)) true=xL5 ty sz g k g' k' idx off l z (qbB k' (h::hs) idx (l.getD idx z') z.cells off):=rfl
@[go_sem] def zgl {z':D}:xL4 ⟨ty,sz,b,z⟩ g k idx off z' (some (.row g' k' (.own (h::hs)) l)) false=xL7 (slTy ty) (xL6 ty g k g' k' idx off l (qaD k' (h::hs) (idx*k'+off))):=rfl
@[go_sem] def zgm:xL5 ty sz g k g' k' idx off l zr (some (vc,xs))=some (g=g'/\k=k'/\idx<l.length/\off+sz<=k/\zr.cells.length=sz/\vc/\qcc xs,mkAgg xs):=rfl
@[go_sem] def zgn:xL6 ty g k g' k' idx off l (some x)=some (g=g'/\k=k'/\idx<l.length/\off<k/\qhA ty x,tnormI ty x):=rfl
def xCH1 (x:Option I):Option (Prop×List I)->Option (Prop×List I)
 | some (vc,xs)=>match x with
  | some x=>some (vc,x::xs)
  | none=>none
 | none=>none
def xCH2 (c:D):Option (Prop×List I)->Option (Prop×List I)
 | some (vc,xs)=>some (c.scalar=true/\vc,.d c::xs)
 | none=>none
@[go_sem] def zgo:xCH1 (some x) (some (vc,xs))=some (vc,x::xs):=rfl
@[go_sem] def zgp {c:D}:xCH2 c (some (vc,xs))=some (c.scalar=true/\vc,.d c::xs):=rfl
variable {c:D}{r:List D}
@[go_sem] def zgq:qbB k hs idx c [] off=some (True,[]):=rfl
@[go_sem] def zgr:qbB k hs idx c (.nil::r) off=xCH1 (qaD k hs (idx*k+off)) (qbB k hs idx c r (off+1)):=by
 simp only[qbB];cases qaD k hs (idx*k+off) <;> cases qbB k hs idx c r (off+1) <;> rfl
@[go_sem] def zgs {kk:IntKind}{m:Int}:qbB k hs idx c (.int kk m::r) off=xCH2 (c.cellAt off) (qbB k hs idx c r (off+1)):=by
 simp only[qbB];cases qbB k hs idx c r (off+1) <;> rfl
@[go_sem] def zgt:qbB k hs idx c (.bool m::r) off=xCH2 (c.cellAt off) (qbB k hs idx c r (off+1)):=by
 simp only[qbB];cases qbB k hs idx c r (off+1) <;> rfl
def xCl2 (H:List R) (i g k idx off r g' k' n:Nat) (hs:List Hole) (l:List D):Option R->Option (Prop×List R)
 | some (.row g2 k2 (.own []) es)=>some (g'=g2/\k'=k2/\r≠i/\apart idx off hs/\off<k/\idx<l.length,
    (H.set i (.row g k (.own hs) (putC k l idx off (.lst k' (es.take n))))).set r (.dead g2))
 | _=>none
def xCl1 (H:List R) (i:Nat):Option R->Option (Prop×List R)
 | some (.row g k (.own ((idx,off,.sl r g' k' 0 n)::hs)) l)=>xCl2 H i g k idx off r g' k' n hs l (qat H r)
 | _=>none
@[go_sem] def zgu:qe2 H i=xCl1 H i (qat H i):=by
 unfold qe2;rw[qaA];split
 ·rename_i g k idx off r g' k' n hs l hi;rw[hi];simp only[xCl1,qaA];split
  ·rename_i hr;rw[hr];rfl
  ·rename_i hr;generalize qat H r=o at hr;rcases o with _|r
   ·rfl
   ·cases r with
    | row g k dp l=>
     rcases dp with _|hs
     ·rfl
     ·cases hs with
      | nil=>exact absurd rfl (hr _ _ _)
      | cons x y=>rfl
    | _=>rfl
 ·rename_i hi;generalize qat H i=o at hi;unfold xCl1;split
  ·exact absurd rfl (hi _ _ _ _ _ _ _ _ _ _)
  ·rfl
@[go_sem] def zgv {r:Nat}:xCl1 H i (some (.row g k (.own ((idx,off,.sl r g' k' 0 n)::hs)) l))=xCl2 H i g k idx off r g' k' n hs l (qat H r):=rfl
@[go_sem] def zgw:xCl1 H i (some (.row g k (.own []) l))=none:=rfl
@[go_sem] def zgx:xCl1 H i (some (.row g k .fz l))=none:=rfl
@[go_sem] def zgy:xCl1 H i (some (.box cs))=none:=rfl
@[go_sem] def zgz:xCl1 H i (some (.dead g))=none:=rfl
@[go_sem] def zgA:xCl1 H i (some (.map es))=none:=rfl
@[go_sem] def zgB {r k2:Nat}{es:List D}:xCl2 H i g k idx off r g' k' n hs l (some (.row g2 k2 (.own []) es))=some (g'=g2/\k'=k2/\r≠i/\apart idx off hs/\off<k/\idx<l.length,
    (H.set i (.row g k (.own hs) (putC k l idx off (.lst k' (es.take n))))).set r (.dead g2)):=rfl
@[go_sem] def zgC {r:Nat}:xCl2 H i g k idx off r g' k' n hs l (some (.dead g2))=none:=rfl
def xSh1 (is:List Nat) (H:List R):Option (Prop×List R)->Prop×List R
 | some (vc,H')=>(vc/\(qeQ is H').1,(qeQ is H').2)
 | none=>qeQ is H
@[go_sem] def zgD:qeQ [] H=(True,H):=rfl
@[go_sem] def zgE:qeQ (i::is) H=xSh1 is H (qe2 H i):=by
 simp only[qeQ];cases qe2 H i <;> rfl
@[go_sem] def zgF:xSh1 is H none=qeQ is H:=rfl
def andSh (c:Prop):Prop×List R->Prop×List R
 | (vc,H)=>(c/\vc,H)
@[go_sem] def zgG {c:Prop}:andSh c (vc,H)=(c/\vc,H):=rfl
@[go_sem] def zgH {H':List R}:xSh1 is H (some (vc,H'))=andSh vc (qeQ is H'):=rfl
@[go_sem] def zgI:qfB []=false:=rfl
@[go_sem] def zgJ {H:List R}:qfB (.row g k (.own (h::hs)) l::H)=true:=rfl
@[go_sem] def zgK {H:List R}:qfB (.row g k (.own []) l::H)=qfB H:=rfl
@[go_sem] def zgL {H:List R}:qfB (.row g k .fz l::H)=qfB H:=rfl
@[go_sem] def zgM {H:List R}:qfB (.box cs::H)=qfB H:=rfl
@[go_sem] def zgN {H:List R}:qfB (.dead g::H)=qfB H:=rfl
@[go_sem] def zgO {H:List R}:qfB (.map es::H)=qfB H:=rfl
@[go_sem] def zgP:idxs [] n=[]:=rfl
@[go_sem] def zgQ {r:R}{H:List R}:idxs (r::H) n=n::idxs H (n+1):=rfl
def xShut (H:List R):Bool->Prop×List R
 | true=>qeQ (idxs H 0++(idxs H 0++(idxs H 0++(idxs H 0++(idxs H 0++idxs H 0))))) H
 | false=>(True,H)
@[go_sem] def zgR:shut H=xShut H (qfB H):=rfl
@[go_sem] def zgS:xShut H true=qeQ (idxs H 0++(idxs H 0++(idxs H 0++(idxs H 0++(idxs H 0++idxs H 0))))) H:=rfl
@[go_sem] def zgT:xShut H false=(True,H):=rfl
end
def xFA4 (off:Nat) (fsz:Nat) (H:List R):I->Option (Prop×I)
 | .d pd=>some (0<fsz/\pd.isPtr,.d (.ptr (pd.ptrs.drop off)))
 | .ptr i o=>match qat H i with
  | some (.box _)=>some (0<fsz,.ptr i (o+off))
  | _=>none
 | .eptr i g k idx o z=>match qat H i with
  | some (.row g' k' _ _)=>some (0<fsz/\g=g'/\k=k',.eptr i g k idx (o+off) z)
  | _=>none
 | _=>none
def xFA3 (off:Nat) (H:List R) (x:I):Option TI->Option (Prop×I)
 | some fi=>xFA4 off fi.size H x
 | none=>none
def xFA2 (T:Nat->Option TI) (H:List R) (x:I):Option (Nat×Nat)->Option (Prop×I)
 | some (off,ft)=>xFA3 off H x (T ft)
 | none=>none
def nthF:List (Nat×Nat)->Nat->Option (Nat×Nat)
 | [],_=>none
 | p::_,0=>some p
 | _::r,n+1=>nthF r n
def qkk : ∀ (l:List (Nat×Nat)) (i:Nat),l[i]?=nthF l i
 | [],i=>by simp[nthF]
 | r::l,0=>by simp[nthF]
 | r::l,i+1=>by simpa [nthF] using qkk l i
def xFA1 (T:Nat->Option TI) (H:List R) (x:I) (f:Nat):Option TI->Option (Prop×I)
 | some ⟨.struct fs,_,_,_⟩=>xFA2 T H x (nthF fs f)
 | _=>none
@[go_sem] def qq6 {s:Nat}{x:I}:qcw T H s x f=xFA1 T H x f (T s):=by
 unfold qcw;cases T s with
 | none=>rfl
 | some ti=>
  obtain⟨ty,sz,b,z⟩:=ti;cases ty with
  | struct fs=>
   simp only[xFA1,<-qkk];cases fs[f]? with
   | none=>rfl
   | some p=>
    obtain⟨off,ft⟩:=p;simp only[xFA2];cases T ft with
    | none=>rfl
    | some fi=>
     simp only[xFA3];cases x <;> simp only[xFA4,qaA] <;> (first|rfl|(split <;> first|rfl|(simp_all;done)|skip))
     all_goals (rename_i hi;rw[hi])
  | _=>rfl
@[go_sem] def zgU {r:List (Nat×Nat)}:nthF (p::r) 0=some p:=rfl
@[go_sem] def zgV {r:List (Nat×Nat)}:nthF (p::r) (n+1)=nthF r n:=rfl
@[go_sem] def zgW {x:I}{fs:List (Nat×Nat)}:xFA1 T H x f (some ⟨.struct fs,sz,b,z⟩)=xFA2 T H x (nthF fs f):=rfl
@[go_sem] def zgX {x:I}{off ft:Nat}:xFA2 T H x (some (off,ft))=xFA3 off H x (T ft):=rfl
@[go_sem] def zgY {x:I}{off:Nat}:xFA3 off H x (some ⟨ty,sz,b,z⟩)=xFA4 off sz H x:=rfl
@[go_sem] def zgZ {off:Nat}:xFA4 off sz H (.d pd)=some (0<sz/\pd.isPtr,.d (.ptr (pd.ptrs.drop off))):=rfl
def qlc:Option R->Bool
 | some (.box _)=>true
 | _=>false
@[go_sem] def zha:qlc (some (.box cs))=true:=rfl
@[go_sem] def zhb {off i o:Nat}:xFA4 off sz H (.ptr i o)=if qlc (qat H i)=true then some (0<sz,.ptr i (o+off)) else none:=by
 simp only[xFA4];cases qat H i with
 | none=>rfl
 | some r=>cases r <;> rfl
def rowR:Option R->Option (Nat×Nat)
 | some (.row g k _ _)=>some (g,k)
 | _=>none
def xFA5 (off fsz:Nat) (i g k idx o:Nat) (z:D):Option (Nat×Nat)->Option (Prop×I)
 | some (g',k')=>some (0<fsz/\g=g'/\k=k',.eptr i g k idx (o+off) z)
 | none=>none
@[go_sem] def zhc {g k:Nat}{l:List D}:rowR (some (.row g k dp l))=some (g,k):=rfl
@[go_sem] def zhd {off i g k idx o:Nat}{z':D}:xFA4 off sz H (.eptr i g k idx o z')=xFA5 off sz i g k idx o z' (rowR (qat H i)):=by
 simp only[xFA4];cases qat H i with
 | none=>rfl
 | some r=>cases r <;> rfl
@[go_sem] def zhe {off i g k idx o g' k':Nat}{z':D}:xFA5 off sz i g k idx o z' (some (g',k'))=some (0<sz/\g=g'/\k=k',.eptr i g k idx (o+off) z'):=rfl
def xIA4 (esz:Nat) (ez:D) (H:List R) (iv:D):I->Option (Prop×I)
 | .d xd=>some (xd.isLst esz/\iv.isInt .i64/\0<=iv.toInt/\iv.toInt<xd.elems.length,.d (.ptr (qaj (xd.elems.getD iv.toInt.toNat ez) 0 esz)))
 | .sl i g k lo n=>match rowR (qat H i) with
  | some (g',k')=>some (g=g'/\k=k'/\k=esz/\iv.isInt .i64/\0<=iv.toInt/\iv.toInt<n,.eptr i g k (lo+iv.toInt.toNat) 0 ez)
  | none=>none
 | _=>none
def xIA5 (esz n:Nat) (H:List R) (iv:D):I->Option (Prop×I)
 | .d xd=>some (xd.isPtr/\iv.isInt .i64/\0<=iv.toInt/\iv.toInt<n,.d (.ptr (xd.ptrs.drop (iv.toInt.toNat*esz))))
 | .ptr i off=>if qlc (qat H i)=true then some (iv.isInt .i64/\0<=iv.toInt/\iv.toInt<n,.ptr i (off+iv.toInt.toNat*esz)) else none
 | .eptr i g k idx o z=>match rowR (qat H i) with
  | some (g',k')=>some (g=g'/\k=k'/\iv.isInt .i64/\0<=iv.toInt/\iv.toInt<n,.eptr i g k idx (o+iv.toInt.toNat*esz) z)
  | none=>none
 | _=>none
def xIA2 (H:List R) (iv:D) (x:I):Option TI->Option (Prop×I)
 | some ⟨_,sz,_,z⟩=>xIA4 sz z H iv x
 | none=>none
def xIA3 (n:Nat) (H:List R) (iv:D) (x:I):Option TI->Option (Prop×I)
 | some ⟨_,sz,_,z⟩=>xIA5 sz n H iv x
 | none=>none
def xIA1 (T:Nat->Option TI) (H:List R) (x:I):Option TI->I->Option (Prop×I)
 | some ⟨.slice e,_,_,_⟩,.d iv=>xIA2 H iv x (T e)
 | some ⟨.array n e,_,_,_⟩,.d iv=>xIA3 n H iv x (T e)
 | _,_=>none
@[go_sem] def qq7 {x:I}:qcg T H t x ix=xIA1 T H x (T t) ix:=by
 unfold qcg;cases T t with
 | none=>cases ix <;> rfl
 | some ti=>
  obtain⟨ty,sz,b,z⟩:=ti;cases ix with
  | d iv=>
   cases ty with
   | slice e=>
    simp only[xIA1];cases T e with
    | none=>rfl
    | some ei=>
     obtain⟨ety,esz,eb,ez⟩:=ei;simp only[xIA2];cases x <;> simp only[xIA4,<-qaA]
     rename_i i g k lo n;cases H[i]? with
     | none=>rfl
     | some r=>cases r <;> rfl
   | array n e=>
    simp only[xIA1];cases T e with
    | none=>rfl
    | some ei=>
     obtain⟨ety,esz,eb,ez⟩:=ei;simp only[xIA3];cases x <;> simp only[xIA5,<-qaA]
     ·rename_i i off;cases H[i]? with
      | none=>rfl
      | some r=>cases r <;> rfl
     ·rename_i i g k idx o z';cases H[i]? with
      | none=>rfl
      | some r=>cases r <;> rfl
   | _=>rfl
  | _=>cases ty <;> rfl
@[go_sem] def zhf {x:I}:xIA1 T H x (some ⟨.slice e,sz,b,z⟩) (.d iv)=xIA2 H iv x (T e):=rfl
@[go_sem] def zhg {x:I}:xIA1 T H x (some ⟨.array n e,sz,b,z⟩) (.d iv)=xIA3 n H iv x (T e):=rfl
@[go_sem] def zhh {x:I}:xIA2 H iv x (some ⟨ty,sz,b,z⟩)=xIA4 sz z H iv x:=rfl
@[go_sem] def zhi {x:I}:xIA3 n H iv x (some ⟨ty,sz,b,z⟩)=xIA5 sz n H iv x:=rfl
@[go_sem] def zhj:xIA4 sz z H iv (.d xd)=some (xd.isLst sz/\iv.isInt .i64/\0<=iv.toInt/\iv.toInt<xd.elems.length,.d (.ptr (qaj (xd.elems.getD iv.toInt.toNat z) 0 sz))):=rfl
def xIA6 (esz:Nat) (ez:D) (iv:D) (i g k lo n:Nat):Option (Nat×Nat)->Option (Prop×I)
 | some (g',k')=>some (g=g'/\k=k'/\k=esz/\iv.isInt .i64/\0<=iv.toInt/\iv.toInt<n,.eptr i g k (lo+iv.toInt.toNat) 0 ez)
 | none=>none
@[go_sem] def zhk {i g k lo:Nat}:xIA4 sz z H iv (.sl i g k lo n)=xIA6 sz z iv i g k lo n (rowR (qat H i)):=by
 simp only[xIA4];cases rowR (qat H i) <;> rfl
@[go_sem] def zhl {i g k lo g' k':Nat}:xIA6 sz z iv i g k lo n (some (g',k'))=some (g=g'/\k=k'/\k=sz/\iv.isInt .i64/\0<=iv.toInt/\iv.toInt<n,.eptr i g k (lo+iv.toInt.toNat) 0 z):=rfl
@[go_sem] def zhm {i off:Nat}:xIA5 sz n H iv (.ptr i off)=if qlc (qat H i)=true then some (iv.isInt .i64/\0<=iv.toInt/\iv.toInt<n,.ptr i (off+iv.toInt.toNat*sz)) else none:=rfl
def qn2 (agg:Bool) (ty:Ty) (sz off:Nat):I->Option (Prop×I)
 | .d xd=>match agg with
  | true=>some (off+sz<=xd.cells.length/\xd.one=false/\(∀ n,xd≠.tup n),.d (.agg (qaj xd off sz)))
  | false=>some (off<xd.cells.length/\xd.one=false/\(∀ n,xd≠.tup n)/\tchk ty (xd.cellAt off),.d (tnorm ty (xd.cellAt off)))
 | .agg cs=>match agg with
  | true=>some (off+sz<=cs.length/\qcc ((cs.drop off).take sz),mkAgg ((cs.drop off).take sz))
  | false=>some (off<cs.length/\qhA ty (cs.getD off .junk),tnormI ty (cs.getD off .junk))
 | _=>none
def qq8 {ti:TI}{off:Nat}{x:I}:qnJ ti off x=qn2 ti.ty.agg ti.ty ti.size off x:=by
 unfold qnJ;cases x <;> simp only[qn2] <;> cases ti.ty.agg <;> rfl
@[go_sem] def zhn {off:Nat}:qn2 false ty sz off (.d xd)=some (off<xd.cells.length/\xd.one=false/\(∀ n,xd≠.tup n)/\tchk ty (xd.cellAt off),.d (tnorm ty (xd.cellAt off))):=rfl
def xIx2 (n:Nat) (iv:D) (x:I):Option TI->Option (Prop×I)
 | some ei=>match qn2 ei.ty.agg ei.ty ei.size (iv.toInt.toNat*ei.size) x with
  | some (vc,y)=>some (iv.isInt .i64/\0<=iv.toInt/\iv.toInt<n/\vc,y)
  | none=>none
 | none=>none
def xIxS (iv:D):I->Option (Prop×I)
 | .d (.raw (.string s))=>some (iv.isCnt/\0<=iv.toInt/\iv.toInt.toNat<s.size,.d (.int .u8 (qja s iv.toInt.toNat)))
 | _=>none
def xIx1 (T:Nat->Option TI) (x:I):Option TI->I->Option (Prop×I)
 | some ⟨.array n e,_,_,_⟩,.d iv=>xIx2 n iv x (T e)
 | some ⟨.string,_,_,_⟩,.d iv=>xIxS iv x
 | _,_=>none
@[go_sem] def zho {s:ByteArray}:xIxS iv (.d (.raw (.string s)))=some (iv.isCnt/\0<=iv.toInt/\iv.toInt.toNat<s.size,.d (.int .u8 (qja s iv.toInt.toNat))):=rfl
@[go_sem] def zhp {x:I}:xIx1 T x (some ⟨.string,sz,b,z⟩) (.d iv)=xIxS iv x:=rfl
@[go_sem] def zhq {x:I}:qjl T t x ix=xIx1 T x (T t) ix:=by
 unfold qjl;cases T t with
 | none=>cases ix <;> rfl
 | some ti=>
  obtain⟨ty,sz,b,z⟩:=ti;cases ix with
  | d iv=>
   cases ty with
   | array n e=>
    simp only[xIx1];cases T e with
    | none=>rfl
    | some ei=>simp only[xIx2,qq8];rfl
   | string=>cases x <;> first|rfl|(rename_i xd;cases xd <;> first|rfl|(rename_i v;cases v <;> rfl))
   | _=>rfl
  | _=>cases ty <;> rfl
@[go_sem] def zhr {x:I}:xIx1 T x (some ⟨.array n e,sz,b,z⟩) (.d iv)=xIx2 n iv x (T e):=rfl
def andX (iv:D) (n:Nat):Option (Prop×I)->Option (Prop×I)
 | some (vc,y)=>some (iv.isInt .i64/\0<=iv.toInt/\iv.toInt<n/\vc,y)
 | none=>none
@[go_sem] def zhs {y:I}:andX iv n (some (vc,y))=some (iv.isInt .i64/\0<=iv.toInt/\iv.toInt<n/\vc,y):=rfl
@[go_sem] def zht {x:I}:xIx2 n iv x (some ⟨ty,sz,b,z⟩)=andX iv n (qn2 ty.agg ty sz (iv.toInt.toNat*sz) x):=by
 simp only[xIx2];cases qn2 ty.agg ty sz (iv.toInt.toNat*sz) x <;> rfl
@[go_sem] def zhu:optI none d=some d:=rfl
@[go_sem] def zhv {x:D}:optI (some (.d x)) d=some x.toInt:=rfl
@[go_sem] def zhw:optC none=True:=rfl
@[go_sem] def zhx {x:D}:optC (some (.d x))=x.isInt .i64:=rfl
def xSl4 (esz:Nat) (xd:D) (c:Prop):Option Int->Option Int->Option (Prop×I)
 | some l,some h=>some (xd.isLst esz/\c/\0<esz/\0<=l/\l<=h/\h<=xd.elems.length,.d (slD esz xd l h))
 | _,_=>none
def xSl5 (esz:Nat) (i g k l0 n:Nat) (c:Prop):Option (Nat×Nat)->Option Int->Option Int->Option (Prop×I)
 | some (g',k'),some l,some h=>some (g=g'/\k=k'/\k=esz/\c/\0<=l/\l<=h/\h<=n,.sl i g k (l0+l.toNat) (h-l).toNat)
 | _,_,_=>none
def xSl3 (esz:Nat) (H:List R) (lo hi:Option I):I->Option (Prop×I)
 | .d xd=>xSl4 esz xd (optC lo/\optC hi) (optI lo 0) (optI hi xd.elems.length)
 | .sl i g k l0 n=>xSl5 esz i g k l0 n (optC lo/\optC hi) (rowR (qat H i)) (optI lo 0) (optI hi n)
 | _=>none
def xSl2 (H:List R) (lo hi:Option I) (x:I):Option TI->Option (Prop×I)
 | some ei=>xSl3 ei.size H lo hi x
 | none=>none
def xSl1 (T:Nat->Option TI) (H:List R) (lo hi:Option I) (x:I):Option TI->Option I->Option (Prop×I)
 | some ⟨.slice e,_,_,_⟩,none=>xSl2 H lo hi x (T e)
 | _,_=>none
@[go_sem] def zhy {x:I}{mx:Option I}:qhj T H t x lo hi mx=xSl1 T H lo hi x (T t) mx:=by
 unfold qhj;cases T t with
 | none=>cases mx <;> rfl
 | some ti=>
  obtain⟨ty,sz,b,z⟩:=ti;cases mx with
  | some m=>cases ty <;> rfl
  | none=>
   cases ty with
   | slice e=>
    simp only[xSl1];cases T e with
    | none=>rfl
    | some ei=>
     simp only[xSl2];cases x <;> simp only[xSl3,<-qaA]
     ·rename_i xd;cases optI lo 0 <;> cases optI hi xd.elems.length <;> simp only[xSl4,and_assoc]
     ·rename_i i g k l0 n;cases H[i]? with
      | none=>cases optI lo 0 <;> cases optI hi n <;> rfl
      | some r=>
       cases r <;> cases optI lo 0 <;> cases optI hi n <;> simp only[rowR,xSl5,and_assoc]
   | _=>rfl
@[go_sem] def zhz {x:I}:xSl1 T H lo hi x (some ⟨.slice e,sz,b,z⟩) none=xSl2 H lo hi x (T e):=rfl
@[go_sem] def zhA {x:I}:xSl2 H lo hi x (some ⟨ty,sz,b,z⟩)=xSl3 sz H lo hi x:=rfl
@[go_sem] def zhB:xSl3 sz H lo hi (.d xd)=xSl4 sz xd (optC lo/\optC hi) (optI lo 0) (optI hi xd.elems.length):=rfl
@[go_sem] def zhC {i g k:Nat}:xSl3 sz H lo hi (.sl i g k l0 n)=xSl5 sz i g k l0 n (optC lo/\optC hi) (rowR (qat H i)) (optI lo 0) (optI hi n):=rfl
@[go_sem] def zhD {k:Nat}{l h:Int}:slD k .nil l h=.nil:=rfl
@[go_sem] def zhE {k k':Nat}{L:List D}{l h:Int}:slD k (.lst k' L) l h=.lst k ((L.drop l.toNat).take (h-l).toNat):=rfl
@[go_sem] def zhF {c:Prop}{l h:Int}:xSl4 sz xd c (some l) (some h)=some (xd.isLst sz/\c/\0<sz/\0<=l/\l<=h/\h<=xd.elems.length,.d (slD sz xd l h)):=rfl
@[go_sem] def zhG {i g k g' k':Nat}{c:Prop}{l h:Int}:xSl5 sz i g k l0 n c (some (g',k')) (some l) (some h)=some (g=g'/\k=k'/\k=sz/\c/\0<=l/\l<=h/\h<=n,.sl i g k (l0+l.toNat) (h-l).toNat):=rfl
def eqB (x y:Int):Bool:=decide (x=y)
def ltB (x y:Int):Bool:=decide (x<y)
def leB (x y:Int):Bool:=decide (x<=y)
@[go_sem] def zhH {x y:Int}:eqB x y=decide (x=y):=rfl
@[go_sem] def zhI {x y:Int}:ltB x y=decide (x<y):=rfl
@[go_sem] def zhJ {x y:Int}:leB x y=decide (x<=y):=rfl
def pickB (c x y:Bool):Bool:=if c=true then x else y
@[go_sem] def zhK {c y:Bool}:pickB c true y=(c || y):=by cases c <;> rfl
@[go_sem] def zhL {c x:Bool}:pickB c x false=(c&&x):=by cases c <;> rfl
def minI (x y:Int):Int:=if y<x then y else x
def maxI (x y:Int):Int:=if x<y then y else x
@[go_sem] def zhM {x y:Int}:minI x y=min x y:=by unfold minI;omega
@[go_sem] def zhN {x y:Int}:maxI x y=max x y:=by unfold maxI;omega
def xBI (op:BinOp) (k:IntKind) (x y:D):Option (Prop×I):=
 match op with
 | .add=>some (x.isInt k/\y.isInt k/\InK k (x.toInt+y.toInt),.d (.int k (x.toInt+y.toInt)))
 | .sub=>some (x.isInt k/\y.isInt k/\InK k (x.toInt-y.toInt),.d (.int k (x.toInt-y.toInt)))
 | .mul=>some (x.isInt k/\y.isInt k/\InK k (x.toInt*y.toInt),.d (.int k (x.toInt*y.toInt)))
 | .quo=>some (x.isInt k/\y.isInt k/\0<=x.toInt/\0<y.toInt,.d (.int k (x.toInt/y.toInt)))
 | .rem=>some (x.isInt k/\y.isInt k/\0<y.toInt,.d (.int k (remV x.toInt y.toInt)))
 | .and=>some (x.isInt k/\y.isInt k/\0<=x.toInt/\0<=y.toInt,.d (.int k ((x.toInt.toNat &&& y.toInt.toNat:Nat):Int)))
 | .or=>some (x.isInt k/\y.isInt k/\0<=x.toInt/\0<=y.toInt,.d (.int k ((x.toInt.toNat ||| y.toInt.toNat:Nat):Int)))
 | .xor=>some (x.isInt k/\y.isInt k/\0<=x.toInt/\0<=y.toInt,.d (.int k ((x.toInt.toNat ^^^ y.toInt.toNat:Nat):Int)))
 | .shl=>some (x.isInt k/\y.isCnt/\0<=y.toInt/\y.toInt<=k.bits/\InK k (x.toInt*2 ^ y.toInt.toNat),.d (.int k (x.toInt*2 ^ y.toInt.toNat)))
 | .shr=>some (x.isInt k/\y.isCnt/\0<=y.toInt/\y.toInt<=k.bits,.d (.int k (x.toInt/2 ^ y.toInt.toNat)))
 | .eql=>some (x.isInt k/\y.isInt k,.d (.bool (eqB x.toInt y.toInt)))
 | .neq=>some (x.isInt k/\y.isInt k,.d (.bool (!eqB x.toInt y.toInt)))
 | .lss=>some (x.isInt k/\y.isInt k,.d (.bool (ltB x.toInt y.toInt)))
 | .leq=>some (x.isInt k/\y.isInt k,.d (.bool (leB x.toInt y.toInt)))
 | .gtr=>some (x.isInt k/\y.isInt k,.d (.bool (ltB y.toInt x.toInt)))
 | .geq=>some (x.isInt k/\y.isInt k,.d (.bool (leB y.toInt x.toInt)))
 | _=>none
def xBB (op:BinOp) (x y:D):Option (Prop×I):=
 match op with
 | .eql=>some (x.isBool/\y.isBool,.d (.bool (x.toBool == y.toBool)))
 | .neq=>some (x.isBool/\y.isBool,.d (.bool (!(x.toBool == y.toBool))))
 | _=>none
def xBS (op:BinOp) (x:D):Option (Prop×I):=
 match op with
 | .eql=>some (x.isSl/\(x=.nil∨x.elems≠[]),.d (.bool x.isNil))
 | .neq=>some (x.isSl/\(x=.nil∨x.elems≠[]),.d (.bool (!x.isNil)))
 | _=>none
def xBL (op:BinOp) (g k n:Nat):Option (Nat×Nat)->Option (Prop×I)
 | some (g',k')=>match op with
  | .eql=>some (g=g'/\k=k'/\0<n,.d (.bool false))
  | .neq=>some (g=g'/\k=k'/\0<n,.d (.bool true))
  | _=>none
 | none=>none
def xBA (T:Nat->Option TI) (fs:List (Nat×Nat)) (cs ds:List D):BinOp->Option (Prop×I)
 | .eql=>some (cs.length=fs.length/\ds.length=fs.length/\qhD T 0 fs cs ds,.d (.bool (qkO T fs cs ds)))
 | .neq=>some (cs.length=fs.length/\ds.length=fs.length/\qhD T 0 fs cs ds,.d (.bool (!(qkO T fs cs ds))))
 | _=>none
@[go_sem] def zhO {k:IntKind}{n:Int}:(D.int k n).isCnt=True:=rfl
def xBT (a b:ByteArray):BinOp->Option (Prop×I)
 | .eql=>some (True,.d (.bool (a.toList == b.toList)))
 | .neq=>some (True,.d (.bool (!(a.toList == b.toList))))
 | _=>none
def xBin (T:Nat->Option TI) (H:List R) (op:BinOp) (x y:I):Option TI->Option (Prop×I)
 | some ⟨.int k,_,_,_⟩=>match x,y with
  | .d x,.d y=>xBI op k x y
  | _,_=>none
 | some ⟨.bool,_,_,_⟩=>match x,y with
  | .d x,.d y=>xBB op x y
  | _,_=>none
 | some ⟨.slice _,_,_,_⟩=>match x,y with
  | .d x,.d .nil=>xBS op x
  | .sl i g k lo n,.d .nil=>xBL op g k n (rowR (qat H i))
  | _,_=>none
 | some ⟨.struct fs,_,_,_⟩=>match x,y with
  | .d (.agg cs),.d (.agg ds)=>xBA T fs cs ds op
  | _,_=>none
 | some ⟨.string,_,_,_⟩=>match x,y with
  | .d (.raw (.string a)),.d (.raw (.string b))=>xBT a b op
  | _,_=>none
 | _=>none
@[go_sem] def zhP {x y:I}:sBin T H op t x y=xBin T H op x y (T t):=by
 unfold sBin;cases T t with
 | none=>rfl
 | some ti=>
  obtain⟨ty,sz,b,z⟩:=ti;cases ty with
  | int k=>cases x <;> cases y <;> rfl
  | bool=>cases x <;> cases y <;> rfl
  | slice e=>
   cases x <;> cases y <;> first
    | rfl
    | (rename_i yd;cases yd <;> first|rfl|skip)
   rename_i i g k lo n;simp only[xBin,<-qaA];cases H[i]? with
   | none=>rfl
   | some r=>cases r <;> rfl
  | struct fs=>
   cases x with
   | d xd=>
    cases y with
    | d yd=>cases xd <;> cases yd <;> first|rfl|(cases op <;> rfl)
    | _=>cases xd <;> rfl
   | _=>cases y <;> first|rfl|(rename_i yd;cases yd <;> rfl)
  | string=>
   cases x with
   | d xd=>
    cases y with
    | d yd=>
     cases xd with
     | raw v=>
      cases v with
      | string a=>
       cases yd with
       | raw u=>
        cases u with
        | string c=>cases op <;> rfl
        | _=>rfl
       | _=>rfl
      | _=>rfl
     | _=>rfl
    | _=>
     cases xd with
     | raw v=>cases v <;> rfl
     | _=>rfl
   | _=>cases y <;> rfl
  | _=>rfl
@[go_sem] def zhQ:qfG T j []=True:=rfl
@[go_sem] def zhR {o:Nat}{r:List (Nat×Nat)}:qfG T j ((o,t)::r)=(o=j/\qh0 (T t)=true/\qfG T (j+1) r):=rfl
@[go_sem] def zhS {c:Nat}{zz:D}:qh0 (some ⟨.int .i64,a,c,zz⟩)=true:=rfl
@[go_sem] def qsx:intCells []=True:=rfl
@[go_sem] def qq9 {x:D}{r:List D}:intCells (x::r)=(x.isInt .i64/\intCells r):=rfl
@[go_sem] def zhT {k:IntKind}{x y:D}:xBin T H op (.d x) (.d y) (some ⟨.int k,sz,b,z⟩)=xBI op k x y:=rfl
@[go_sem] def zhU {x y:D}:xBin T H op (.d x) (.d y) (some ⟨.bool,sz,b,z⟩)=xBB op x y:=rfl
section
variable {k:IntKind}{x y:D}
@[go_sem] def zhV:xBI .add k x y=some (x.isInt k/\y.isInt k/\InK k (x.toInt+y.toInt),.d (.int k (x.toInt+y.toInt))):=rfl
@[go_sem] def zhW:xBI .sub k x y=some (x.isInt k/\y.isInt k/\InK k (x.toInt-y.toInt),.d (.int k (x.toInt-y.toInt))):=rfl
@[go_sem] def zhX:xBI .mul k x y=some (x.isInt k/\y.isInt k/\InK k (x.toInt*y.toInt),.d (.int k (x.toInt*y.toInt))):=rfl
@[go_sem] def zhY:xBI .quo k x y=some (x.isInt k/\y.isInt k/\0<=x.toInt/\0<y.toInt,.d (.int k (x.toInt/y.toInt))):=rfl
@[go_sem] def zhZ:xBI .rem k x y=some (x.isInt k/\y.isInt k/\0<y.toInt,.d (.int k (remV x.toInt y.toInt))):=rfl
@[go_sem] def zia:xBI .and k x y=some (x.isInt k/\y.isInt k/\0<=x.toInt/\0<=y.toInt,.d (.int k ((x.toInt.toNat &&& y.toInt.toNat:Nat):Int))):=rfl
@[go_sem] def zib:xBI .or k x y=some (x.isInt k/\y.isInt k/\0<=x.toInt/\0<=y.toInt,.d (.int k ((x.toInt.toNat ||| y.toInt.toNat:Nat):Int))):=rfl
@[go_sem] def zic:xBI .xor k x y=some (x.isInt k/\y.isInt k/\0<=x.toInt/\0<=y.toInt,.d (.int k ((x.toInt.toNat ^^^ y.toInt.toNat:Nat):Int))):=rfl
@[go_sem] def zid:xBI .shl k x y=some (x.isInt k/\y.isCnt/\0<=y.toInt/\y.toInt<=k.bits/\InK k (x.toInt*2 ^ y.toInt.toNat),.d (.int k (x.toInt*2 ^ y.toInt.toNat))):=rfl
@[go_sem] def zie:xBI .shr k x y=some (x.isInt k/\y.isCnt/\0<=y.toInt/\y.toInt<=k.bits,.d (.int k (x.toInt/2 ^ y.toInt.toNat))):=rfl
@[go_sem] def zif:xBI .eql k x y=some (x.isInt k/\y.isInt k,.d (.bool (eqB x.toInt y.toInt))):=rfl
@[go_sem] def zig:xBI .neq k x y=some (x.isInt k/\y.isInt k,.d (.bool (!eqB x.toInt y.toInt))):=rfl
@[go_sem] def zih:xBI .lss k x y=some (x.isInt k/\y.isInt k,.d (.bool (ltB x.toInt y.toInt))):=rfl
@[go_sem] def zii:xBI .leq k x y=some (x.isInt k/\y.isInt k,.d (.bool (leB x.toInt y.toInt))):=rfl
@[go_sem] def zij:xBI .gtr k x y=some (x.isInt k/\y.isInt k,.d (.bool (ltB y.toInt x.toInt))):=rfl
@[go_sem] def zik:xBI .geq k x y=some (x.isInt k/\y.isInt k,.d (.bool (leB y.toInt x.toInt))):=rfl
@[go_sem] def zil:xBB .neq x y=some (x.isBool/\y.isBool,.d (.bool (!(x.toBool == y.toBool)))):=rfl
end
@[go_sem] def zim {x:D}:sUn .not (.d x)=some (x.isBool,.d (.bool (!x.toBool))):=rfl
@[go_sem] def zin {x y:D}:sMM .min (.d x) (.d y)=some (x.isInt .i64/\y.isInt .i64,.d (.int .i64 (minI x.toInt y.toInt))):=rfl
@[go_sem] def zio {x y:D}:sMM .max (.d x) (.d y)=some (x.isInt .i64/\y.isInt .i64,.d (.int .i64 (maxI x.toInt y.toInt))):=rfl
@[go_sem] def qsy {vs:List I}:qfi (.tup vs) j=some (j<vs.length,vs.getD j .junk):=rfl
@[go_sem] def zip {x:D}:qfi (.d x) j=some (x.isTup x.tupLen/\j<x.tupLen,.d (x.tupAt j)):=rfl
@[go_sem] def ziq {c x y:D}{ca cb:Prop}:ql5 (.d c) (.d x) (.d y) ca cb=some (c.isBool/\(c.toBool=true->ca/\x.isBool)/\(c.toBool=false->cb/\y.isBool),.d (.bool (pickB c.toBool x.toBool y.toBool))):=rfl
@[go_sem] def zir {x:D}:sNil H (.d x)=some (x.isPtr,.d x):=rfl
@[go_sem] def zis {i o:Nat}:sNil H (.ptr i o)=if qlc (qat H i)=true then some (True,.ptr i o) else none:=by
 simp only[sNil,qaA];cases qat H i with
 | none=>rfl
 | some r=>cases r <;> rfl
def xNilE (x:I) (g k:Nat):Option R->Option (Prop×I)
 | some (.row g' k' _ _)=>some (g'=g/\k'=k,x)
 | _=>none
@[go_sem] def zit {x:I}{g k g' k':Nat}{l:List D}:xNilE x g k (some (.row g' k' dp l))=some (g'=g/\k'=k,x):=rfl
@[go_sem] def ziu {i g k idx off:Nat}{z:D}:sNil H (.eptr i g k idx off z)=xNilE (.eptr i g k idx off z) g k (qat H i):=by
 simp only[sNil,qaA];cases qat H i with
 | none=>rfl
 | some r=>cases r <;> rfl
def qsz (x:D):Option TI->Option (Prop×I)
 | some ⟨.int .u8,_,_,_⟩=>some (isUs x,.d (.raw (.string (bsOf (usOf x)))))
 | _=>none
def xConv (T:Nat->Option TI) (x:I):Option TI->Option TI->Option (Prop×I)
 | some ⟨.int k,_,_,_⟩,some ⟨.int k',_,_,_⟩=>match x with
  | .d xd=>some (xd.isInt k/\cvC k' xd.toInt,.d (.int k' (cvV k' xd.toInt)))
  | _=>none
 | some ⟨.slice e,_,_,_⟩,some ⟨.string,_,_,_⟩=>match x with
  | .d xd=>qsz xd (T e)
  | _=>none
 | _,_=>none
def qo8 {x:D}:qmU T e x=qsz x (T e):=by
 unfold qmU;cases T e with
 | none=>rfl
 | some ei=>
  obtain⟨ty,sz,b,z⟩:=ei;cases ty with
  | int k=>cases k <;> rfl
  | _=>rfl
@[go_sem] def ziv {s d:Nat}{x:I}:ql2 T s d x=xConv T x (T s) (T d):=by
 unfold ql2;cases T s with
 | none=>cases T d <;> cases x <;> rfl
 | some si=>
  obtain⟨ty,sz,b,z⟩:=si;cases T d with
  | none=>cases ty <;> cases x <;> rfl
  | some di=>
   obtain⟨ty',sz',b',z'⟩:=di;cases ty <;> cases ty' <;> cases x <;> first|rfl|exact qo8
@[go_sem] def ziw {k k':IntKind}{sz' b':Nat}{z':D}:xConv T (.d xd) (some ⟨.int k,sz,b,z⟩) (some ⟨.int k',sz',b',z'⟩)=some (xd.isInt k/\cvC k' xd.toInt,.d (.int k' (cvV k' xd.toInt))):=rfl
@[go_sem] def zix {n:Int}:cvC .i64 n=InK .i64 n:=rfl
@[go_sem] def ziy {n:Int}:cvV .i64 n=n:=rfl
@[go_sem] def ziz {n:Int}:cvC .u8 n=True:=rfl
@[go_sem] def ziA {n:Int}:cvV .u8 n=n%256:=rfl
@[go_sem] def ziB {n:Int}:cvC .u64 n=InK .u64 n:=rfl
@[go_sem] def ziC {n:Int}:cvV .u64 n=n:=rfl
def xCap (x:I):Option TI->Option (Prop×I)
 | some ⟨.slice _,_,_,_⟩=>match x with
  | .d .nil=>some (True,.d (.int .i64 0))
  | _=>none
 | _=>none
@[go_sem] def ziD {x:I}:sCap T t x=xCap x (T t):=by
 unfold sCap;cases T t with
 | none=>rfl
 | some ti=>
  obtain⟨ty,sz,b,z⟩:=ti;cases ty <;> cases x <;> first|rfl|(rename_i xd;cases xd <;> rfl)
@[go_sem] def ziE:xCap (.d .nil) (some ⟨.slice e,sz,b,z⟩)=some (True,.d (.int .i64 0)):=rfl
def xLenS (g k n:Nat):Option (Nat×Nat)->Option (Prop×I)
 | some (g',k')=>some (g=g'/\k=k',.d (.int .i64 (n:Nat)))
 | none=>none
def xLen (H:List R) (x:I):Option TI->Option (Prop×I)
 | some ⟨.slice _,_,_,_⟩=>match x with
  | .d xd=>some (xd.isSl,.d (.int .i64 (xd.elems.length:Nat)))
  | .sl i g k lo n=>xLenS g k n (rowR (qat H i))
  | _=>none
 | some ⟨.array n _,_,_,_⟩=>some (InK .i64 n,.d (.int .i64 (n:Nat)))
 | _=>none
@[go_sem] def ziF {x:I}:sLen T H t x=xLen H x (T t):=by
 unfold sLen;cases T t with
 | none=>rfl
 | some ti=>
  obtain⟨ty,sz,b,z⟩:=ti;cases ty with
  | slice e=>
   cases x <;> simp only[xLen,<-qaA]
   rename_i i g k lo n;cases H[i]? with
   | none=>rfl
   | some r=>cases r <;> rfl
  | _=>rfl
@[go_sem] def ziG:xLen H (.d xd) (some ⟨.slice e,sz,b,z⟩)=some (xd.isSl,.d (.int .i64 (xd.elems.length:Nat))):=rfl
@[go_sem] def ziH {i g k lo:Nat}:xLen H (.sl i g k lo n) (some ⟨.slice e,sz,b,z⟩)=xLenS g k n (rowR (qat H i)):=rfl
@[go_sem] def ziI {g k g' k':Nat}:xLenS g k n (some (g',k'))=some (g=g'/\k=k',.d (.int .i64 (n:Nat))):=rfl
end Go.VL

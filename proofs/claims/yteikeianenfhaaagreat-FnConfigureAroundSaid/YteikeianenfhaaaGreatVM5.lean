/- Part 20: the rewriting rules by which the machine runs. Conditions: none; lemmas. -/
import Derived.Test.YteikeianenfhaaaGreatVM4
import Derived.Attr
set_option linter.unusedVariables false
set_option linter.unusedSimpArgs false
set_option maxHeartbeats 2000000
namespace Go.VL
set_option linter.defProp false
variable {c x y:Operand}{ops:Array Oper}{r:List (Nat×Operand)}{e b ok:Bool}{vc gc fc:Prop}{fn:Option (Nat×List I)}{args:Array Operand}{op:BinOp}{o o2:Option (Prop×I×List R)}{z:Option (Prop×Fr×List R)}{k:Fr->List R->Option (Prop×I×List R)}{deep:LitM}{t yt s t' u:TypeId}{n i g k' g':Nat}{cs:List I}{lo hi mx:Option Operand}{parts p:Array (Nat×Operand)}{ts:Array TypeId}{m:List (Nat×I)}{α:Type}{l xs ds:List D}{dp:DP}{pf:Nat->Kind}{gd:Option (Nat×Bool)}
variable {E:Env}{Q:Post}{fr:Fr}{H:List R}{f:Nat}{ks:List Item}{all rest:List Oper}{dst:Option Tmp}{ty:TypeId}{pos:String}{af:Array Edge}{T:Nat->Option TI}
@[go_sem] def zaa:exec E (f+1) [] Q fr H=Q .normal fr H:=by simp only[exec]
@[go_sem] def zab {id:Nat}:exec E (f+1) (.blk id::ks) Q fr H=exec E f ks Q fr H:=by simp only[exec]
@[go_sem] def zac {c:Code}:exec E (f+1) (.code c::ks) Q fr H=qaZ E f c ks Q fr H:=by simp only[exec]
@[go_sem] def zad:qaZ E (f+1) .skip ks Q fr H=exec E f ks Q fr H:=by simp only[qaZ]
@[go_sem] def zae {x y:Code}:qaZ E (f+1) (.seq x y) ks Q fr H=qaZ E f x (.code y::ks) Q fr H:=by simp only[qaZ]
@[go_sem] def zaf {id:Nat}{x:Code}:qaZ E (f+1) (.block id x) ks Q fr H=qaZ E f x (.blk id::ks) Q fr H:=by simp only[qaZ]
@[go_sem] def zag {id:Nat}:qaZ E (f+1) (.exit id) ks Q fr H=qds E f (exK id ks) id ks Q fr H:=by simp only[qaZ]
@[go_sem] def zah:qaZ E (f+1) .ret ks Q fr H=Q .ret fr H:=by simp only[qaZ]
@[go_sem] def zai {x y:Code}:qaZ E (f+1) (.cond c x y) ks Q fr H=qmr E f (ev fr c) x y ks Q fr H:=by simp only[qaZ]
@[go_sem] def qsn {id:Nat}:qaZ E (f+1) (.region id ops false) ks Q fr H=ops' E f ops.toList ops.toList ks Q fr H:=by simp only[qaZ]
@[go_sem] def zaj {id:Nat}:qaZ E (f+1) (.region id ops true) ks Q fr H=(if(quiet E.T ops.toList&&qg4 E.pf ops.toList)=true then E.P.follows .mixedOrders=true/\Region.lexB .any ops=true/\opsQ E ops.toList H (fun fr'=>exec E f ks Q fr' H) ops.toList fr else iwp E.P E.n (.region id ops true) (qbR E ks Q) fr H):=by simp only[qaZ]
@[go_sem] def zak {c:Code}:qaZ E (f+1) (.loop c) ks Q fr H=iwp E.P E.n (.loop c) (qbR E ks Q) fr H:=by simp only[qaZ]
@[go_sem] def zal {id:Nat}:exK id []=none:=rfl
@[go_sem] def zam {id:Nat}{c:Code}:exK id (.code c::ks)=exK id ks:=rfl
@[go_sem] def zan {id id':Nat}:exK id (.blk id'::ks)=if id=id' then some ks else exK id ks:=rfl
@[go_sem] def zao {id:Nat}{ks':List Item}:qds E (f+1) (some ks') id ks Q fr H=exec E f ks' Q fr H:=by simp only[qds]
@[go_sem] def zap {id:Nat}:qds E (f+1) none id ks Q fr H=Q (.exit id) fr H:=by simp only[qds]
@[go_sem] def zaq {d:D}{x y:Code}:qmr E (f+1) (.d d) x y ks Q fr H=(d.isBool/\(d.toBool=true->qaZ E f x ks Q fr H)/\(d.toBool=false->qaZ E f y ks Q fr H)):=by simp only[qmr]
@[go_sem] def zar:ops' E (f+1) all [] ks Q fr H=exec E f ks Q fr H:=by simp only[ops']
@[go_sem] def zas {r:I}:opsK E (f+1) all rest ks Q fr dst r H=ops' E f all rest ks Q (fr.put dst r) H:=by simp only[opsK]
@[go_sem] def zat {r:I}:opsG E (f+1) all rest ks Q fr dst H r=ops' E f all rest ks Q (fr.put dst r) H:=by simp only[opsG]
@[go_sem] def zau {e:Exit}:qbR E [] Q e fr H=Q e fr H:=rfl
@[go_sem] def qso {c:Code}:qbR E (.code c::ks) Q .ret fr H=qbR E ks Q .ret fr H:=rfl
@[go_sem] def qq5 {id:Nat}:qbR E (.blk id::ks) Q .ret fr H=qbR E ks Q .ret fr H:=rfl
def goP (E:Env) (f:Nat) (all rest:List Oper) (ks:List Item) (Q:Post) (fr:Fr) (dst:Option Tmp) (H:List R):Option (Prop×I)->Prop
 | some (vc,x)=>vc/\ops' E f all rest ks Q (fr.put dst x) H
 | none=>False
def goI (E:Env) (f:Nat) (all rest:List Oper) (ks:List Item) (Q:Post) (fr:Fr) (dst:Option Tmp):Option (Prop×I×List R)->Prop
 | some (vc,x,H)=>vc/\ops' E f all rest ks Q (fr.put dst x) H
 | none=>False
def goG (E:Env) (f:Nat) (all rest:List Oper) (ks:List Item) (Q:Post) (fr:Fr) (dst:Option Tmp) (H:List R):Option (Prop×Bool)->Option (Prop×I)->Prop
 | some (gc,e),some (vc,x)=>gc/\(e=true->vc)/\ops' E f all rest ks Q (fr.put dst (.cond e x)) H
 | _,_=>False
def goGC (E:Env) (f:Nat) (all rest:List Oper) (ks:List Item) (Q:Post) (fr:Fr) (dst:Option Tmp) (H:List R) (c:Prop) (fn:Option (Nat×List I)) (args:List I):Option (Prop×Bool)->Prop
 | some (gc,e)=>gc/\qlg E c e fn args H (opsG E f all rest ks Q fr dst)
 | none=>False
@[go_sem] def zav {x:I}:goP E f all rest ks Q fr dst H (some (vc,x))=(vc/\ops' E f all rest ks Q (fr.put dst x) H):=rfl
@[go_sem] def zaw {x:I}:goI E f all rest ks Q fr dst (some (vc,x,H))=(vc/\ops' E f all rest ks Q (fr.put dst x) H):=rfl
@[go_sem] def zax {x:I}:goG E f all rest ks Q fr dst H (some (gc,e)) (some (vc,x))=(gc/\(e=true->vc)/\ops' E f all rest ks Q (fr.put dst (.cond e x)) H):=rfl
@[go_sem] def zay {c:Prop}{args:List I}:goGC E f all rest ks Q fr dst H c fn args (some (gc,e))=(gc/\qlg E c e fn args H (opsG E f all rest ks Q fr dst)):=rfl
def qeM {op:Op}{o:Option (Prop×I)}(h1:qbh op=none) (h2:sopP E.T fr H op=o) (h3:sopI E.T fr H op=none) (h4:qkn fr H op=none:=by rfl) (h5:sopO E.deep E.T fr H op=none:=by rfl) :
  ops' E (f+1) all (⟨dst,op,ty,pos,af,none⟩::rest) ks Q fr H=goP E f all rest ks Q fr dst H o:=by
 simp only[ops',h1,h2,h3,h4,h5];cases o <;> rfl
def qiy {op:Op}{o:Option (Prop×I)}{j:Nat}{want:Bool}(h1:qbh op=none) (h2:sopP E.T fr H op=o) (h3:sopI E.T fr H op=none:=by rfl) :
  ops' E (f+1) all (⟨dst,op,ty,pos,af,some (j,want)⟩::rest) ks Q fr H=goG E f all rest ks Q fr dst H (guardOf all fr j want) o:=by
 simp only[ops',h1,h2,h3];cases guardOf all fr j want with
 | none=>rfl
 | some g=>cases o <;> rfl
def qjp {op:Op}(h1:qbh op=none) (h2:sopP E.T fr H op=none) (h3:sopI E.T fr H op=o) (h4:qkn fr H op=none:=by rfl) (h5:sopO E.deep E.T fr H op=none:=by rfl) :
  ops' E (f+1) all (⟨dst,op,ty,pos,af,none⟩::rest) ks Q fr H=goI E f all rest ks Q fr dst o:=by
 simp only[ops',h1,h2,h3,h4,h5];cases o <;> rfl
def goF2 (E:Env) (f:Nat) (all rest:List Oper) (ks:List Item) (Q:Post) (fr:Fr) (dst:Option Tmp) (fc:Prop):Option (Prop×I×List R)->Prop
 | some (vc,x,H)=>fc/\vc/\ops' E f all rest ks Q (fr.put dst x) H
 | none=>False
def goF1 (E:Env) (f:Nat) (all rest:List Oper) (ks:List Item) (Q:Post) (dst:Option Tmp) (k:Fr->List R->Option (Prop×I×List R)):Option (Prop×Fr×List R)->Prop
 | some (fc,fr,H)=>goF2 E f all rest ks Q fr dst fc (k fr H)
 | none=>False
def goF (E:Env) (f:Nat) (all rest:List Oper) (ks:List Item) (Q:Post) (fr:Fr) (dst:Option Tmp) (z:Option (Prop×Fr×List R)) (k:Fr->List R->Option (Prop×I×List R)) (o2:Option (Prop×I×List R)):Option (Prop×I×List R)->Prop
 | some (vc,x,H)=>vc/\ops' E f all rest ks Q (fr.put dst x) H
 | none=>
  match o2 with
  | some (vc,x,H)=>vc/\ops' E f all rest ks Q (fr.put dst x) H
  | none=>goF1 E f all rest ks Q dst k z
@[go_sem] def zaz {x:I}:goF E f all rest ks Q fr dst z k o2 (some (vc,x,H))=(vc/\ops' E f all rest ks Q (fr.put dst x) H):=rfl
@[go_sem] def zaA:goF E f all rest ks Q fr dst z k none none=goF1 E f all rest ks Q dst k z:=rfl
@[go_sem] def qq6 {x:I}:goF E f all rest ks Q fr dst z k (some (vc,x,H)) none=(vc/\ops' E f all rest ks Q (fr.put dst x) H):=rfl
def goL (E:Env) (f:Nat) (all rest:List Oper) (ks:List Item) (Q:Post) (fr:Fr) (dst:Option Tmp) (H:List R) (o2:Option (Prop×I×List R)):Option (Prop×I)->Prop
 | some (vc,x)=>vc/\ops' E f all rest ks Q (fr.put dst x) H
 | none=>goI E f all rest ks Q fr dst o2
@[go_sem] def zaB {x:I}:goL E f all rest ks Q fr dst H o2 (some (vc,x))=(vc/\ops' E f all rest ks Q (fr.put dst x) H):=rfl
@[go_sem] def zaC:goL E f all rest ks Q fr dst H o2 none=goI E f all rest ks Q fr dst o2:=rfl
def qpb (b:Bool) (o:Option (Prop×I×List R)):Option (Prop×I×List R):=
 match b with
 | true=>o
 | false=>none
@[go_sem] def zaD:qpb true o=o:=rfl
@[go_sem] def zaE:qpb false o=none:=rfl
def litO (deep:LitM) (T:Nat->Option TI) (fr:Fr) (H:List R) (t n:Nat):List (Nat×Operand)->Option (Prop×I×List R)
 | [(i,x)]=>qpb (qf4 deep (evx fr x)) (qbP (evc fr x) (qmp T H t n i (evx fr x)))
 | _=>none
@[go_sem] def zaF {T:Nat->Option TI}{t:Nat}:litO deep T fr H t n []=none:=rfl
@[go_sem] def zaG {T:Nat->Option TI}{t:Nat}:litO deep T fr H t n [(i,x)]=qpb (qf4 deep (evx fr x)) (qbP (evc fr x) (qmp T H t n i (evx fr x))):=rfl
@[go_sem] def zaH {T:Nat->Option TI}{t:Nat}{a b:Nat×Operand}:litO deep T fr H t n (a::b::r)=none:=rfl
@[go_sem] def zaI:qf4 deep (.agg cs)=deep.agg:=rfl
@[go_sem] def qsp:LitM.agg .low=true:=rfl
@[go_sem] def qsq:LitM.agg .frz=false:=rfl
@[go_sem] def zaJ:LitM.sl .low=false:=rfl
@[go_sem] def qsr:LitM.sl .both=true:=rfl
@[go_sem] def zaK:LitM.sl .frz=false:=rfl
@[go_sem] def zaL {k lo:Nat}:qf4 deep (.sl i g k lo n)=deep.sl:=rfl
@[go_sem] def zaM {x:D}:qf4 deep (.d x)=false:=rfl
@[go_sem] def zaN:goF1 E f all rest ks Q dst k (some (fc,fr,H))=goF2 E f all rest ks Q fr dst fc (k fr H):=rfl
@[go_sem] def zaO {x:I}:goF2 E f all rest ks Q fr dst fc (some (vc,x,H))=(fc/\vc/\ops' E f all rest ks Q (fr.put dst x) H):=rfl
def frzP (fr:Fr) (H:List R) (ps:List (Nat×Operand)):Option (Prop×Fr×List R):=
 match ps with
 | [(_,.tmp t)]=>
  match fr.get t with
  | .sl i g k lo n=>
   match H[i]? with
   | some (.row g' k' dp l)=>some (g=g'/\k=k'/\dp.shut=true,fr.put (some t) (.d (.lst k ((l.drop lo).take n))),H.set i (.dead g'))
   | _=>none
  | .agg cs=>
   match qd7 cs H with
   | some (fc,cs',H')=>some (fc,fr.put (some t) (.d (.agg cs')),H')
   | none=>none
  | _=>none
 | _=>none
section ops
variable {j:Nat}{want:Bool}
@[go_sem] def zaP:ops' E (f+1) all (⟨dst,.move x,ty,pos,af,none⟩::rest) ks Q fr H=goP E f all rest ks Q fr dst H (some (evc fr x,evx fr x)):=qeM rfl rfl rfl
@[go_sem] def zaQ:ops' E (f+1) all (⟨dst,.assign x,ty,pos,af,none⟩::rest) ks Q fr H=goP E f all rest ks Q fr dst H (some (evc fr x,evx fr x)):=qeM rfl rfl rfl
@[go_sem] def zaR:ops' E (f+1) all (⟨dst,.pick c x y,ty,pos,af,none⟩::rest) ks Q fr H=goP E f all rest ks Q fr dst H (andC (evc fr c) (qmc (evx fr c) (evx fr x) (evx fr y) (evc fr x) (evc fr y))):=qeM rfl rfl rfl
@[go_sem] def zaS:ops' E (f+1) all (⟨dst,.build t parts,ty,pos,af,none⟩::rest) ks Q fr H=goP E f all rest ks Q fr dst H (andC (qcd fr parts.toList) (qid E.T t (qbN fr parts.toList))):=qeM rfl rfl rfl
@[go_sem] def zaT:ops' E (f+1) all (⟨dst,.load t x,ty,pos,af,none⟩::rest) ks Q fr H=goL E f all rest ks Q fr dst H (qbP (evc fr x) (qhQ E.T H t (evx fr x))) (andC (evc fr x) (qfG E.T H t (evx fr x))):=by
 have h2:sopP E.T fr H (.load t x)=andC (evc fr x) (qfG E.T H t (evx fr x)):=rfl;have h3:sopI E.T fr H (.load t x)=none:=rfl;have h4:qkn fr H (.load t x)=none:=rfl;have h5:sopO E.deep E.T fr H (.load t x)=qbP (evc fr x) (qhQ E.T H t (evx fr x)):=rfl;simp only[ops',qbh,h2,h3,h4,h5];cases andC (evc fr x) (qfG E.T H t (evx fr x)) with
 | some q=>rfl
 | none=>
  simp only[goL];cases qbP (evc fr x) (qhQ E.T H t (evx fr x)) <;> rfl
@[go_sem] def qss:ops' E (f+1) all (⟨dst,.nilCheck x,ty,pos,af,none⟩::rest) ks Q fr H=goP E f all rest ks Q fr dst H (andC (evc fr x) (sNil H (evx fr x))):=qeM rfl rfl rfl
@[go_sem] def zaU:ops' E (f+1) all (⟨dst,.binOp op t x y yt,ty,pos,af,none⟩::rest) ks Q fr H=goP E f all rest ks Q fr dst H (andC (evc fr x/\evc fr y) (sBin E.T H op t (evx fr x) (evx fr y))):=qeM rfl rfl rfl
@[go_sem] def zaV {op:UnOp}:ops' E (f+1) all (⟨dst,.unOp op t x,ty,pos,af,none⟩::rest) ks Q fr H=goP E f all rest ks Q fr dst H (andC (evc fr x) (sUn op (evx fr x))):=qeM rfl rfl rfl
@[go_sem] def zaW:ops' E (f+1) all (⟨dst,.convert s t x,ty,pos,af,none⟩::rest) ks Q fr H=goP E f all rest ks Q fr dst H (andC (evc fr x) (ql9 E.T s t (evx fr x))):=qeM rfl rfl rfl
@[go_sem] def qst {caps:List Operand}:ops' E (f+1) all (⟨dst,.makeFunc (.func g) #[] caps.toArray,ty,pos,af,none⟩::rest) ks Q fr H=goP E f all rest ks Q fr dst H (some (evcs fr caps,mkFn g (evs fr caps))):=qeM rfl (by simp[sopP]) rfl
@[go_sem] def zaX:ops' E (f+1) all (⟨dst,.slice t x lo hi mx,ty,pos,af,none⟩::rest) ks Q fr H=goP E f all rest ks Q fr dst H (andC (evc fr x/\qig fr lo/\qig fr hi) (qhw E.T H t (evx fr x) (optE fr lo) (optE fr hi) (optE fr mx))):=qeM rfl rfl rfl
@[go_sem] def qq7:ops' E (f+1) all (⟨dst,.fieldAddr t x i,ty,pos,af,none⟩::rest) ks Q fr H=goP E f all rest ks Q fr dst H (andC (evc fr x) (qcv E.T H t (evx fr x) i)):=qeM rfl rfl rfl
@[go_sem] def qq8:ops' E (f+1) all (⟨dst,.indexAddr t x y,ty,pos,af,none⟩::rest) ks Q fr H=goP E f all rest ks Q fr dst H (andC (evc fr x/\evc fr y) (qch E.T H t (evx fr x) (evx fr y))):=qeM rfl rfl rfl
@[go_sem] def zaY:ops' E (f+1) all (⟨dst,.index t x y,ty,pos,af,none⟩::rest) ks Q fr H=goP E f all rest ks Q fr dst H (andC (evc fr x/\evc fr y) (qju E.T t (evx fr x) (evx fr y))):=qeM rfl rfl rfl
@[go_sem] def zaZ:ops' E (f+1) all (⟨dst,.extract x i,ty,pos,af,none⟩::rest) ks Q fr H=goP E f all rest ks Q fr dst H (andC (evc fr x) (qeE (evx fr x) i)):=qeM rfl rfl rfl
@[go_sem] def zba:ops' E (f+1) all (⟨dst,.lookup t x y ok,ty,pos,af,none⟩::rest) ks Q fr H=goP E f all rest ks Q fr dst H (andC (evc fr x/\evc fr y) (qe4 E.T H t (evx fr x) (evx fr y) ok)):=qeM rfl rfl rfl
@[go_sem] def zbb:ops' E (f+1) all (⟨dst,.makeMap t none,ty,pos,af,none⟩::rest) ks Q fr H=goI E f all rest ks Q fr dst (qeH E.T H t):=qjp rfl rfl rfl
@[go_sem] def zbc:ops' E (f+1) all (⟨dst,.call ⟨.builtin .len,#[x],#[t]⟩,ty,pos,af,none⟩::rest) ks Q fr H=goP E f all rest ks Q fr dst H (andC (evc fr x) (sLen E.T H t (evx fr x))):=qeM rfl rfl rfl
@[go_sem] def zbd:ops' E (f+1) all (⟨dst,.call ⟨.builtin .cap,#[x],#[t]⟩,ty,pos,af,none⟩::rest) ks Q fr H=goP E f all rest ks Q fr dst H (andC (evc fr x) (sCap E.T t (evx fr x))):=qeM rfl rfl rfl
@[go_sem] def zbe:ops' E (f+1) all (⟨dst,.call ⟨.builtin .min,#[x,y],ts⟩,ty,pos,af,none⟩::rest) ks Q fr H=goP E f all rest ks Q fr dst H (andC (evc fr x/\evc fr y) (sMM .min (evx fr x) (evx fr y))):=qeM rfl rfl rfl
@[go_sem] def zbf:ops' E (f+1) all (⟨dst,.call ⟨.builtin .max,#[x,y],ts⟩,ty,pos,af,none⟩::rest) ks Q fr H=goP E f all rest ks Q fr dst H (andC (evc fr x/\evc fr y) (sMM .max (evx fr x) (evx fr y))):=qeM rfl rfl rfl
@[go_sem] def zbg:ops' E (f+1) all (⟨dst,.box t x,ty,pos,af,none⟩::rest) ks Q fr H=goI E f all rest ks Q fr dst (qbP (evc fr x) (sBox E.T H t (evx fr x))):=qjp rfl rfl rfl
@[go_sem] def zbh:ops' E (f+1) all (⟨dst,.alloc t,ty,pos,af,none⟩::rest) ks Q fr H=goI E f all rest ks Q fr dst (qii E.T H t):=qjp rfl rfl rfl
@[go_sem] def qqv:ops' E (f+1) all (⟨dst,.buildSlice t n parts,ty,pos,af,none⟩::rest) ks Q fr H =
  goF E f all rest ks Q fr dst (frzP fr H parts.toList) (fun fr' H'=>qbP (qcd fr' parts.toList) (sLit E.T H' t n (qbN fr' parts.toList))) (litO E.deep E.T fr H t n parts.toList) (qbP (qcd fr parts.toList) (sLit E.T H t n (qbN fr parts.toList))):=by
 have h2:sopP E.T fr H (.buildSlice t n parts)=none:=rfl;have h3 : ∀ fr H,sopI E.T fr H (.buildSlice t n parts)=qbP (qcd fr parts.toList) (sLit E.T H t n (qbN fr parts.toList)):=fun _ _=>rfl
 have h4:qkn fr H (.buildSlice t n parts)=frzP fr H parts.toList:=rfl;have h5:sopO E.deep E.T fr H (.buildSlice t n parts)=litO E.deep E.T fr H t n parts.toList:=by
  simp only[sopO];generalize parts.toList=ps;rcases ps with _|⟨⟨i,x⟩,_|⟨b,r⟩⟩
  ·rfl
  ·simp only[litO,qpb];cases qf4 E.deep (evx fr x) <;> rfl
  ·rfl
 simp only[ops',qbh,h2,h3,h4,h5];cases qbP (qcd fr parts.toList) (sLit E.T H t n (qbN fr parts.toList)) with
 | some q=>rfl
 | none=>
  simp only[goF];cases litO E.deep E.T fr H t n parts.toList with
  | some q=>rfl
  | none=>
   simp only;cases frzP fr H parts.toList with
   | none=>rfl
   | some q=>
    obtain⟨fc,fr',H'⟩:=q;simp only[goF1];cases qbP (qcd fr' parts.toList) (sLit E.T H' t n (qbN fr' parts.toList)) <;> rfl
@[go_sem] def qq9:ops' E (f+1) all (⟨dst,.makeSlice t x y,ty,pos,af,none⟩::rest) ks Q fr H=goI E f all rest ks Q fr dst (qbP (evc fr x/\evc fr y) (qmd E.T H t (evx fr x) (evx fr y))):=qjp rfl rfl rfl
def stI (c:Prop):Option (Prop×List R)->Option (Prop×I×List R)
 | some (vc,H')=>some (c/\vc,.junk,H')
 | none=>none
@[go_sem] def zbi {c:Prop}:stI c (some (vc,H))=some (c/\vc,.junk,H):=rfl
@[go_sem] def zbj:ops' E (f+1) all (⟨dst,.store t x y,ty,pos,af,none⟩::rest) ks Q fr H=goI E f all rest ks Q fr dst (stI (evc fr x/\evc fr y) (qik E.T H t (evx fr x) (evx fr y))):=
 qjp rfl rfl (by simp only[sopI,stI];cases qik E.T H t (evx fr x) (evx fr y) <;> rfl)
@[go_sem] def qra {m:Operand}:ops' E (f+1) all (⟨dst,.mapUpdate t m x y,ty,pos,af,none⟩::rest) ks Q fr H=goI E f all rest ks Q fr dst (stI (evc fr m/\evc fr x/\evc fr y) (qb5 E.T H t (evx fr m) (evx fr x) (evx fr y))):=by
 refine qjp rfl rfl ?_;simp only[sopI];cases qb5 E.T H t (evx fr m) (evx fr x) (evx fr y) <;> rfl
@[go_sem] def zbk {m:Operand}:ops' E (f+1) all (⟨dst,.insert t m x y,ty,pos,af,none⟩::rest) ks Q fr H=goI E f all rest ks Q fr dst (stI (evc fr m/\evc fr x/\evc fr y) (qb5 E.T H t (evx fr m) (evx fr x) (evx fr y))):=by
 refine qjp rfl rfl ?_;simp only[sopI];cases qb5 E.T H t (evx fr m) (evx fr x) (evx fr y) <;> rfl
@[go_sem] def zbl:ops' E (f+1) all (⟨dst,.call ⟨.builtin .append,#[x,y],#[t,t']⟩,ty,pos,af,none⟩::rest) ks Q fr H=goI E f all rest ks Q fr dst (qbP (evc fr x/\evc fr y) (sApp E.T H t t' (evx fr x) (evx fr y))):=qjp rfl rfl rfl
@[go_sem] def zbm:ops' E (f+1) all (⟨dst,.call ⟨.builtin .copy,#[x,y],#[t,t']⟩,ty,pos,af,none⟩::rest) ks Q fr H=goI E f all rest ks Q fr dst (qbP (evc fr x/\evc fr y) (qnW E.T H t t' (evx fr x) (evx fr y))):=qjp rfl rfl rfl
@[go_sem] def zbn:ops' E (f+1) all (⟨dst,.call ⟨.builtin .clear,#[x],#[t]⟩,ty,pos,af,none⟩::rest) ks Q fr H=goI E f all rest ks Q fr dst (qbP (evc fr x) (qjy E.T H t (evx fr x))):=qjp rfl rfl rfl
@[go_sem] def zbo {g:Operand}{args:List Operand}:ops' E (f+1) all (⟨dst,.call ⟨.value g,args.toArray,ts⟩,ty,pos,af,none⟩::rest) ks Q fr H =
  qfd E (evc fr g/\evcs fr args) (fnOf (evx fr g)) (evs fr args) H (opsK E f all rest ks Q fr dst):=by simp only[ops',qbh]
@[go_sem] def zbp:ops' E (f+1) all (⟨dst,.move x,ty,pos,af,some (j,want)⟩::rest) ks Q fr H=goG E f all rest ks Q fr dst H (guardOf all fr j want) (some (evc fr x,evx fr x)):=qiy rfl rfl
@[go_sem] def zbq:ops' E (f+1) all (⟨dst,.pick c x y,ty,pos,af,some (j,want)⟩::rest) ks Q fr H=goG E f all rest ks Q fr dst H (guardOf all fr j want) (andC (evc fr c) (qmc (evx fr c) (evx fr x) (evx fr y) (evc fr x) (evc fr y))):=qiy rfl rfl
@[go_sem] def zbr:ops' E (f+1) all (⟨dst,.build t parts,ty,pos,af,some (j,want)⟩::rest) ks Q fr H=goG E f all rest ks Q fr dst H (guardOf all fr j want) (andC (qcd fr parts.toList) (qid E.T t (qbN fr parts.toList))):=qiy rfl rfl
@[go_sem] def zbs:ops' E (f+1) all (⟨dst,.load t x,ty,pos,af,some (j,want)⟩::rest) ks Q fr H=goG E f all rest ks Q fr dst H (guardOf all fr j want) (andC (evc fr x) (qfG E.T H t (evx fr x))):=qiy rfl rfl
@[go_sem] def qrb:ops' E (f+1) all (⟨dst,.nilCheck x,ty,pos,af,some (j,want)⟩::rest) ks Q fr H=goG E f all rest ks Q fr dst H (guardOf all fr j want) (andC (evc fr x) (sNil H (evx fr x))):=qiy rfl rfl
@[go_sem] def zbt:ops' E (f+1) all (⟨dst,.binOp op t x y yt,ty,pos,af,some (j,want)⟩::rest) ks Q fr H=goG E f all rest ks Q fr dst H (guardOf all fr j want) (andC (evc fr x/\evc fr y) (sBin E.T H op t (evx fr x) (evx fr y))):=qiy rfl rfl
@[go_sem] def zbu {op:UnOp}:ops' E (f+1) all (⟨dst,.unOp op t x,ty,pos,af,some (j,want)⟩::rest) ks Q fr H=goG E f all rest ks Q fr dst H (guardOf all fr j want) (andC (evc fr x) (sUn op (evx fr x))):=qiy rfl rfl
@[go_sem] def qqw:ops' E (f+1) all (⟨dst,.fieldAddr t x i,ty,pos,af,some (j,want)⟩::rest) ks Q fr H=goG E f all rest ks Q fr dst H (guardOf all fr j want) (andC (evc fr x) (qcv E.T H t (evx fr x) i)):=qiy rfl rfl
@[go_sem] def qqx:ops' E (f+1) all (⟨dst,.indexAddr t x y,ty,pos,af,some (j,want)⟩::rest) ks Q fr H=goG E f all rest ks Q fr dst H (guardOf all fr j want) (andC (evc fr x/\evc fr y) (qch E.T H t (evx fr x) (evx fr y))):=qiy rfl rfl
@[go_sem] def zbv:ops' E (f+1) all (⟨dst,.lookup t x y ok,ty,pos,af,some (j,want)⟩::rest) ks Q fr H=goG E f all rest ks Q fr dst H (guardOf all fr j want) (andC (evc fr x/\evc fr y) (qe4 E.T H t (evx fr x) (evx fr y) ok)):=qiy rfl rfl
@[go_sem] def zbw:ops' E (f+1) all (⟨dst,.call ⟨.builtin .len,#[x],#[t]⟩,ty,pos,af,some (j,want)⟩::rest) ks Q fr H=goG E f all rest ks Q fr dst H (guardOf all fr j want) (andC (evc fr x) (sLen E.T H t (evx fr x))):=qiy rfl rfl
@[go_sem] def zbx {g:Operand}{args:List Operand}:ops' E (f+1) all (⟨dst,.call ⟨.value g,args.toArray,ts⟩,ty,pos,af,some (j,want)⟩::rest) ks Q fr H =
  goGC E f all rest ks Q fr dst H (evc fr g/\evcs fr args) (fnOf (evx fr g)) (evs fr args) (guardOf all fr j want):=by
 simp only[ops',qbh];cases guardOf all fr j want <;> rfl
end ops
@[go_sem] def qpc (l:List α):l.toArray.toList=l:=rfl
@[go_sem] def zby {c:Prop}{x:I}:andC c (some (vc,x))=some (c/\vc,x):=rfl
@[go_sem] def zbz {c:Prop}:andC c none=none:=rfl
@[go_sem] def zbA {c:Prop}:qbP c none=none:=rfl
@[go_sem] def zbB {c:Prop}{x:I}:qbP c (some (vc,x,H))=some (c/\vc,x,H):=rfl
def qfQ:I->I
 | .cond _ x=>x
 | x=>x
def qjq:I->Prop
 | .cond e _=>e=true
 | _=>True
@[go_sem] def zbC {o:Operand}:evx fr o=qfQ (ev fr o):=rfl
@[go_sem] def zbD {o:Operand}:evc fr o=qjq (ev fr o):=rfl
@[go_sem] def zbE {t:Nat}:ev fr (.tmp t)=fr.get t:=rfl
@[go_sem] def zbF:ev fr (.func g)=.d (.fn g []):=rfl
@[go_sem] def zbG {n:Int}:ev fr (.const (.int .i64 n))=if -9223372036854775808<=n/\n<=9223372036854775807 then .d (.int .i64 n) else .junk:=rfl
@[go_sem] def zbH {n:Int}:ev fr (.const (.int .u64 n))=if 0<=n/\n<=18446744073709551615 then .d (.int .u64 n) else .junk:=rfl
@[go_sem] def zbI {s:ByteArray}:ev fr (.const (.string s))=.d (.raw (.string s)):=rfl
@[go_sem] def zbJ:ev fr (.const (.bool b))=.d (.bool b):=rfl
@[go_sem] def zbK:ev fr (.const (.slice none 0 0))=.d .nil:=rfl
@[go_sem] def zbL:ev fr (.const (.pointer none))=.d (.raw (.pointer none)):=rfl
@[go_sem] def zbM {x:D}:qfQ (.d x)=.d x:=rfl
@[go_sem] def zbN:qfQ (.agg cs)=.agg cs:=rfl
@[go_sem] def zbO {k lo:Nat}:qfQ (.sl i g k lo n)=.sl i g k lo n:=rfl
@[go_sem] def zbP {o:Nat}:qfQ (.ptr i o)=.ptr i o:=rfl
@[go_sem] def zbQ {k x o:Nat}{z:D}:qfQ (.eptr i g k x o z)=.eptr i g k x o z:=rfl
@[go_sem] def zbR:qfQ (.map i)=.map i:=rfl
@[go_sem] def zbS:qfQ (.fn g cs)=.fn g cs:=rfl
@[go_sem] def zbT:qfQ (.tup cs)=.tup cs:=rfl
@[go_sem] def zbU {x:I}:qfQ (.cond e x)=x:=rfl
@[go_sem] def zbV {x:D}:qjq (.d x)=True:=rfl
@[go_sem] def zbW:qjq (.agg cs)=True:=rfl
@[go_sem] def zbX {k lo:Nat}:qjq (.sl i g k lo n)=True:=rfl
@[go_sem] def zbY {o:Nat}:qjq (.ptr i o)=True:=rfl
@[go_sem] def zbZ {k x o:Nat}{z:D}:qjq (.eptr i g k x o z)=True:=rfl
@[go_sem] def zca:qjq (.map i)=True:=rfl
@[go_sem] def zcb:qjq (.fn g cs)=True:=rfl
@[go_sem] def zcc:qjq (.tup cs)=True:=rfl
@[go_sem] def zcd {x:I}:qjq (.cond e x)=(e=true):=rfl
@[go_sem] def zce {t:Nat}:Fr.get ⟨n,m⟩ t=look t m:=rfl
@[go_sem] def zcf {s t:Nat}{x:I}:look t ((s,x)::m)=if s=t then x else look t m:=rfl
@[go_sem] def zcg {t:Nat}{x:I}:Fr.put ⟨n,m⟩ (some t) x=if t<n then⟨n,(t,x)::m⟩ else⟨n,m⟩:=rfl
@[go_sem] def zch {x:I}:Fr.put fr none x=fr:=rfl
@[go_sem] def zci:evs fr []=[]:=rfl
@[go_sem] def zcj {o:Operand}{r:List Operand}:evs fr (o::r)=evx fr o::evs fr r:=rfl
@[go_sem] def zck:evcs fr []=True:=rfl
@[go_sem] def zcl {o:Operand}{r:List Operand}:evcs fr (o::r)=(evc fr o/\evcs fr r):=rfl
@[go_sem] def zcm:optE fr none=none:=rfl
@[go_sem] def zcn {o:Operand}:optE fr (some o)=some (evx fr o):=rfl
@[go_sem] def zco:qig fr none=True:=rfl
@[go_sem] def zcp {o:Operand}:qig fr (some o)=evc fr o:=rfl
@[go_sem] def zcq:qbN fr []=[]:=rfl
@[go_sem] def qsu {o:Operand}:qbN fr ((i,o)::r)=(i,evx fr o)::qbN fr r:=rfl
@[go_sem] def qsv:qcd fr []=True:=rfl
@[go_sem] def qrc {o:Operand}:qcd fr ((i,o)::r)=(evc fr o/\qcd fr r):=rfl
@[go_sem] def zcr {t:Nat}:qdq t []=[]:=rfl
@[go_sem] def zcs {t:Nat}{x:I}{r:List I}:qdq t (x::r)=(t,x)::qdq (t+1) r:=rfl
attribute [go_sem] yaL List.map_nil yaW
def qfR:List Oper->Nat->Option Tmp
 | [],_=>none
 | o::_,0=>o.dst
 | _::r,n+1=>qfR r n
def qpd (fr:Fr) (want:Bool):Option Tmp->Option (Prop×Bool)
 | some t=>if t<fr.n then(match fr.get t with|.d x=>some (x.isBool,if want then x.toBool else !x.toBool)|.cond e (.d x)=>some ((e=true->x.isBool),e&&(if want then x.toBool else !x.toBool))|_=>none) else none
 | none=>none
def qlk (want:Bool):I->Option (Prop×Bool)
 | .d x=>some (x.isBool,if want then x.toBool else !x.toBool)
 | .cond e (.d x)=>some ((e=true->x.isBool),e&&(if want then x.toBool else !x.toBool))
 | _=>none
def qll : ∀ (l:List Oper) (j:Nat),(l[j]?).bind (·.dst)=qfR l j
 | [],j=>by simp[qfR]
 | o::r,0=>by simp[qfR]
 | o::r,j+1=>by simpa [qfR] using qll r j
@[go_sem] def zct {j:Nat}{want:Bool}:guardOf all fr j want=qpd fr want (qfR all j):=by
 simp only[guardOf,qll];cases qfR all j <;> rfl
@[go_sem] def zcu {o:Oper}{r:List Oper}:qfR (o::r) 0=o.dst:=rfl
@[go_sem] def zcv {o:Oper}{r:List Oper}:qfR (o::r) (n+1)=qfR r n:=rfl
@[go_sem] def zcw {t:Nat}{want:Bool}:qpd ⟨n,m⟩ want (some t)=if t<n then qlk want (look t m) else none:=by
 simp only[qpd,Fr.get];split
 ·cases look t m <;> first|rfl|(rename_i x;cases x <;> rfl)
 ·rfl
@[go_sem] def zcx {x:D}:qlk true (.d x)=some (x.isBool,x.toBool):=rfl
@[go_sem] def qsw {x:D}:qlk false (.d x)=some (x.isBool,!x.toBool):=rfl
@[go_sem] def qsx {x:D}:qlk true (.cond e (.d x))=some ((e=true->x.isBool),e&&x.toBool):=rfl
@[go_sem] def qrd {x:D}:qlk false (.cond e (.d x))=some ((e=true->x.isBool),e && !x.toBool):=rfl
@[go_sem] def zcy {k:IntKind}{n:Int}:(D.int k n).toInt=n:=rfl
@[go_sem] def zcz:(D.bool b).toBool=b:=rfl
@[go_sem] def zcA {k k':IntKind}{n:Int}:(D.int k n).isInt k'=(k=k'):=rfl
@[go_sem] def zcB:(D.bool b).isBool=True:=rfl
@[go_sem] def zcC {k:Nat}:(D.lst k l).elems=l:=rfl
@[go_sem] def zcD:D.nil.elems=[]:=rfl
@[go_sem] def zcE {k:Nat}:(D.lst k l).isLst k'=(k=k'):=rfl
@[go_sem] def zcF:D.nil.isLst k'=True:=rfl
@[go_sem] def zcG {k:Nat}:(D.lst k l).isSl=True:=rfl
@[go_sem] def zcH:D.nil.isSl=True:=rfl
@[go_sem] def zcI {k:Nat}:(D.lst k l).isNil=false:=rfl
@[go_sem] def zcJ:D.nil.isNil=true:=rfl
@[go_sem] def zcK {cs:List D}:(D.ptr cs).ptrs=cs:=rfl
@[go_sem] def zcL {cs:List D}:(D.ptr cs).isPtr=True:=rfl
@[go_sem] def zcM {cs:List D}{j:Nat}:(D.agg cs).cellAt j=cs.getD j .nil:=rfl
@[go_sem] def zcN {k:IntKind}{n:Int}:(D.int k n).cellAt 0=D.int k n:=rfl
@[go_sem] def zcO:(D.bool b).cellAt 0=D.bool b:=rfl
@[go_sem] def zcP {k:Nat}:(D.lst k l).cellAt 0=D.lst k l:=rfl
@[go_sem] def zcQ:D.nil.cellAt 0=D.nil:=rfl
@[go_sem] def zcR {x d : α}{l:List α}:(x::l).getD 0 d=x:=rfl
@[go_sem] def zcS {x d : α}{l:List α}:(x::l).getD (n+1) d=l.getD n d:=rfl
@[go_sem] def zcT {cs:List D}:(D.agg cs).cells=cs:=rfl
@[go_sem] def zcU {k:IntKind}{n:Int}:(D.int k n).cells=[D.int k n]:=rfl
@[go_sem] def zcV:(D.bool b).cells=[D.bool b]:=rfl
@[go_sem] def zcW {k:Nat}:(D.lst k l).cells=[D.lst k l]:=rfl
@[go_sem] def zcX:D.nil.cells=[D.nil]:=rfl
@[go_sem] def zcY {k:IntKind}{n:Int}:(D.int k n).one=true:=rfl
@[go_sem] def zcZ:(D.bool b).one=true:=rfl
@[go_sem] def zda {k:Nat}:(D.lst k l).one=true:=rfl
@[go_sem] def zdb:D.nil.one=true:=rfl
@[go_sem] def zdc {cs:List D}:(D.agg cs).one=false:=rfl
@[go_sem] def zdd {cs:List D}:(D.ptr cs).one=true:=rfl
@[go_sem] def zde {k:IntKind}{n:Int}:(D.int k n).scalar=true:=rfl
@[go_sem] def zdf:(D.bool b).scalar=true:=rfl
@[go_sem] def zdg {k:Nat}:(D.lst k l).scalar=false:=rfl
@[go_sem] def zdh:D.nil.scalar=true:=rfl
@[go_sem] def qsy:scalars (List.replicate n D.nil)=true:=by induction n with|zero=>rfl|succ n ih=>simp[List.replicate_succ,scalars,D.cells,D.scalar,ih]
@[go_sem] def zdi {cs:List D}:(D.agg cs).notTup=True:=rfl
@[go_sem] def zdj {k:IntKind}{n:Int}:(D.int k n).notTup=True:=rfl
@[go_sem] def zdk:(D.bool b).notTup=True:=rfl
@[go_sem] def zdl {k:Nat}:(D.lst k l).notTup=True:=rfl
@[go_sem] def zdm:(D.tup xs).isTup n=(xs.length=n):=rfl
@[go_sem] def zdn:(D.tup xs).tupLen=xs.length:=rfl
@[go_sem] def zdo:(D.tup xs).tupAt n=xs.getD n .nil:=rfl
@[go_sem] def qqy {x:D}{j:Nat}:qai x j 0=[]:=rfl
@[go_sem] def qqz {x:D}{j:Nat}:qai x j (n+1)=x.cellAt j::qai x (j+1) n:=rfl
@[go_sem] def zdp {cs:List D}:(D.agg cs=D.tup xs)=False:=by simp
@[go_sem] def zdq {k:IntKind}{x:D}:tnorm (.int k) x=.int k x.toInt:=rfl
@[go_sem] def zdr {x:D}:tnorm .bool x=.bool x.toBool:=rfl
@[go_sem] def zds {e:Nat}{x:D}:tnorm (.slice e) x=x:=rfl
@[go_sem] def zdt {e:Nat}{x:D}:tnorm (.ptr e) x=x:=rfl
@[go_sem] def zdu {k:IntKind}{x:D}:tchk (.int k) x=x.isInt k:=rfl
@[go_sem] def zdv {x:D}:tchk .bool x=x.isBool:=rfl
@[go_sem] def zdw {e:Nat}{x:D}:tchk (.slice e) x=(x.one=true):=rfl
@[go_sem] def zdx {e:Nat}{x:D}:tchk (.ptr e) x=(x.one=true):=rfl
@[go_sem] def zdy {t:Ty}{x:D}:tnormI t (.d x)=.d (tnorm t x):=rfl
@[go_sem] def zdz {t:Ty}{k lo:Nat}:tnormI t (.sl i g k lo n)=.sl i g k lo n:=rfl
@[go_sem] def zdA {t:Ty}:tnormI t (.map i)=.map i:=rfl
@[go_sem] def zdB {t:Ty}{x:D}:qgT t (.d x)=tchk t x:=rfl
@[go_sem] def zdC {t:Ty}{k lo:Nat}:qgT t (.sl i g k lo n)=True:=rfl
@[go_sem] def zdD {t:Ty}:qgT t (.map i)=True:=rfl
@[go_sem] def zdE {k:IntKind}:(Ty.int k).agg=false:=rfl
@[go_sem] def zdF:Ty.bool.agg=false:=rfl
@[go_sem] def zdG {e:Nat}:(Ty.slice e).agg=false:=rfl
@[go_sem] def zdH {e:Nat}:(Ty.ptr e).agg=false:=rfl
@[go_sem] def zdI {k e:Nat}:(Ty.map k e).agg=false:=rfl
@[go_sem] def zdJ {fs:List (Nat×Nat)}:(Ty.struct fs).agg=true:=rfl
@[go_sem] def zdK {e:Nat}:(Ty.array n e).agg=true:=rfl
@[go_sem] def zdL:allD []=some []:=rfl
def consD (x:D):Option (List D)->Option (List D)
 | some l=>some (x::l)
 | none=>none
@[go_sem] def zdM {x:D}{r:List I}:allD (.d x::r)=consD x (allD r):=by
 simp only[allD];cases allD r <;> rfl
@[go_sem] def zdN {x:D}:consD x (some l)=some (x::l):=rfl
@[go_sem] def zdO {x:D}:consD x none=none:=rfl
@[go_sem] def zdP {k lo:Nat}{r:List I}:allD (.sl i g k lo n::r)=none:=rfl
@[go_sem] def zdQ {o:Nat}{r:List I}:allD (.ptr i o::r)=none:=rfl
@[go_sem] def zdR {r:List I}:allD (.map i::r)=none:=rfl
def qpe (cs:List I):Option (List D)->I
 | some ds=>.d (.agg ds)
 | none=>.agg cs
@[go_sem] def zdS:mkAgg cs=qpe cs (allD cs):=by
 simp only[mkAgg];cases allD cs <;> rfl
@[go_sem] def zdT:qpe cs (some ds)=.d (.agg ds):=rfl
@[go_sem] def zdU:qpe cs none=.agg cs:=rfl
def mkFnO (g:Nat) (cs:List I):Option (List D)->I
 | some ds=>.d (.fn g ds)
 | none=>.fn g cs
@[go_sem] def zdV:mkFn g cs=mkFnO g cs (allD cs):=by
 simp only[mkFn];cases allD cs <;> rfl
@[go_sem] def zdW:mkFnO g cs none=.fn g cs:=rfl
@[go_sem] def zdX:qcc []=True:=rfl
@[go_sem] def zdY {x:I}{r:List I}:qcc (x::r)=(oneI x/\qcc r):=rfl
@[go_sem] def zdZ {x:D}:oneI (.d x)=(x.one=true):=rfl
@[go_sem] def zea {k lo:Nat}:oneI (.sl i g k lo n)=True:=rfl
@[go_sem] def zeb:oneI (.map i)=True:=rfl
def qat:List R->Nat->Option R
 | [],_=>none
 | r::_,0=>some r
 | _::l,n+1=>qat l n
def qaC : ∀ (H:List R) (i:Nat),H[i]?=qat H i
 | [],i=>by simp[qat]
 | r::l,0=>by simp[qat]
 | r::l,i+1=>by simpa [qat] using qaC l i
def frzR (fr:Fr) (H:List R) (t i g k lo n:Nat):Option R->Option (Prop×Fr×List R)
 | some (.row g' k' dp l)=>some (g=g'/\k=k'/\dp.shut=true,fr.put (some t) (.d (.lst k ((l.drop lo).take n))),H.set i (.dead g'))
 | _=>none
def frzA (fr:Fr) (t:Nat):Option (Prop×List D×List R)->Option (Prop×Fr×List R)
 | some (fc,cs',H')=>some (fc,fr.put (some t) (.d (.agg cs')),H')
 | none=>none
def frzJd (x:D):Option (Prop×List D×List R)->Option (Prop×List D×List R)
 | some (c,xs,H')=>some (c,x::xs,H')
 | none=>none
def frzJs (c0:Prop) (x:D):Option (Prop×List D×List R)->Option (Prop×List D×List R)
 | some (c,xs,H')=>some (c0/\c,x::xs,H')
 | none=>none
def frzJ (H:List R) (i g k lo n:Nat) (r:List I):Option R->Option (Prop×List D×List R)
 | some (.row g' k' dp l)=>frzJs (g=g'/\k=k'/\dp.shut=true) (.lst k ((l.drop lo).take n)) (qd7 r (H.set i (.dead g')))
 | _=>none
@[go_sem] def zec:qd7 [] H=some (True,[],H):=rfl
@[go_sem] def zed {x:D}{r:List I}:qd7 (.d x::r) H=frzJd x (qd7 r H):=by
 simp only[qd7];cases qd7 r H <;> rfl
@[go_sem] def zee {k lo:Nat}{r:List I}:qd7 (.sl i g k lo n::r) H=frzJ H i g k lo n r (qat H i):=by
 simp only[qd7];rw[<-qaC];cases H[i]? with
 | none=>rfl
 | some y=>
  cases y <;> rfl
@[go_sem] def zef {x:D}{c:Prop}:frzJd x (some (c,xs,H))=some (c,x::xs,H):=rfl
@[go_sem] def zeg {c0:Prop}{x:D}{c:Prop}:frzJs c0 x (some (c,xs,H))=some (c0/\c,x::xs,H):=rfl
@[go_sem] def zeh {k lo:Nat}{r:List I}:frzJ H i g k lo n r (some (.row g' k' dp l))=frzJs (g=g'/\k=k'/\dp.shut=true) (.lst k ((l.drop lo).take n)) (qd7 r (H.set i (.dead g'))):=rfl
def frzS (fr:Fr) (H:List R) (t:Nat):I->Option (Prop×Fr×List R)
 | .sl i g k lo n=>frzR fr H t i g k lo n (qat H i)
 | .agg cs=>frzA fr t (qd7 cs H)
 | _=>none
@[go_sem] def zei {t:Nat}{c:Prop}{cs:List D}:frzA fr t (some (c,cs,H))=some (c,fr.put (some t) (.d (.agg cs)),H):=rfl
@[go_sem] def zej {t:Nat}:frzS fr H t (.agg cs)=frzA fr t (qd7 cs H):=rfl
@[go_sem] def zek {j t:Nat}:frzP fr H [(j,.tmp t)]=frzS fr H t (fr.get t):=by
 simp only[frzP];cases fr.get t <;> simp only[frzS]
 ·rename_i cs;cases qd7 cs H <;> rfl
 ·rename_i i g k lo n;rw[<-qaC];cases H[i]? with
  | none=>rfl
  | some r=>cases r <;> rfl
@[go_sem] def zel {t k lo:Nat}:frzS fr H t (.sl i g k lo n)=frzR fr H t i g k lo n (qat H i):=rfl
@[go_sem] def zem {t k lo:Nat}:frzR fr H t i g k lo n (some (.row g' k' dp l))=some (g=g'/\k=k'/\dp.shut=true,fr.put (some t) (.d (.lst k ((l.drop lo).take n))),H.set i (.dead g')):=rfl
@[go_sem] def qre:DP.ofB true=.own []:=rfl
@[go_sem] def zen:DP.ofB false=.fz:=rfl
@[go_sem] def zeo:(DP.own []).shut=true:=rfl
@[go_sem] def zep:DP.fz.shut=true:=rfl
@[go_sem] def zeq {hs:List Hole}:(DP.own hs).o=true:=rfl
@[go_sem] def zer:DP.fz.o=false:=rfl
@[go_sem] def zes {r:R}{l:List R}:qat (r::l) 0=some r:=rfl
@[go_sem] def zet {r:R}{l:List R}:qat (r::l) (n+1)=qat l n:=rfl
attribute [go_sem] yaf yam List.cons_append List.nil_append List.set_cons_zero List.set_cons_succ List.drop_succ_cons List.drop_zero List.take_succ_cons List.take_zero List.drop_nil List.take_nil
section draw
variable {K:Fr->Prop}{j:Nat}{want:Bool}
def qsP (E:Env) (all rest:List Oper) (H:List R) (K:Fr->Prop) (fr:Fr) (dst:Option Tmp):Option (Prop×I)->Prop
 | some (vc,x)=>vc/\opsQ E all H K rest (fr.put dst x)
 | none=>False
def qsG (E:Env) (all rest:List Oper) (H:List R) (K:Fr->Prop) (fr:Fr) (dst:Option Tmp):Option (Prop×Bool)->Option (Prop×I)->Prop
 | some (gc,e),some (vc,x)=>gc/\(e=true->vc)/\opsQ E all H K rest (fr.put dst (.cond e x))
 | _,_=>False
def qsGC (E:Env) (all rest:List Oper) (H:List R) (K:Fr->Prop) (fr:Fr) (dst:Option Tmp) (c:Prop) (fn:Option (Nat×List I)) (args:List I):Option (Prop×Bool)->Prop
 | some (gc,e)=>gc/\qhR E c e fn args H (fun x=>opsQ E all H K rest (fr.put dst (.cond e (.d x))))
 | none=>False
@[go_sem] def zeu {x:I}:qsP E all rest H K fr dst (some (vc,x))=(vc/\opsQ E all H K rest (fr.put dst x)):=rfl
@[go_sem] def zev {x:I}:qsG E all rest H K fr dst (some (gc,e)) (some (vc,x))=(gc/\(e=true->vc)/\opsQ E all H K rest (fr.put dst (.cond e x))):=rfl
@[go_sem] def zew {c:Prop}{args:List I}:qsGC E all rest H K fr dst c fn args (some (gc,e))=(gc/\qhR E c e fn args H (fun x=>opsQ E all H K rest (fr.put dst (.cond e (.d x))))):=rfl
def qs_P {op:Op}{o:Option (Prop×I)}(h1:qbh op=none) (h2:sopP E.T fr H op=o):opsQ E all H K (⟨dst,op,ty,pos,af,none⟩::rest) fr=qsP E all rest H K fr dst o:=by
 simp only[opsQ,h1,h2];cases o <;> rfl
def qs_G {op:Op}{o:Option (Prop×I)}(h1:qbh op=none) (h2:sopP E.T fr H op=o) :
  opsQ E all H K (⟨dst,op,ty,pos,af,some (j,want)⟩::rest) fr=qsG E all rest H K fr dst (guardOf all fr j want) o:=by
 simp only[opsQ,h1,h2];cases guardOf all fr j want with
 | none=>rfl
 | some g=>cases o <;> rfl
@[go_sem] def zex:opsQ E all H K [] fr=K fr:=rfl
@[go_sem] def zey {g:Operand}{args:List Operand}:opsQ E all H K (⟨dst,.call ⟨.value g,args.toArray,ts⟩,ty,pos,af,none⟩::rest) fr =
  qhR E (evc fr g/\evcs fr args) true (fnOf (evx fr g)) (evs fr args) H (fun x=>opsQ E all H K rest (fr.put dst (.d x))):=by simp only[opsQ,qbh]
@[go_sem] def zez {g:Operand}{args:List Operand}:opsQ E all H K (⟨dst,.call ⟨.value g,args.toArray,ts⟩,ty,pos,af,some (j,want)⟩::rest) fr =
  qsGC E all rest H K fr dst (evc fr g/\evcs fr args) (fnOf (evx fr g)) (evs fr args) (guardOf all fr j want):=by
 simp only[opsQ,qbh];cases guardOf all fr j want <;> rfl
@[go_sem] def zeA {T:Nat->Option TI}{l:List Oper}:quiet T l=(qaS l&&qn4 T l):=rfl
@[go_sem] def zeB {T:Nat->Option TI}:qn4 T []=true:=rfl
@[go_sem] def zeC:qg4 pf []=true:=rfl
@[go_sem] def zeD {T:Nat->Option TI}{op:Op}:qn4 T (⟨dst,op,ty,pos,af,gd⟩::rest)=(qdM T ty op&&qn4 T rest):=rfl
@[go_sem] def qsz {op:Op}:qg4 pf (⟨dst,op,ty,pos,af,gd⟩::rest)=(!qdr pf op&&qg4 pf rest):=rfl
@[go_sem] def zeE {k:IntKind}{a b:Nat}{z:D}:qlj (some ⟨.int k,a,b,z⟩)=true:=rfl
@[go_sem] def zeF {a b:Nat}{z:D}:qlj (some ⟨.bool,a,b,z⟩)=true:=rfl
@[go_sem] def zeG {t:Ty}{a b:Nat}{z:D}(h1 : ∀ k,t=.int k->False) (h2:t=.bool->False):qlj (some ⟨t,a,b,z⟩)=false:=by
 cases t with
 | int k=>exact absurd rfl (fun h=>h1 k h)
 | bool=>exact absurd rfl (fun h=>h2 h)
 | _=>rfl
@[go_sem] def zeH {T:Nat->Option TI}{g:Operand}:qdM T ty (.call ⟨.value g,args,ts⟩)=qlj (T ty):=rfl
@[go_sem] def zeI:qdr pf (.call ⟨.value (.func g),args,ts⟩)=qiw (pf g):=rfl
@[go_sem] def zeJ {g:Tmp}:qdr pf (.call ⟨.value (.tmp g),args,ts⟩)=false:=rfl
@[go_sem] def zeK:qiw .own=false:=rfl
@[go_sem] def zeL:qiw .fz=false:=rfl
@[go_sem] def qsA:qiw .proc=true:=rfl
@[go_sem] def qrf {T:Nat->Option TI}{b:Builtin}:qdM T ty (.call ⟨.builtin b,args,ts⟩)=true:=rfl
@[go_sem] def qrg {b:Builtin}:qdr pf (.call ⟨.builtin b,args,ts⟩)=false:=rfl
@[go_sem] def zeM {T:Nat->Option TI}:qdM T ty (.move x)=true:=rfl
@[go_sem] def zeN:qdr pf (.move x)=false:=rfl
@[go_sem] def qsB {T:Nat->Option TI}:qdM T ty (.assign x)=true:=rfl
@[go_sem] def qsC:qdr pf (.assign x)=false:=rfl
@[go_sem] def zeO {T:Nat->Option TI}:qdM T ty (.pick c x y)=true:=rfl
@[go_sem] def zeP:qdr pf (.pick c x y)=false:=rfl
@[go_sem] def zeQ {T:Nat->Option TI}:qdM T ty (.build t p)=true:=rfl
@[go_sem] def zeR:qdr pf (.build t p)=false:=rfl
@[go_sem] def zeS {T:Nat->Option TI}:qdM T ty (.load t x)=true:=rfl
@[go_sem] def zeT:qdr pf (.load t x)=false:=rfl
@[go_sem] def qqA {T:Nat->Option TI}:qdM T ty (.nilCheck x)=true:=rfl
@[go_sem] def qqB:qdr pf (.nilCheck x)=false:=rfl
@[go_sem] def zeU {T:Nat->Option TI}:qdM T ty (.binOp op t x y yt)=true:=rfl
@[go_sem] def zeV:qdr pf (.binOp op t x y yt)=false:=rfl
@[go_sem] def zeW {T:Nat->Option TI}{op:UnOp}:qdM T ty (.unOp op t x)=true:=rfl
@[go_sem] def zeX {op:UnOp}:qdr pf (.unOp op t x)=false:=rfl
@[go_sem] def qrh {T:Nat->Option TI}:qdM T ty (.convert t u x)=true:=rfl
@[go_sem] def qri:qdr pf (.convert t u x)=false:=rfl
@[go_sem] def zeY {T:Nat->Option TI}:qdM T ty (.slice t x lo hi mx)=true:=rfl
@[go_sem] def zeZ:qdr pf (.slice t x lo hi mx)=false:=rfl
@[go_sem] def qpf {T:Nat->Option TI}:qdM T ty (.fieldAddr t x i)=true:=rfl
@[go_sem] def qpg:qdr pf (.fieldAddr t x i)=false:=rfl
@[go_sem] def qph {T:Nat->Option TI}:qdM T ty (.indexAddr t x y)=true:=rfl
@[go_sem] def qpi:qdr pf (.indexAddr t x y)=false:=rfl
@[go_sem] def zfa {T:Nat->Option TI}:qdM T ty (.index t x y)=true:=rfl
@[go_sem] def zfb:qdr pf (.index t x y)=false:=rfl
@[go_sem] def qrj {T:Nat->Option TI}:qdM T ty (.extract x i)=true:=rfl
@[go_sem] def qrk:qdr pf (.extract x i)=false:=rfl
@[go_sem] def qsD {T:Nat->Option TI}:qdM T ty (.lookup t x y ok)=true:=rfl
@[go_sem] def qsE:qdr pf (.lookup t x y ok)=false:=rfl
@[go_sem] def qpj {T:Nat->Option TI}{m:Operand}:qdM T ty (.mapUpdate t m x y)=true:=rfl
@[go_sem] def qpk {m:Operand}:qdr pf (.mapUpdate t m x y)=false:=rfl
@[go_sem] def zfc {T:Nat->Option TI}:qdM T ty (.alloc t)=true:=rfl
@[go_sem] def zfd:qdr pf (.alloc t)=false:=rfl
@[go_sem] def qoD {T:Nat->Option TI}:qdM T ty (.buildSlice t n parts)=true:=rfl
@[go_sem] def qoE:qdr pf (.buildSlice t n parts)=false:=rfl
@[go_sem] def zfe {T:Nat->Option TI}:qdM T ty (.store t x y)=true:=rfl
@[go_sem] def zff:qdr pf (.store t x y)=false:=rfl
@[go_sem] def zfg:qaS []=true:=rfl
@[go_sem] def zfh {g:Operand}{args:List Operand}:qaS (⟨dst,.call ⟨.value g,args.toArray,ts⟩,ty,pos,af,gd⟩::rest)=qaS rest:=rfl
def qsF (E:Env) (c:Prop) (e:Bool) (f:Nat) (K:D->Prop):Option (Prop×List D)->Prop
 | some (vc,ds)=>(e=true->c/\vc)/\qq1 E e f ds K
 | none=>False
@[go_sem] def zfi {c:Prop}{caps args:List I}{K:D->Prop}:qhR E c e (some (g,caps)) args H K=qsF E c e g K (qfb H (args++caps)):=by
 simp only[qhR];cases qfb H (args++caps) <;> rfl
@[go_sem] def zfj {c:Prop}{K:D->Prop}:qsF E c e g K (some (vc,ds))=((e=true->c/\vc)/\qq1 E e g ds K):=rfl
def qcD {K:D->Prop}{x:D}(h:e=true->Pure E.P g ds x/\scal x) (hk:K x):qq1 E e g ds K:=⟨x,h,hk⟩
@[go_sem] def zfk:opsQ E all H K (⟨dst,.move x,ty,pos,af,none⟩::rest) fr=qsP E all rest H K fr dst (some (evc fr x,evx fr x)):=qs_P rfl rfl
@[go_sem] def zfl:opsQ E all H K (⟨dst,.assign x,ty,pos,af,none⟩::rest) fr=qsP E all rest H K fr dst (some (evc fr x,evx fr x)):=qs_P rfl rfl
@[go_sem] def zfm:opsQ E all H K (⟨dst,.pick c x y,ty,pos,af,none⟩::rest) fr=qsP E all rest H K fr dst (andC (evc fr c) (qmc (evx fr c) (evx fr x) (evx fr y) (evc fr x) (evc fr y))):=qs_P rfl rfl
@[go_sem] def zfn:opsQ E all H K (⟨dst,.load t x,ty,pos,af,none⟩::rest) fr=qsP E all rest H K fr dst (andC (evc fr x) (qfG E.T H t (evx fr x))):=qs_P rfl rfl
@[go_sem] def zfo:opsQ E all H K (⟨dst,.nilCheck x,ty,pos,af,none⟩::rest) fr=qsP E all rest H K fr dst (andC (evc fr x) (sNil H (evx fr x))):=qs_P rfl rfl
@[go_sem] def zfp:opsQ E all H K (⟨dst,.binOp op t x y yt,ty,pos,af,none⟩::rest) fr=qsP E all rest H K fr dst (andC (evc fr x/\evc fr y) (sBin E.T H op t (evx fr x) (evx fr y))):=qs_P rfl rfl
@[go_sem] def zfq {op:UnOp}:opsQ E all H K (⟨dst,.unOp op t x,ty,pos,af,none⟩::rest) fr=qsP E all rest H K fr dst (andC (evc fr x) (sUn op (evx fr x))):=qs_P rfl rfl
@[go_sem] def zfr:opsQ E all H K (⟨dst,.convert s t x,ty,pos,af,none⟩::rest) fr=qsP E all rest H K fr dst (andC (evc fr x) (ql9 E.T s t (evx fr x))):=qs_P rfl rfl
@[go_sem] def zfs:opsQ E all H K (⟨dst,.slice t x lo hi mx,ty,pos,af,none⟩::rest) fr=qsP E all rest H K fr dst (andC (evc fr x/\qig fr lo/\qig fr hi) (qhw E.T H t (evx fr x) (optE fr lo) (optE fr hi) (optE fr mx))):=qs_P rfl rfl
@[go_sem] def qsH:opsQ E all H K (⟨dst,.fieldAddr t x i,ty,pos,af,none⟩::rest) fr=qsP E all rest H K fr dst (andC (evc fr x) (qcv E.T H t (evx fr x) i)):=qs_P rfl rfl
@[go_sem] def qsI:opsQ E all H K (⟨dst,.indexAddr t x y,ty,pos,af,none⟩::rest) fr=qsP E all rest H K fr dst (andC (evc fr x/\evc fr y) (qch E.T H t (evx fr x) (evx fr y))):=qs_P rfl rfl
@[go_sem] def zft:opsQ E all H K (⟨dst,.lookup t x y ok,ty,pos,af,none⟩::rest) fr=qsP E all rest H K fr dst (andC (evc fr x/\evc fr y) (qe4 E.T H t (evx fr x) (evx fr y) ok)):=qs_P rfl rfl
@[go_sem] def zfu:opsQ E all H K (⟨dst,.extract x i,ty,pos,af,none⟩::rest) fr=qsP E all rest H K fr dst (andC (evc fr x) (qeE (evx fr x) i)):=qs_P rfl rfl
@[go_sem] def zfv:opsQ E all H K (⟨dst,.call ⟨.builtin .len,#[x],#[t]⟩,ty,pos,af,none⟩::rest) fr=qsP E all rest H K fr dst (andC (evc fr x) (sLen E.T H t (evx fr x))):=qs_P rfl rfl
@[go_sem] def zfw:opsQ E all H K (⟨dst,.move x,ty,pos,af,some (j,want)⟩::rest) fr=qsG E all rest H K fr dst (guardOf all fr j want) (some (evc fr x,evx fr x)):=qs_G rfl rfl
@[go_sem] def zfx:opsQ E all H K (⟨dst,.pick c x y,ty,pos,af,some (j,want)⟩::rest) fr=qsG E all rest H K fr dst (guardOf all fr j want) (andC (evc fr c) (qmc (evx fr c) (evx fr x) (evx fr y) (evc fr x) (evc fr y))):=qs_G rfl rfl
@[go_sem] def zfy:opsQ E all H K (⟨dst,.load t x,ty,pos,af,some (j,want)⟩::rest) fr=qsG E all rest H K fr dst (guardOf all fr j want) (andC (evc fr x) (qfG E.T H t (evx fr x))):=qs_G rfl rfl
@[go_sem] def zfz:opsQ E all H K (⟨dst,.binOp op t x y yt,ty,pos,af,some (j,want)⟩::rest) fr=qsG E all rest H K fr dst (guardOf all fr j want) (andC (evc fr x/\evc fr y) (sBin E.T H op t (evx fr x) (evx fr y))):=qs_G rfl rfl
@[go_sem] def zfA:opsQ E all H K (⟨dst,.slice t x lo hi mx,ty,pos,af,some (j,want)⟩::rest) fr=qsG E all rest H K fr dst (guardOf all fr j want) (andC (evc fr x/\qig fr lo/\qig fr hi) (qhw E.T H t (evx fr x) (optE fr lo) (optE fr hi) (optE fr mx))):=qs_G rfl rfl
@[go_sem] def qrl:opsQ E all H K (⟨dst,.indexAddr t x y,ty,pos,af,some (j,want)⟩::rest) fr=qsG E all rest H K fr dst (guardOf all fr j want) (andC (evc fr x/\evc fr y) (qch E.T H t (evx fr x) (evx fr y))):=qs_G rfl rfl
@[go_sem] def zfB:opsQ E all H K (⟨dst,.call ⟨.builtin .len,#[x],#[t]⟩,ty,pos,af,some (j,want)⟩::rest) fr=qsG E all rest H K fr dst (guardOf all fr j want) (andC (evc fr x) (sLen E.T H t (evx fr x))):=qs_G rfl rfl
@[go_sem] def zfC:qaS (⟨dst,.move x,ty,pos,af,gd⟩::rest)=qaS rest:=rfl
@[go_sem] def qrm:qaS (⟨dst,.assign x,ty,pos,af,gd⟩::rest)=qaS rest:=rfl
@[go_sem] def zfD:qaS (⟨dst,.pick c x y,ty,pos,af,gd⟩::rest)=qaS rest:=rfl
@[go_sem] def qsJ:qaS (⟨dst,.build t parts,ty,pos,af,gd⟩::rest)=qaS rest:=rfl
@[go_sem] def zfE:qaS (⟨dst,.load t x,ty,pos,af,gd⟩::rest)=qaS rest:=rfl
@[go_sem] def qpl:qaS (⟨dst,.nilCheck x,ty,pos,af,gd⟩::rest)=qaS rest:=rfl
@[go_sem] def qsK:qaS (⟨dst,.binOp op t x y yt,ty,pos,af,gd⟩::rest)=qaS rest:=rfl
@[go_sem] def zfF {op:UnOp}:qaS (⟨dst,.unOp op t x,ty,pos,af,gd⟩::rest)=qaS rest:=rfl
@[go_sem] def qqC:qaS (⟨dst,.convert s t x,ty,pos,af,gd⟩::rest)=qaS rest:=rfl
@[go_sem] def qsL:qaS (⟨dst,.slice t x lo hi mx,ty,pos,af,gd⟩::rest)=qaS rest:=rfl
@[go_sem] def qoF:qaS (⟨dst,.fieldAddr t x i,ty,pos,af,gd⟩::rest)=qaS rest:=rfl
@[go_sem] def qoG:qaS (⟨dst,.indexAddr t x y,ty,pos,af,gd⟩::rest)=qaS rest:=rfl
@[go_sem] def qsM:qaS (⟨dst,.index t x y,ty,pos,af,gd⟩::rest)=qaS rest:=rfl
@[go_sem] def qqD:qaS (⟨dst,.extract x i,ty,pos,af,gd⟩::rest)=qaS rest:=rfl
@[go_sem] def zfG:qaS (⟨dst,.call ⟨.builtin .len,#[x],#[t]⟩,ty,pos,af,gd⟩::rest)=qaS rest:=rfl
@[go_sem] def zfH:qaS (⟨dst,.call ⟨.builtin .min,#[x,y],ts⟩,ty,pos,af,gd⟩::rest)=qaS rest:=rfl
@[go_sem] def qrn:qaS (⟨dst,.lookup t x y ok,ty,pos,af,gd⟩::rest)=qaS rest:=rfl
@[go_sem] def qoH {m:Operand}:qaS (⟨dst,.mapUpdate t m x y,ty,pos,af,gd⟩::rest)=false:=rfl
@[go_sem] def qsN:qaS (⟨dst,.alloc t,ty,pos,af,gd⟩::rest)=false:=rfl
@[go_sem] def qn6:qaS (⟨dst,.buildSlice t n parts,ty,pos,af,gd⟩::rest)=false:=rfl
@[go_sem] def qsO:qaS (⟨dst,.store t x y,ty,pos,af,gd⟩::rest)=false:=rfl
@[go_sem] def qro:qaS (⟨dst,.call ⟨.builtin .append,#[x,y],#[t,t']⟩,ty,pos,af,gd⟩::rest)=false:=rfl
end draw
end Go.VL
namespace Go.VL
set_option linter.defProp false
variable {o:Option (Prop×I)}{t e n j a g2 f l0:Nat}{p:Nat×Nat}{pd zr iv xd zz:D}{cs:List I}{h:Hole}{vc0 vc:Prop}{m:Bool}{os is:List Nat}{xs ds ys:List D}{es:List (D×D)}{fs:List (Nat×Nat)}{dp:DP}{ix:I}{lo hi:Option I}{d:Int}{op:BinOp}
variable {E:Env}{Q:Post}{fr:Fr}{H:List R}{T:Nat->Option TI}{ty:Ty}{sz b:Nat}{z:D}
def qna:Bool->Ty->Nat->D->Option (Prop×I)
 | true,_,sz,pd=>some (pd.isPtr/\sz<=pd.ptrs.length,.d (.agg (pd.ptrs.take sz)))
 | false,ty,_,pd=>some (pd.isPtr/\0<pd.ptrs.length/\tchk ty (pd.ptrs.getD 0 .nil),.d (tnorm ty (pd.ptrs.getD 0 .nil)))
def qnb:Option R->Bool->Ty->Nat->Nat->Option (Prop×I)
 | some (.box cs),true,_,sz,off=>some (off+sz<=cs.length/\qcc ((cs.drop off).take sz),mkAgg ((cs.drop off).take sz))
 | some (.box cs),false,ty,_,off=>some (off<cs.length/\qgT ty (cs.getD off .junk),tnormI ty (cs.getD off .junk))
 | _,_,_,_,_=>none
def qeg (b:Bool) (o:Option (Prop×I)):Option (Prop×I):=
 match b with
 | true=>none
 | false=>o
@[go_sem] def zfI:qeg true o=none:=rfl
@[go_sem] def zfJ:qeg false o=o:=rfl
def qeV:Option R->Bool->Ty->Nat->D->Nat->Nat->Nat->Nat->D->Option (Prop×I)
 | some (.row g' k' .fz l),true,_,sz,_,g,k,idx,off,z=>some (g=g'/\k=k'/\idx<l.length/\off+sz<=k,.d (.agg (qai (l.getD idx z) off sz)))
 | some (.row g' k' .fz l),false,ty,sz,_,g,k,idx,off,z=>some (g=g'/\k=k'/\idx<l.length/\off<k/\tchk ty ((l.getD idx z).cellAt off),.d (tnorm ty ((l.getD idx z).cellAt off)))
 | some (.row g' k' (.own []) l),true,_,sz,zr,g,k,idx,off,z=>qeg (qgg zr) (some (g=g'/\k=k'/\idx<l.length/\off+sz<=k/\∀ c∈qai (l.getD idx z) off sz,c.scalar=true,.d (.agg (qai (l.getD idx z) off sz))))
 | some (.row g' k' (.own hs) l),true,_,sz,zr,g,k,idx,off,z=>qeg (qgg zr)
   (
    match qbz k' hs idx (l.getD idx z) zr.cells off with
    | some (vc,xs)=>some (g=g'/\k=k'/\idx<l.length/\off+sz<=k/\zr.cells.length=sz/\vc/\qcc xs,mkAgg xs)
    | none=>none)
 | some (.row g' k' (.own _) l),false,ty,sz,_,g,k,idx,off,z=>qeg (slTy ty) (some (g=g'/\k=k'/\idx<l.length/\off<k/\tchk ty ((l.getD idx z).cellAt off),.d (tnorm ty ((l.getD idx z).cellAt off))))
 | _,_,_,_,_,_,_,_,_,_=>none
def qms:Option TI->List R->I->Option (Prop×I)
 | some ti,_,.d pd=>qna ti.ty.agg ti.ty ti.size pd
 | some ti,H,.ptr i off=>qnb (qat H i) ti.ty.agg ti.ty ti.size off
 | some ti,H,.eptr i g k idx off z=>qeV (qat H i) ti.ty.agg ti.ty ti.size ti.zero g k idx off z
 | _,_,_=>none
@[go_sem] def zfK {p:I}:qfG T H t p=qms (T t) H p:=by
 unfold qfG;cases hT:T t with
 | none=>cases p <;> simp only[qcA,hT] <;> rfl
 | some ti=>
  cases p with
  | d pd=>simp only[qms,qcA,hT];cases ti.ty.agg <;> rfl
  | ptr i off=>
   simp only[qms,qcA,hT,<-qaC];cases H[i]? with
   | none=>rfl
   | some r=>
    cases r <;> first|rfl|(rename_i cs;cases ti.ty.agg <;> rfl)
  | eptr i g k idx off z=>
   simp only[qms,<-qaC];cases hi:H[i]? with
   | none=>simp only[qcA,hT,hi];rfl
   | some r=>
    cases r with
    | row g' k' dp l=>
     cases dp with
     | fz=>
      simp only[qcA,hT,hi];cases ti.ty.agg <;> rfl
     | own hs=>
      simp only[qmY];cases ha:ti.ty.agg with
      | true=>
       cases hn:qgg ti.zero with
       | true=>cases hs <;> simp only[qeV,hn,qeg]
       | false=>
        cases hs with
        | nil=>simp only[qcA,hT,hi,ha,hn,qeV,qeg]
        | cons x r=>
         simp only[qcA,hT,hi,ha,hn,qeV,qeg];cases qbz k' (x::r) idx (l.getD idx z) ti.zero.cells off <;> rfl
      | false=>
       cases hn:slTy ti.ty with
       | true=>cases hs <;> simp only[qeV,hn,qeg]
       | false=>cases hs <;> simp only[qcA,hT,hi,ha,hn,qeV,qeg]
    | _=>simp only[qcA,hT,hi] <;> rfl
  | _=>simp only[qcA,hT] <;> rfl
@[go_sem] def zfL:qms (some ⟨ty,sz,b,z⟩) H (.d pd)=qna ty.agg ty sz pd:=rfl
@[go_sem] def zfM {i off:Nat}:qms (some ⟨ty,sz,b,z⟩) H (.ptr i off)=qnb (qat H i) ty.agg ty sz off:=rfl
@[go_sem] def zfN {i g k idx off:Nat}{z':D}:qms (some ⟨ty,sz,b,z⟩) H (.eptr i g k idx off z')=qeV (qat H i) ty.agg ty sz z g k idx off z':=rfl
@[go_sem] def zfO:qna true ty sz pd=some (pd.isPtr/\sz<=pd.ptrs.length,.d (.agg (pd.ptrs.take sz))):=rfl
@[go_sem] def qsQ:qna false ty sz pd=some (pd.isPtr/\0<pd.ptrs.length/\tchk ty (pd.ptrs.getD 0 .nil),.d (tnorm ty (pd.ptrs.getD 0 .nil))):=rfl
@[go_sem] def zfP {off:Nat}:qnb (some (.box cs)) true ty sz off=some (off+sz<=cs.length/\qcc ((cs.drop off).take sz),mkAgg ((cs.drop off).take sz)):=rfl
@[go_sem] def qsR {off:Nat}:qnb (some (.box cs)) false ty sz off=some (off<cs.length/\qgT ty (cs.getD off .junk),tnormI ty (cs.getD off .junk)):=rfl
section
variable {g k g' k' idx off:Nat}{l:List D}{z':D}{kk:IntKind}{hs:List Hole}
@[go_sem] def zfQ:qeV (some (.row g' k' .fz l)) true ty sz z g k idx off z'=some (g=g'/\k=k'/\idx<l.length/\off+sz<=k,.d (.agg (qai (l.getD idx z') off sz))):=rfl
@[go_sem] def zfR:qeV (some (.row g' k' (.own []) l)) true ty sz z g k idx off z'=qeg (qgg z) (some (g=g'/\k=k'/\idx<l.length/\off+sz<=k/\∀ c∈qai (l.getD idx z') off sz,c.scalar=true,.d (.agg (qai (l.getD idx z') off sz)))):=rfl
@[go_sem] def zfS:qeV (some (.row g' k' (.own (h::hs)) l)) true ty sz z g k idx off z'=qeg (qgg z)
   (
    match qbz k' (h::hs) idx (l.getD idx z') z.cells off with
    | some (vc,xs)=>some (g=g'/\k=k'/\idx<l.length/\off+sz<=k/\z.cells.length=sz/\vc/\qcc xs,mkAgg xs)
    | none=>none):=rfl
@[go_sem] def zfT:qeV (some (.row g' k' .fz l)) false ty sz z g k idx off z'=some (g=g'/\k=k'/\idx<l.length/\off<k/\tchk ty ((l.getD idx z').cellAt off),.d (tnorm ty ((l.getD idx z').cellAt off))):=rfl
@[go_sem] def zfU:qeV (some (.row g' k' (.own hs) l)) false ty sz z g k idx off z'=qeg (slTy ty) (some (g=g'/\k=k'/\idx<l.length/\off<k/\tchk ty ((l.getD idx z').cellAt off),.d (tnorm ty ((l.getD idx z').cellAt off)))):=by cases hs <;> rfl
@[go_sem] def zfV:slTy (.int kk)=false:=rfl
@[go_sem] def zfW:slTy .bool=false:=rfl
@[go_sem] def zfX:slTy (.slice e)=true:=rfl
@[go_sem] def zfY {cs:List D}:qgg (.agg cs)=cs.any D.isNil:=rfl
end
attribute [go_sem] List.any_cons List.any_nil Bool.or_false Bool.false_or Bool.or_true Bool.true_or
@[go_sem] def zfZ {k:IntKind}{n:Int}:(D.int k n).isNil=false:=rfl
@[go_sem] def zga {x:Bool}:(D.bool x).isNil=false:=rfl
section
variable {g k g' k' idx off i:Nat}{l:List D}{hs:List Hole}{x:I}
def xOp3 (vc0:Prop) (H':List R):Option (Prop×I)->Prop->Option (Prop×I×List R)
 | some (vc',x),vc=>some (vc0/\vc/\vc',x,H')
 | none,_=>none
def xOp2 (T:Nat->Option TI) (t:Nat) (p:I) (vc0:Prop):Option (Prop×List R)->Option (Prop×I×List R)
 | some (vc,H')=>xOp3 vc0 H' (qhE T H' t p) vc
 | none=>none
def xOp1 (T:Nat->Option TI) (t:Nat) (p:I) (i idx off:Nat) (z:D) (zr:D) (q:Prop×List R):Option (Prop×I×List R):=xOp2 T t p q.1 (qdZ z i idx (qcY zr.cells off) q.2)
def qrp {z':D}(hT:T t=some ⟨ty,sz,b,z⟩):qhQ T H t (.eptr i g k idx off z')=xOp1 T t (.eptr i g k idx off z') i idx off z' z (shut H):=by
 simp only[qhQ,hT,xOp1];cases qdZ z' i idx (qcY z.cells off) (shut H).2 with
 | none=>rfl
 | some p=>
  obtain⟨vc,H'⟩:=p;simp only[xOp2];cases qhE T H' t (.eptr i g k idx off z') <;> rfl
def xOp0 (T:Nat->Option TI) (H:List R) (t:Nat) (p:I):Option TI->Option (Prop×I×List R)
 | some ti=>match p with
  | .eptr i g k idx off z=>xOp1 T t (.eptr i g k idx off z) i idx off z ti.zero (shut H)
  | _=>none
 | none=>none
@[go_sem] def zgb {p:I}:qhQ T H t p=xOp0 T H t p (T t):=by
 cases hT:T t with
 | none=>simp only[qhQ,hT];cases p <;> rfl
 | some ti=>
  obtain⟨ty,sz,b,z⟩:=ti;cases p with
  | eptr i g k idx off z'=>exact qrp hT
  | _=>simp only[qhQ,hT];rfl
@[go_sem] def zgc {z':D}:xOp0 T H t (.eptr i g k idx off z') (some ⟨ty,sz,b,z⟩)=xOp1 T t (.eptr i g k idx off z') i idx off z' z (shut H):=rfl
@[go_sem] def zgd {p:I}{z':D}:xOp1 T t p i idx off z' zr (vc0,H)=xOp2 T t p vc0 (qdZ z' i idx (qcY zr.cells off) H):=rfl
@[go_sem] def zge {p:I}:xOp2 T t p vc0 (some (vc,H))=xOp3 vc0 H (qhE T H t p) vc:=rfl
@[go_sem] def zgf {vc':Prop}:xOp3 vc0 H (some (vc',x)) vc=some (vc0/\vc/\vc',x,H):=rfl
@[go_sem] def zgg:qcY [] n=[]:=rfl
@[go_sem] def zgh {r:List D}:qcY (.nil::r) n=n::qcY r (n+1):=rfl
@[go_sem] def zgi {r:List D}{k:IntKind}{m:Int}:qcY (.int k m::r) n=qcY r (n+1):=rfl
@[go_sem] def zgj {r:List D}:qcY (.bool m::r) n=qcY r (n+1):=rfl
@[go_sem] def zgk {z':D}:qdZ z' i idx [] H=some (True,H):=rfl
def xOC (c:Prop):Option (Prop×List R)->Option (Prop×List R)
 | some (vc,H')=>some (c/\vc,H')
 | none=>none
@[go_sem] def zgl {c:Prop}:xOC c (some (vc,H))=some (c/\vc,H):=rfl
def xOR (z:D) (H:List R) (i idx o:Nat) (os:List Nat):Option R->Option (Prop×List R)
 | some (.row g k (.own hs) l)=>xOC (lstD ((l.getD idx z).cellAt o)/\apart idx o hs/\o<k/\idx<l.length)
   (qdZ z i idx os (H.set i (.row g k (.own ((idx,o,.sl H.length 1 (lkD ((l.getD idx z).cellAt o)) 0 ((l.getD idx z).cellAt o).elems.length)::hs)) l) ++
     [.row 1 (lkD ((l.getD idx z).cellAt o)) (.own []) ((l.getD idx z).cellAt o).elems]))
 | _=>none
@[go_sem] def zgm {z':D}{o:Nat}:qdZ z' i idx (o::os) H=xOR z' H i idx o os (qat H i):=by
 simp only[qdZ,qaC];cases qat H i with
 | none=>rfl
 | some r=>
  cases r with
  | row g k dp l=>
   cases dp with
   | fz=>rfl
   | own hs=>
    simp only[xOR];cases qdZ z' i idx os (H.set i (.row g k (.own ((idx,o,.sl H.length 1 (lkD ((l.getD idx z').cellAt o)) 0 ((l.getD idx z').cellAt o).elems.length)::hs)) l) ++
     [.row 1 (lkD ((l.getD idx z').cellAt o)) (.own []) ((l.getD idx z').cellAt o).elems]) <;> rfl
  | _=>rfl
@[go_sem] def zgn {z':D}{o:Nat}:xOR z' H i idx o os (some (.row g k (.own hs) l))=xOC (lstD ((l.getD idx z').cellAt o)/\apart idx o hs/\o<k/\idx<l.length)
   (qdZ z' i idx os (H.set i (.row g k (.own ((idx,o,.sl H.length 1 (lkD ((l.getD idx z').cellAt o)) 0 ((l.getD idx z').cellAt o).elems.length)::hs)) l) ++
     [.row 1 (lkD ((l.getD idx z').cellAt o)) (.own []) ((l.getD idx z').cellAt o).elems])):=rfl
@[go_sem] def zgo {l:List D}:lkD (.lst k l)=k:=rfl
@[go_sem] def zgp {l:List D}:lstD (.lst k l)=True:=rfl
@[go_sem] def zgq:apart idx off []=True:=rfl
@[go_sem] def zgr:apart idx off (h::hs)=((h.1=idx/\h.2.1≠off)/\apart idx off hs):=rfl
@[go_sem] def zgs:qaD k [] j=none:=rfl
@[go_sem] def zgt {c:Nat}:qaD k ((a,c,x)::hs) j=if a*k+c=j then some x else qaD k hs j:=rfl
def xL5 (ty:Ty) (sz g k g' k' idx off:Nat) (l:List D) (zr:D):Option (Prop×List I)->Option (Prop×I)
 | some (vc,xs)=>some (g=g'/\k=k'/\idx<l.length/\off+sz<=k/\zr.cells.length=sz/\vc/\qcc xs,mkAgg xs)
 | none=>none
def xL6 (ty:Ty) (g k g' k' idx off:Nat) (l:List D):Option I->Option (Prop×I)
 | some x=>some (g=g'/\k=k'/\idx<l.length/\off<k/\qgT ty x,tnormI ty x)
 | none=>none
def xL7 (b:Bool) (o:Option (Prop×I)):Option (Prop×I):=
 match b with
 | true=>o
 | false=>none
@[go_sem] def zgu:xL7 true o=o:=rfl
def xL4 (ti:TI) (g k idx off:Nat) (z:D):Option R->Bool->Option (Prop×I)
 | some (.row g' k' (.own (h::hs)) l),true=>xL5 ti.ty ti.size g k g' k' idx off l ti.zero (qbz k' (h::hs) idx (l.getD idx z) ti.zero.cells off)
 | some (.row g' k' (.own (h::hs)) l),false=>xL7 (slTy ti.ty) (xL6 ti.ty g k g' k' idx off l (qaD k' (h::hs) (idx*k'+off)))
 | _,_=>none
def xL3 (H:List R):Option TI->I->Option (Prop×I)
 | some ti,.eptr i g k idx off z=>xL4 ti g k idx off z (qat H i) ti.ty.agg
 | _,_=>none
@[go_sem] def zgv {p:I}:qhE T H t p=xL3 H (T t) p:=by
 unfold qhE;cases T t with
 | none=>rfl
 | some ti=>
  cases p with
  | eptr i g k idx off z=>
   simp only[xL3,<-qaC];cases H[i]? with
   | none=>rfl
   | some r=>
    cases r with
    | row g' k' dp l=>
     cases dp with
     | fz=>cases ti.ty.agg <;> rfl
     | own hs=>
      cases hs with
      | nil=>cases ti.ty.agg <;> rfl
      | cons h hs=>
       cases ti.ty.agg with
       | true=>simp only[xL4];cases qbz k' (h::hs) idx (l.getD idx z) ti.zero.cells off <;> rfl
       | false=>
        simp only[xL4];cases slTy ti.ty with
        | true=>simp only[xL7];cases qaD k' (h::hs) (idx*k'+off) <;> rfl
        | false=>rfl
    | _=>cases ti.ty.agg <;> rfl
  | _=>rfl
@[go_sem] def zgw {z':D}:xL3 H (some ⟨ty,sz,b,z⟩) (.eptr i g k idx off z')=xL4 ⟨ty,sz,b,z⟩ g k idx off z' (qat H i) ty.agg:=rfl
@[go_sem] def zgx {z':D}:xL4 ⟨ty,sz,b,z⟩ g k idx off z' (some (.row g' k' (.own (h::hs)) l)) true=xL5 ty sz g k g' k' idx off l z (qbz k' (h::hs) idx (l.getD idx z') z.cells off):=rfl
@[go_sem] def zgy {z':D}:xL4 ⟨ty,sz,b,z⟩ g k idx off z' (some (.row g' k' (.own (h::hs)) l)) false=xL7 (slTy ty) (xL6 ty g k g' k' idx off l (qaD k' (h::hs) (idx*k'+off))):=rfl
@[go_sem] def zgz {xs:List I}:xL5 ty sz g k g' k' idx off l zr (some (vc,xs))=some (g=g'/\k=k'/\idx<l.length/\off+sz<=k/\zr.cells.length=sz/\vc/\qcc xs,mkAgg xs):=rfl
@[go_sem] def zgA:xL6 ty g k g' k' idx off l (some x)=some (g=g'/\k=k'/\idx<l.length/\off<k/\qgT ty x,tnormI ty x):=rfl
def xCH1 (x:Option I):Option (Prop×List I)->Option (Prop×List I)
 | some (vc,xs)=>match x with
  | some x=>some (vc,x::xs)
  | none=>none
 | none=>none
def xCH2 (c:D):Option (Prop×List I)->Option (Prop×List I)
 | some (vc,xs)=>some (c.scalar=true/\vc,.d c::xs)
 | none=>none
@[go_sem] def zgB {xs:List I}:xCH1 (some x) (some (vc,xs))=some (vc,x::xs):=rfl
@[go_sem] def zgC {c:D}{xs:List I}:xCH2 c (some (vc,xs))=some (c.scalar=true/\vc,.d c::xs):=rfl
variable {c:D}{r:List D}
@[go_sem] def zgD:qbz k hs idx c [] off=some (True,[]):=rfl
@[go_sem] def zgE:qbz k hs idx c (.nil::r) off=xCH1 (qaD k hs (idx*k+off)) (qbz k hs idx c r (off+1)):=by
 simp only[qbz];cases qaD k hs (idx*k+off) <;> cases qbz k hs idx c r (off+1) <;> rfl
@[go_sem] def zgF {kk:IntKind}{m:Int}:qbz k hs idx c (.int kk m::r) off=xCH2 (c.cellAt off) (qbz k hs idx c r (off+1)):=by
 simp only[qbz];cases qbz k hs idx c r (off+1) <;> rfl
@[go_sem] def zgG:qbz k hs idx c (.bool m::r) off=xCH2 (c.cellAt off) (qbz k hs idx c r (off+1)):=by
 simp only[qbz];cases qbz k hs idx c r (off+1) <;> rfl
def xCl2 (H:List R) (i g k idx off r g' k' n:Nat) (hs:List Hole) (l:List D):Option R->Option (Prop×List R)
 | some (.row g2 k2 (.own []) es)=>some (g'=g2/\k'=k2/\r≠i/\apart idx off hs/\off<k/\idx<l.length,
    (H.set i (.row g k (.own hs) (putC k l idx off (.lst k' (es.take n))))).set r (.dead g2))
 | _=>none
def xCl1 (H:List R) (i:Nat):Option R->Option (Prop×List R)
 | some (.row g k (.own ((idx,off,.sl r g' k' 0 n)::hs)) l)=>xCl2 H i g k idx off r g' k' n hs l (qat H r)
 | _=>none
@[go_sem] def zgH:qfe H i=xCl1 H i (qat H i):=by
 unfold qfe;rw[qaC];split
 ·rename_i g k idx off r g' k' n hs l hi;rw[hi];simp only[xCl1,qaC];split
  ·rename_i hr;rw[hr];rfl
  ·rename_i hr;generalize qat H r=o at hr;rcases o with _|r
   ·rfl
   ·cases r with
    | row g k dp l=>
     rcases dp with _|hs
     ·rfl
     ·cases hs with
      | nil=>exact absurd rfl (hr _ _ _)
      | cons x y=>rfl
    | _=>rfl
 ·rename_i hi;generalize qat H i=o at hi;unfold xCl1;split
  ·exact absurd rfl (hi _ _ _ _ _ _ _ _ _ _)
  ·rfl
@[go_sem] def zgI {r:Nat}:xCl1 H i (some (.row g k (.own ((idx,off,.sl r g' k' 0 n)::hs)) l))=xCl2 H i g k idx off r g' k' n hs l (qat H r):=rfl
@[go_sem] def zgJ:xCl1 H i (some (.row g k (.own []) l))=none:=rfl
@[go_sem] def zgK:xCl1 H i (some (.row g k .fz l))=none:=rfl
@[go_sem] def zgL:xCl1 H i (some (.box cs))=none:=rfl
@[go_sem] def zgM:xCl1 H i (some (.dead g))=none:=rfl
@[go_sem] def zgN:xCl1 H i (some (.map es))=none:=rfl
@[go_sem] def zgO {r k2:Nat}{es:List D}:xCl2 H i g k idx off r g' k' n hs l (some (.row g2 k2 (.own []) es))=some (g'=g2/\k'=k2/\r≠i/\apart idx off hs/\off<k/\idx<l.length,
    (H.set i (.row g k (.own hs) (putC k l idx off (.lst k' (es.take n))))).set r (.dead g2)):=rfl
@[go_sem] def zgP {r:Nat}:xCl2 H i g k idx off r g' k' n hs l (some (.dead g2))=none:=rfl
def xSh1 (is:List Nat) (H:List R):Option (Prop×List R)->Prop×List R
 | some (vc,H')=>(vc/\(qeY is H').1,(qeY is H').2)
 | none=>qeY is H
@[go_sem] def zgQ:qeY [] H=(True,H):=rfl
@[go_sem] def zgR:qeY (i::is) H=xSh1 is H (qfe H i):=by
 simp only[qeY];cases qfe H i <;> rfl
@[go_sem] def zgS:xSh1 is H none=qeY is H:=rfl
def andSh (c:Prop):Prop×List R->Prop×List R
 | (vc,H)=>(c/\vc,H)
@[go_sem] def zgT {c:Prop}:andSh c (vc,H)=(c/\vc,H):=rfl
@[go_sem] def zgU {H':List R}:xSh1 is H (some (vc,H'))=andSh vc (qeY is H'):=rfl
@[go_sem] def zgV:qfK []=false:=rfl
@[go_sem] def zgW {H:List R}:qfK (.row g k (.own (h::hs)) l::H)=true:=rfl
@[go_sem] def zgX {H:List R}:qfK (.row g k (.own []) l::H)=qfK H:=rfl
@[go_sem] def zgY {H:List R}:qfK (.row g k .fz l::H)=qfK H:=rfl
@[go_sem] def zgZ {H:List R}:qfK (.box cs::H)=qfK H:=rfl
@[go_sem] def zha {H:List R}:qfK (.dead g::H)=qfK H:=rfl
@[go_sem] def zhb {H:List R}:qfK (.map es::H)=qfK H:=rfl
@[go_sem] def zhc:idxs [] n=[]:=rfl
@[go_sem] def zhd {r:R}{H:List R}:idxs (r::H) n=n::idxs H (n+1):=rfl
def xShut (H:List R):Bool->Prop×List R
 | true=>qeY (idxs H 0++(idxs H 0++(idxs H 0++(idxs H 0++(idxs H 0++idxs H 0))))) H
 | false=>(True,H)
@[go_sem] def zhe:shut H=xShut H (qfK H):=rfl
@[go_sem] def zhf:xShut H true=qeY (idxs H 0++(idxs H 0++(idxs H 0++(idxs H 0++(idxs H 0++idxs H 0))))) H:=rfl
@[go_sem] def zhg:xShut H false=(True,H):=rfl
end
def xFA4 (off:Nat) (fsz:Nat) (H:List R):I->Option (Prop×I)
 | .d pd=>some (0<fsz/\pd.isPtr,.d (.ptr (pd.ptrs.drop off)))
 | .ptr i o=>match qat H i with
  | some (.box _)=>some (0<fsz,.ptr i (o+off))
  | _=>none
 | .eptr i g k idx o z=>match qat H i with
  | some (.row g' k' _ _)=>some (0<fsz/\g=g'/\k=k',.eptr i g k idx (o+off) z)
  | _=>none
 | _=>none
def xFA3 (off:Nat) (H:List R) (x:I):Option TI->Option (Prop×I)
 | some fi=>xFA4 off fi.size H x
 | none=>none
def xFA2 (T:Nat->Option TI) (H:List R) (x:I):Option (Nat×Nat)->Option (Prop×I)
 | some (off,ft)=>xFA3 off H x (T ft)
 | none=>none
def nthF:List (Nat×Nat)->Nat->Option (Nat×Nat)
 | [],_=>none
 | p::_,0=>some p
 | _::r,n+1=>nthF r n
def qkp : ∀ (l:List (Nat×Nat)) (i:Nat),l[i]?=nthF l i
 | [],i=>by simp[nthF]
 | r::l,0=>by simp[nthF]
 | r::l,i+1=>by simpa [nthF] using qkp l i
def xFA1 (T:Nat->Option TI) (H:List R) (x:I) (f:Nat):Option TI->Option (Prop×I)
 | some ⟨.struct fs,_,_,_⟩=>xFA2 T H x (nthF fs f)
 | _=>none
@[go_sem] def qrq {s:Nat}{x:I}:qcv T H s x f=xFA1 T H x f (T s):=by
 unfold qcv;cases T s with
 | none=>rfl
 | some ti=>
  obtain⟨ty,sz,b,z⟩:=ti;cases ty with
  | struct fs=>
   simp only[xFA1,<-qkp];cases fs[f]? with
   | none=>rfl
   | some p=>
    obtain⟨off,ft⟩:=p;simp only[xFA2];cases T ft with
    | none=>rfl
    | some fi=>
     simp only[xFA3];cases x <;> simp only[xFA4,qaC] <;> (first|rfl|(split <;> first|rfl|(simp_all;done)|skip))
     all_goals (rename_i hi;rw[hi])
  | _=>rfl
@[go_sem] def zhh {r:List (Nat×Nat)}:nthF (p::r) 0=some p:=rfl
@[go_sem] def zhi {r:List (Nat×Nat)}:nthF (p::r) (n+1)=nthF r n:=rfl
@[go_sem] def zhj {x:I}:xFA1 T H x f (some ⟨.struct fs,sz,b,z⟩)=xFA2 T H x (nthF fs f):=rfl
@[go_sem] def zhk {x:I}{off ft:Nat}:xFA2 T H x (some (off,ft))=xFA3 off H x (T ft):=rfl
@[go_sem] def zhl {x:I}{off:Nat}:xFA3 off H x (some ⟨ty,sz,b,z⟩)=xFA4 off sz H x:=rfl
@[go_sem] def zhm {off:Nat}:xFA4 off sz H (.d pd)=some (0<sz/\pd.isPtr,.d (.ptr (pd.ptrs.drop off))):=rfl
def qlm:Option R->Bool
 | some (.box _)=>true
 | _=>false
@[go_sem] def zhn:qlm (some (.box cs))=true:=rfl
@[go_sem] def zho {off i o:Nat}:xFA4 off sz H (.ptr i o)=if qlm (qat H i)=true then some (0<sz,.ptr i (o+off)) else none:=by
 simp only[xFA4];cases qat H i with
 | none=>rfl
 | some r=>cases r <;> rfl
def rowR:Option R->Option (Nat×Nat)
 | some (.row g k _ _)=>some (g,k)
 | _=>none
def xFA5 (off fsz:Nat) (i g k idx o:Nat) (z:D):Option (Nat×Nat)->Option (Prop×I)
 | some (g',k')=>some (0<fsz/\g=g'/\k=k',.eptr i g k idx (o+off) z)
 | none=>none
@[go_sem] def zhp {g k:Nat}{l:List D}:rowR (some (.row g k dp l))=some (g,k):=rfl
@[go_sem] def zhq {off i g k idx o:Nat}{z':D}:xFA4 off sz H (.eptr i g k idx o z')=xFA5 off sz i g k idx o z' (rowR (qat H i)):=by
 simp only[xFA4];cases qat H i with
 | none=>rfl
 | some r=>cases r <;> rfl
@[go_sem] def zhr {off i g k idx o g' k':Nat}{z':D}:xFA5 off sz i g k idx o z' (some (g',k'))=some (0<sz/\g=g'/\k=k',.eptr i g k idx (o+off) z'):=rfl
def xIA4 (esz:Nat) (ez:D) (H:List R) (iv:D):I->Option (Prop×I)
 | .d xd=>some (xd.isLst esz/\iv.isInt .i64/\0<=iv.toInt/\iv.toInt<xd.elems.length,.d (.ptr (qai (xd.elems.getD iv.toInt.toNat ez) 0 esz)))
 | .sl i g k lo n=>match rowR (qat H i) with
  | some (g',k')=>some (g=g'/\k=k'/\k=esz/\iv.isInt .i64/\0<=iv.toInt/\iv.toInt<n,.eptr i g k (lo+iv.toInt.toNat) 0 ez)
  | none=>none
 | _=>none
def xIA5 (esz n:Nat) (H:List R) (iv:D):I->Option (Prop×I)
 | .d xd=>some (xd.isPtr/\iv.isInt .i64/\0<=iv.toInt/\iv.toInt<n,.d (.ptr (xd.ptrs.drop (iv.toInt.toNat*esz))))
 | .ptr i off=>if qlm (qat H i)=true then some (iv.isInt .i64/\0<=iv.toInt/\iv.toInt<n,.ptr i (off+iv.toInt.toNat*esz)) else none
 | .eptr i g k idx o z=>match rowR (qat H i) with
  | some (g',k')=>some (g=g'/\k=k'/\iv.isInt .i64/\0<=iv.toInt/\iv.toInt<n,.eptr i g k idx (o+iv.toInt.toNat*esz) z)
  | none=>none
 | _=>none
def xIA2 (H:List R) (iv:D) (x:I):Option TI->Option (Prop×I)
 | some ⟨_,sz,_,z⟩=>xIA4 sz z H iv x
 | none=>none
def xIA3 (n:Nat) (H:List R) (iv:D) (x:I):Option TI->Option (Prop×I)
 | some ⟨_,sz,_,z⟩=>xIA5 sz n H iv x
 | none=>none
def xIA1 (T:Nat->Option TI) (H:List R) (x:I):Option TI->I->Option (Prop×I)
 | some ⟨.slice e,_,_,_⟩,.d iv=>xIA2 H iv x (T e)
 | some ⟨.array n e,_,_,_⟩,.d iv=>xIA3 n H iv x (T e)
 | _,_=>none
@[go_sem] def qrr {x:I}:qch T H t x ix=xIA1 T H x (T t) ix:=by
 unfold qch;cases T t with
 | none=>cases ix <;> rfl
 | some ti=>
  obtain⟨ty,sz,b,z⟩:=ti;cases ix with
  | d iv=>
   cases ty with
   | slice e=>
    simp only[xIA1];cases T e with
    | none=>rfl
    | some ei=>
     obtain⟨ety,esz,eb,ez⟩:=ei;simp only[xIA2];cases x <;> simp only[xIA4,<-qaC]
     rename_i i g k lo n;cases H[i]? with
     | none=>rfl
     | some r=>cases r <;> rfl
   | array n e=>
    simp only[xIA1];cases T e with
    | none=>rfl
    | some ei=>
     obtain⟨ety,esz,eb,ez⟩:=ei;simp only[xIA3];cases x <;> simp only[xIA5,<-qaC]
     ·rename_i i off;cases H[i]? with
      | none=>rfl
      | some r=>cases r <;> rfl
     ·rename_i i g k idx o z';cases H[i]? with
      | none=>rfl
      | some r=>cases r <;> rfl
   | _=>rfl
  | _=>cases ty <;> rfl
@[go_sem] def zhs {x:I}:xIA1 T H x (some ⟨.slice e,sz,b,z⟩) (.d iv)=xIA2 H iv x (T e):=rfl
@[go_sem] def zht {x:I}:xIA1 T H x (some ⟨.array n e,sz,b,z⟩) (.d iv)=xIA3 n H iv x (T e):=rfl
@[go_sem] def zhu {x:I}:xIA2 H iv x (some ⟨ty,sz,b,z⟩)=xIA4 sz z H iv x:=rfl
@[go_sem] def zhv {x:I}:xIA3 n H iv x (some ⟨ty,sz,b,z⟩)=xIA5 sz n H iv x:=rfl
@[go_sem] def zhw:xIA4 sz z H iv (.d xd)=some (xd.isLst sz/\iv.isInt .i64/\0<=iv.toInt/\iv.toInt<xd.elems.length,.d (.ptr (qai (xd.elems.getD iv.toInt.toNat z) 0 sz))):=rfl
def xIA6 (esz:Nat) (ez:D) (iv:D) (i g k lo n:Nat):Option (Nat×Nat)->Option (Prop×I)
 | some (g',k')=>some (g=g'/\k=k'/\k=esz/\iv.isInt .i64/\0<=iv.toInt/\iv.toInt<n,.eptr i g k (lo+iv.toInt.toNat) 0 ez)
 | none=>none
@[go_sem] def zhx {i g k lo:Nat}:xIA4 sz z H iv (.sl i g k lo n)=xIA6 sz z iv i g k lo n (rowR (qat H i)):=by
 simp only[xIA4];cases rowR (qat H i) <;> rfl
@[go_sem] def zhy {i g k lo g' k':Nat}:xIA6 sz z iv i g k lo n (some (g',k'))=some (g=g'/\k=k'/\k=sz/\iv.isInt .i64/\0<=iv.toInt/\iv.toInt<n,.eptr i g k (lo+iv.toInt.toNat) 0 z):=rfl
@[go_sem] def zhz {i off:Nat}:xIA5 sz n H iv (.ptr i off)=if qlm (qat H i)=true then some (iv.isInt .i64/\0<=iv.toInt/\iv.toInt<n,.ptr i (off+iv.toInt.toNat*sz)) else none:=rfl
def qn7 (agg:Bool) (ty:Ty) (sz off:Nat):I->Option (Prop×I)
 | .d xd=>match agg with
  | true=>some (off+sz<=xd.cells.length/\xd.one=false/\(∀ n,xd≠.tup n),.d (.agg (qai xd off sz)))
  | false=>some (off<xd.cells.length/\xd.one=false/\(∀ n,xd≠.tup n)/\tchk ty (xd.cellAt off),.d (tnorm ty (xd.cellAt off)))
 | .agg cs=>match agg with
  | true=>some (off+sz<=cs.length/\qcc ((cs.drop off).take sz),mkAgg ((cs.drop off).take sz))
  | false=>some (off<cs.length/\qgT ty (cs.getD off .junk),tnormI ty (cs.getD off .junk))
 | _=>none
def qrs {ti:TI}{off:Nat}{x:I}:qnN ti off x=qn7 ti.ty.agg ti.ty ti.size off x:=by
 unfold qnN;cases x <;> simp only[qn7] <;> cases ti.ty.agg <;> rfl
@[go_sem] def zhA {off:Nat}:qn7 false ty sz off (.d xd)=some (off<xd.cells.length/\xd.one=false/\(∀ n,xd≠.tup n)/\tchk ty (xd.cellAt off),.d (tnorm ty (xd.cellAt off))):=rfl
def xIx2 (n:Nat) (iv:D) (x:I):Option TI->Option (Prop×I)
 | some ei=>match qn7 ei.ty.agg ei.ty ei.size (iv.toInt.toNat*ei.size) x with
  | some (vc,y)=>some (iv.isInt .i64/\0<=iv.toInt/\iv.toInt<n/\vc,y)
  | none=>none
 | none=>none
def xIxS (iv:D):I->Option (Prop×I)
 | .d (.raw (.string s))=>some (iv.isCnt/\0<=iv.toInt/\iv.toInt.toNat<s.size,.d (.int .u8 (qjl s iv.toInt.toNat)))
 | _=>none
def xIx1 (T:Nat->Option TI) (x:I):Option TI->I->Option (Prop×I)
 | some ⟨.array n e,_,_,_⟩,.d iv=>xIx2 n iv x (T e)
 | some ⟨.string,_,_,_⟩,.d iv=>xIxS iv x
 | _,_=>none
@[go_sem] def zhB {s:ByteArray}:xIxS iv (.d (.raw (.string s)))=some (iv.isCnt/\0<=iv.toInt/\iv.toInt.toNat<s.size,.d (.int .u8 (qjl s iv.toInt.toNat))):=rfl
@[go_sem] def zhC {x:I}:xIx1 T x (some ⟨.string,sz,b,z⟩) (.d iv)=xIxS iv x:=rfl
@[go_sem] def zhD {x:I}:qju T t x ix=xIx1 T x (T t) ix:=by
 unfold qju;cases T t with
 | none=>cases ix <;> rfl
 | some ti=>
  obtain⟨ty,sz,b,z⟩:=ti;cases ix with
  | d iv=>
   cases ty with
   | array n e=>
    simp only[xIx1];cases T e with
    | none=>rfl
    | some ei=>simp only[xIx2,qrs];rfl
   | string=>cases x <;> first|rfl|(rename_i xd;cases xd <;> first|rfl|(rename_i v;cases v <;> rfl))
   | _=>rfl
  | _=>cases ty <;> rfl
@[go_sem] def zhE {x:I}:xIx1 T x (some ⟨.array n e,sz,b,z⟩) (.d iv)=xIx2 n iv x (T e):=rfl
def andX (iv:D) (n:Nat):Option (Prop×I)->Option (Prop×I)
 | some (vc,y)=>some (iv.isInt .i64/\0<=iv.toInt/\iv.toInt<n/\vc,y)
 | none=>none
@[go_sem] def zhF {y:I}:andX iv n (some (vc,y))=some (iv.isInt .i64/\0<=iv.toInt/\iv.toInt<n/\vc,y):=rfl
@[go_sem] def zhG {x:I}:xIx2 n iv x (some ⟨ty,sz,b,z⟩)=andX iv n (qn7 ty.agg ty sz (iv.toInt.toNat*sz) x):=by
 simp only[xIx2];cases qn7 ty.agg ty sz (iv.toInt.toNat*sz) x <;> rfl
@[go_sem] def zhH:optI none d=some d:=rfl
@[go_sem] def zhI {x:D}:optI (some (.d x)) d=some x.toInt:=rfl
@[go_sem] def zhJ:optC none=True:=rfl
@[go_sem] def zhK {x:D}:optC (some (.d x))=x.isInt .i64:=rfl
def xSl4 (esz:Nat) (xd:D) (c:Prop):Option Int->Option Int->Option (Prop×I)
 | some l,some h=>some (xd.isLst esz/\c/\0<esz/\0<=l/\l<=h/\h<=xd.elems.length,.d (slD esz xd l h))
 | _,_=>none
def xSl5 (esz:Nat) (i g k l0 n:Nat) (c:Prop):Option (Nat×Nat)->Option Int->Option Int->Option (Prop×I)
 | some (g',k'),some l,some h=>some (g=g'/\k=k'/\k=esz/\c/\0<=l/\l<=h/\h<=n,.sl i g k (l0+l.toNat) (h-l).toNat)
 | _,_,_=>none
def xSl3 (esz:Nat) (H:List R) (lo hi:Option I):I->Option (Prop×I)
 | .d xd=>xSl4 esz xd (optC lo/\optC hi) (optI lo 0) (optI hi xd.elems.length)
 | .sl i g k l0 n=>xSl5 esz i g k l0 n (optC lo/\optC hi) (rowR (qat H i)) (optI lo 0) (optI hi n)
 | _=>none
def xSl2 (H:List R) (lo hi:Option I) (x:I):Option TI->Option (Prop×I)
 | some ei=>xSl3 ei.size H lo hi x
 | none=>none
def xSl1 (T:Nat->Option TI) (H:List R) (lo hi:Option I) (x:I):Option TI->Option I->Option (Prop×I)
 | some ⟨.slice e,_,_,_⟩,none=>xSl2 H lo hi x (T e)
 | _,_=>none
@[go_sem] def zhL {x:I}{mx:Option I}:qhw T H t x lo hi mx=xSl1 T H lo hi x (T t) mx:=by
 unfold qhw;cases T t with
 | none=>cases mx <;> rfl
 | some ti=>
  obtain⟨ty,sz,b,z⟩:=ti;cases mx with
  | some m=>cases ty <;> rfl
  | none=>
   cases ty with
   | slice e=>
    simp only[xSl1];cases T e with
    | none=>rfl
    | some ei=>
     simp only[xSl2];cases x <;> simp only[xSl3,<-qaC]
     ·rename_i xd;cases optI lo 0 <;> cases optI hi xd.elems.length <;> simp only[xSl4,and_assoc]
     ·rename_i i g k l0 n;cases H[i]? with
      | none=>cases optI lo 0 <;> cases optI hi n <;> rfl
      | some r=>
       cases r <;> cases optI lo 0 <;> cases optI hi n <;> simp only[rowR,xSl5,and_assoc]
   | _=>rfl
@[go_sem] def zhM {x:I}:xSl1 T H lo hi x (some ⟨.slice e,sz,b,z⟩) none=xSl2 H lo hi x (T e):=rfl
@[go_sem] def zhN {x:I}:xSl2 H lo hi x (some ⟨ty,sz,b,z⟩)=xSl3 sz H lo hi x:=rfl
@[go_sem] def zhO:xSl3 sz H lo hi (.d xd)=xSl4 sz xd (optC lo/\optC hi) (optI lo 0) (optI hi xd.elems.length):=rfl
@[go_sem] def zhP {i g k:Nat}:xSl3 sz H lo hi (.sl i g k l0 n)=xSl5 sz i g k l0 n (optC lo/\optC hi) (rowR (qat H i)) (optI lo 0) (optI hi n):=rfl
@[go_sem] def zhQ {k:Nat}{l h:Int}:slD k .nil l h=.nil:=rfl
@[go_sem] def zhR {k k':Nat}{L:List D}{l h:Int}:slD k (.lst k' L) l h=.lst k ((L.drop l.toNat).take (h-l).toNat):=rfl
@[go_sem] def zhS {c:Prop}{l h:Int}:xSl4 sz xd c (some l) (some h)=some (xd.isLst sz/\c/\0<sz/\0<=l/\l<=h/\h<=xd.elems.length,.d (slD sz xd l h)):=rfl
@[go_sem] def zhT {i g k g' k':Nat}{c:Prop}{l h:Int}:xSl5 sz i g k l0 n c (some (g',k')) (some l) (some h)=some (g=g'/\k=k'/\k=sz/\c/\0<=l/\l<=h/\h<=n,.sl i g k (l0+l.toNat) (h-l).toNat):=rfl
def eqB (x y:Int):Bool:=decide (x=y)
def ltB (x y:Int):Bool:=decide (x<y)
def leB (x y:Int):Bool:=decide (x<=y)
@[go_sem] def zhU {x y:Int}:eqB x y=decide (x=y):=rfl
@[go_sem] def zhV {x y:Int}:ltB x y=decide (x<y):=rfl
@[go_sem] def zhW {x y:Int}:leB x y=decide (x<=y):=rfl
def pickB (c x y:Bool):Bool:=if c=true then x else y
@[go_sem] def zhX {c y:Bool}:pickB c true y=(c || y):=by cases c <;> rfl
@[go_sem] def zhY {c x:Bool}:pickB c x false=(c&&x):=by cases c <;> rfl
def minI (x y:Int):Int:=if y<x then y else x
def maxI (x y:Int):Int:=if x<y then y else x
@[go_sem] def zhZ {x y:Int}:minI x y=min x y:=by unfold minI;omega
@[go_sem] def zia {x y:Int}:maxI x y=max x y:=by unfold maxI;omega
def xBI (op:BinOp) (k:IntKind) (x y:D):Option (Prop×I):=
 match op with
 | .add=>some (x.isInt k/\y.isInt k/\InK k (x.toInt+y.toInt),.d (.int k (x.toInt+y.toInt)))
 | .sub=>some (x.isInt k/\y.isInt k/\InK k (x.toInt-y.toInt),.d (.int k (x.toInt-y.toInt)))
 | .mul=>some (x.isInt k/\y.isInt k/\InK k (x.toInt*y.toInt),.d (.int k (x.toInt*y.toInt)))
 | .quo=>some (x.isInt k/\y.isInt k/\0<=x.toInt/\0<y.toInt,.d (.int k (x.toInt/y.toInt)))
 | .rem=>some (x.isInt k/\y.isInt k/\0<y.toInt,.d (.int k (remV x.toInt y.toInt)))
 | .and=>some (x.isInt k/\y.isInt k/\0<=x.toInt/\0<=y.toInt,.d (.int k ((x.toInt.toNat &&& y.toInt.toNat:Nat):Int)))
 | .or=>some (x.isInt k/\y.isInt k/\0<=x.toInt/\0<=y.toInt,.d (.int k ((x.toInt.toNat ||| y.toInt.toNat:Nat):Int)))
 | .xor=>some (x.isInt k/\y.isInt k/\0<=x.toInt/\0<=y.toInt,.d (.int k ((x.toInt.toNat ^^^ y.toInt.toNat:Nat):Int)))
 | .shl=>some (x.isInt k/\y.isCnt/\0<=y.toInt/\y.toInt<=k.bits/\InK k (x.toInt*2 ^ y.toInt.toNat),.d (.int k (x.toInt*2 ^ y.toInt.toNat)))
 | .shr=>some (x.isInt k/\y.isCnt/\0<=y.toInt/\y.toInt<=k.bits,.d (.int k (x.toInt/2 ^ y.toInt.toNat)))
 | .eql=>some (x.isInt k/\y.isInt k,.d (.bool (eqB x.toInt y.toInt)))
 | .neq=>some (x.isInt k/\y.isInt k,.d (.bool (!eqB x.toInt y.toInt)))
 | .lss=>some (x.isInt k/\y.isInt k,.d (.bool (ltB x.toInt y.toInt)))
 | .leq=>some (x.isInt k/\y.isInt k,.d (.bool (leB x.toInt y.toInt)))
 | .gtr=>some (x.isInt k/\y.isInt k,.d (.bool (ltB y.toInt x.toInt)))
 | .geq=>some (x.isInt k/\y.isInt k,.d (.bool (leB y.toInt x.toInt)))
 | _=>none
def xBB (op:BinOp) (x y:D):Option (Prop×I):=
 match op with
 | .eql=>some (x.isBool/\y.isBool,.d (.bool (x.toBool == y.toBool)))
 | .neq=>some (x.isBool/\y.isBool,.d (.bool (!(x.toBool == y.toBool))))
 | _=>none
def xBS (op:BinOp) (x:D):Option (Prop×I):=
 match op with
 | .eql=>some (x.isSl/\(x=.nil∨x.elems≠[]),.d (.bool x.isNil))
 | .neq=>some (x.isSl/\(x=.nil∨x.elems≠[]),.d (.bool (!x.isNil)))
 | _=>none
def xBL (op:BinOp) (g k n:Nat):Option (Nat×Nat)->Option (Prop×I)
 | some (g',k')=>match op with
  | .eql=>some (g=g'/\k=k'/\0<n,.d (.bool false))
  | .neq=>some (g=g'/\k=k'/\0<n,.d (.bool true))
  | _=>none
 | none=>none
def xBA (T:Nat->Option TI) (fs:List (Nat×Nat)) (cs ds:List D):BinOp->Option (Prop×I)
 | .eql=>some (cs.length=fs.length/\ds.length=fs.length/\qe2 T 0 fs cs ds,.d (.bool (qgU T fs cs ds)))
 | .neq=>some (cs.length=fs.length/\ds.length=fs.length/\qe2 T 0 fs cs ds,.d (.bool (!(qgU T fs cs ds))))
 | _=>none
@[go_sem] def zib {k:IntKind}{n:Int}:(D.int k n).isCnt=True:=rfl
def xBT (a b:ByteArray):BinOp->Option (Prop×I)
 | .eql=>some (True,.d (.bool (a.toList == b.toList)))
 | .neq=>some (True,.d (.bool (!(a.toList == b.toList))))
 | _=>none
def xBin (T:Nat->Option TI) (H:List R) (op:BinOp) (x y:I):Option TI->Option (Prop×I)
 | some ⟨.int k,_,_,_⟩=>match x,y with
  | .d x,.d y=>xBI op k x y
  | _,_=>none
 | some ⟨.bool,_,_,_⟩=>match x,y with
  | .d x,.d y=>xBB op x y
  | _,_=>none
 | some ⟨.slice _,_,_,_⟩=>match x,y with
  | .d x,.d .nil=>xBS op x
  | .sl i g k lo n,.d .nil=>xBL op g k n (rowR (qat H i))
  | _,_=>none
 | some ⟨.struct fs,_,_,_⟩=>match x,y with
  | .d (.agg cs),.d (.agg ds)=>xBA T fs cs ds op
  | _,_=>none
 | some ⟨.string,_,_,_⟩=>match x,y with
  | .d (.raw (.string a)),.d (.raw (.string b))=>xBT a b op
  | _,_=>none
 | _=>none
@[go_sem] def zic {x y:I}:sBin T H op t x y=xBin T H op x y (T t):=by
 unfold sBin;cases T t with
 | none=>rfl
 | some ti=>
  obtain⟨ty,sz,b,z⟩:=ti;cases ty with
  | int k=>cases x <;> cases y <;> rfl
  | bool=>cases x <;> cases y <;> rfl
  | slice e=>
   cases x <;> cases y <;> first
    | rfl
    | (rename_i yd;cases yd <;> first|rfl|skip)
   rename_i i g k lo n;simp only[xBin,<-qaC];cases H[i]? with
   | none=>rfl
   | some r=>cases r <;> rfl
  | struct fs=>
   cases x with
   | d xd=>
    cases y with
    | d yd=>cases xd <;> cases yd <;> first|rfl|(cases op <;> rfl)
    | _=>cases xd <;> rfl
   | _=>cases y <;> first|rfl|(rename_i yd;cases yd <;> rfl)
  | string=>
   cases x with
   | d xd=>
    cases y with
    | d yd=>
     cases xd with
     | raw v=>
      cases v with
      | string a=>
       cases yd with
       | raw u=>
        cases u with
        | string c=>cases op <;> rfl
        | _=>rfl
       | _=>rfl
      | _=>rfl
     | _=>rfl
    | _=>
     cases xd with
     | raw v=>cases v <;> rfl
     | _=>rfl
   | _=>cases y <;> rfl
  | _=>rfl
@[go_sem] def zid {cs:List D}:xBin T H op (.d (.agg cs)) (.d (.agg ds)) (some ⟨.struct fs,sz,b,z⟩)=xBA T fs cs ds op:=rfl
@[go_sem] def zie {cs:List D}:xBA T fs cs ds .neq=some (cs.length=fs.length/\ds.length=fs.length/\qe2 T 0 fs cs ds,.d (.bool (!(qgU T fs cs ds)))):=rfl
@[go_sem] def zif:qfO T j []=True:=rfl
@[go_sem] def zig {o:Nat}{r:List (Nat×Nat)}:qfO T j ((o,t)::r)=(o=j/\qib (T t)=true/\qfO T (j+1) r):=rfl
@[go_sem] def zih {c:Nat}:qib (some ⟨.int .i64,a,c,zz⟩)=true:=rfl
@[go_sem] def zii:qe2 T j [] xs ys=True:=by simp only[qe2]
@[go_sem] def zij {o:Nat}{r:List (Nat×Nat)}{x y:D}:qe2 T j ((o,t)::r) (x::xs) (y::ys)=(o=j/\scOk (T t) x y/\qe2 T (j+1) r xs ys):=rfl
@[go_sem] def zik {c:Nat}{x y:D}:scOk (some ⟨.int .i64,a,c,zz⟩) x y=(x.isInt .i64/\y.isInt .i64):=rfl
@[go_sem] def zil {c:Nat}{x y:D}:scOk (some ⟨.bool,a,c,zz⟩) x y=(x.isBool/\y.isBool):=rfl
@[go_sem] def zim:qgU T [] xs ys=true:=by simp only[qgU]
@[go_sem] def zin {o:Nat}{r:List (Nat×Nat)}{x y:D}:qgU T ((o,t)::r) (x::xs) (y::ys)=(scEq (T t) x y&&qgU T r xs ys):=rfl
@[go_sem] def zio {c:Nat}{x y:D}:scEq (some ⟨.int .i64,a,c,zz⟩) x y=decide (x.toInt=y.toInt):=rfl
@[go_sem] def zip {c:Nat}{x y:D}:scEq (some ⟨.bool,a,c,zz⟩) x y=(x.toBool == y.toBool):=rfl
@[go_sem] def qsS:intCells []=True:=rfl
@[go_sem] def qrt {x:D}{r:List D}:intCells (x::r)=(x.isInt .i64/\intCells r):=rfl
@[go_sem] def ziq {k:IntKind}{x y:D}:xBin T H op (.d x) (.d y) (some ⟨.int k,sz,b,z⟩)=xBI op k x y:=rfl
@[go_sem] def zir {x y:D}:xBin T H op (.d x) (.d y) (some ⟨.bool,sz,b,z⟩)=xBB op x y:=rfl
@[go_sem] def zis {x:D}:xBin T H op (.d x) (.d .nil) (some ⟨.slice e,sz,b,z⟩)=xBS op x:=rfl
section
variable {k:IntKind}{x y:D}
@[go_sem] def zit:xBI .add k x y=some (x.isInt k/\y.isInt k/\InK k (x.toInt+y.toInt),.d (.int k (x.toInt+y.toInt))):=rfl
@[go_sem] def ziu:xBI .sub k x y=some (x.isInt k/\y.isInt k/\InK k (x.toInt-y.toInt),.d (.int k (x.toInt-y.toInt))):=rfl
@[go_sem] def ziv:xBI .mul k x y=some (x.isInt k/\y.isInt k/\InK k (x.toInt*y.toInt),.d (.int k (x.toInt*y.toInt))):=rfl
@[go_sem] def ziw:xBI .quo k x y=some (x.isInt k/\y.isInt k/\0<=x.toInt/\0<y.toInt,.d (.int k (x.toInt/y.toInt))):=rfl
@[go_sem] def zix:xBI .rem k x y=some (x.isInt k/\y.isInt k/\0<y.toInt,.d (.int k (remV x.toInt y.toInt))):=rfl
@[go_sem] def ziy:xBI .and k x y=some (x.isInt k/\y.isInt k/\0<=x.toInt/\0<=y.toInt,.d (.int k ((x.toInt.toNat &&& y.toInt.toNat:Nat):Int))):=rfl
@[go_sem] def ziz:xBI .or k x y=some (x.isInt k/\y.isInt k/\0<=x.toInt/\0<=y.toInt,.d (.int k ((x.toInt.toNat ||| y.toInt.toNat:Nat):Int))):=rfl
@[go_sem] def ziA:xBI .xor k x y=some (x.isInt k/\y.isInt k/\0<=x.toInt/\0<=y.toInt,.d (.int k ((x.toInt.toNat ^^^ y.toInt.toNat:Nat):Int))):=rfl
@[go_sem] def ziB:xBI .shl k x y=some (x.isInt k/\y.isCnt/\0<=y.toInt/\y.toInt<=k.bits/\InK k (x.toInt*2 ^ y.toInt.toNat),.d (.int k (x.toInt*2 ^ y.toInt.toNat))):=rfl
@[go_sem] def ziC:xBI .shr k x y=some (x.isInt k/\y.isCnt/\0<=y.toInt/\y.toInt<=k.bits,.d (.int k (x.toInt/2 ^ y.toInt.toNat))):=rfl
@[go_sem] def ziD:xBI .eql k x y=some (x.isInt k/\y.isInt k,.d (.bool (eqB x.toInt y.toInt))):=rfl
@[go_sem] def ziE:xBI .neq k x y=some (x.isInt k/\y.isInt k,.d (.bool (!eqB x.toInt y.toInt))):=rfl
@[go_sem] def ziF:xBI .lss k x y=some (x.isInt k/\y.isInt k,.d (.bool (ltB x.toInt y.toInt))):=rfl
@[go_sem] def ziG:xBI .leq k x y=some (x.isInt k/\y.isInt k,.d (.bool (leB x.toInt y.toInt))):=rfl
@[go_sem] def ziH:xBI .gtr k x y=some (x.isInt k/\y.isInt k,.d (.bool (ltB y.toInt x.toInt))):=rfl
@[go_sem] def ziI:xBI .geq k x y=some (x.isInt k/\y.isInt k,.d (.bool (leB y.toInt x.toInt))):=rfl
@[go_sem] def ziJ:xBB .neq x y=some (x.isBool/\y.isBool,.d (.bool (!(x.toBool == y.toBool)))):=rfl
@[go_sem] def ziK:xBS .eql x=some (x.isSl/\(x=.nil∨x.elems≠[]),.d (.bool x.isNil)):=rfl
end
@[go_sem] def ziL {x:D}:sUn .not (.d x)=some (x.isBool,.d (.bool (!x.toBool))):=rfl
@[go_sem] def ziM {x y:D}:sMM .min (.d x) (.d y)=some (x.isInt .i64/\y.isInt .i64,.d (.int .i64 (minI x.toInt y.toInt))):=rfl
@[go_sem] def ziN {x y:D}:sMM .max (.d x) (.d y)=some (x.isInt .i64/\y.isInt .i64,.d (.int .i64 (maxI x.toInt y.toInt))):=rfl
@[go_sem] def qsT {vs:List I}:qeE (.tup vs) j=some (j<vs.length,vs.getD j .junk):=rfl
@[go_sem] def ziO {x:D}:qeE (.d x) j=some (x.isTup x.tupLen/\j<x.tupLen,.d (x.tupAt j)):=rfl
@[go_sem] def ziP {c x y:D}{ca cb:Prop}:qmc (.d c) (.d x) (.d y) ca cb=some (c.isBool/\(c.toBool=true->ca/\x.isBool)/\(c.toBool=false->cb/\y.isBool),.d (.bool (pickB c.toBool x.toBool y.toBool))):=rfl
@[go_sem] def ziQ {x:D}:sNil H (.d x)=some (x.isPtr,.d x):=rfl
@[go_sem] def ziR {i o:Nat}:sNil H (.ptr i o)=if qlm (qat H i)=true then some (True,.ptr i o) else none:=by
 simp only[sNil,qaC];cases qat H i with
 | none=>rfl
 | some r=>cases r <;> rfl
def xNilE (x:I) (g k:Nat):Option R->Option (Prop×I)
 | some (.row g' k' _ _)=>some (g'=g/\k'=k,x)
 | _=>none
@[go_sem] def ziS {x:I}{g k g' k':Nat}{l:List D}:xNilE x g k (some (.row g' k' dp l))=some (g'=g/\k'=k,x):=rfl
@[go_sem] def ziT {i g k idx off:Nat}{z:D}:sNil H (.eptr i g k idx off z)=xNilE (.eptr i g k idx off z) g k (qat H i):=by
 simp only[sNil,qaC];cases qat H i with
 | none=>rfl
 | some r=>cases r <;> rfl
def qsU (x:D):Option TI->Option (Prop×I)
 | some ⟨.int .u8,_,_,_⟩=>some (isUs x,.d (.raw (.string (bsOf (usOf x)))))
 | _=>none
def xConv (T:Nat->Option TI) (x:I):Option TI->Option TI->Option (Prop×I)
 | some ⟨.int k,_,_,_⟩,some ⟨.int k',_,_,_⟩=>match x with
  | .d xd=>some (xd.isInt k/\cvC k' xd.toInt,.d (.int k' (cvV k' xd.toInt)))
  | _=>none
 | some ⟨.slice e,_,_,_⟩,some ⟨.string,_,_,_⟩=>match x with
  | .d xd=>qsU xd (T e)
  | _=>none
 | _,_=>none
def qpm {x:D}:qm1 T e x=qsU x (T e):=by
 unfold qm1;cases T e with
 | none=>rfl
 | some ei=>
  obtain⟨ty,sz,b,z⟩:=ei;cases ty with
  | int k=>cases k <;> rfl
  | _=>rfl
@[go_sem] def ziU {s d:Nat}{x:I}:ql9 T s d x=xConv T x (T s) (T d):=by
 unfold ql9;cases T s with
 | none=>cases T d <;> cases x <;> rfl
 | some si=>
  obtain⟨ty,sz,b,z⟩:=si;cases T d with
  | none=>cases ty <;> cases x <;> rfl
  | some di=>
   obtain⟨ty',sz',b',z'⟩:=di;cases ty <;> cases ty' <;> cases x <;> first|rfl|exact qpm
@[go_sem] def ziV {k k':IntKind}{sz' b':Nat}{z':D}:xConv T (.d xd) (some ⟨.int k,sz,b,z⟩) (some ⟨.int k',sz',b',z'⟩)=some (xd.isInt k/\cvC k' xd.toInt,.d (.int k' (cvV k' xd.toInt))):=rfl
@[go_sem] def ziW {n:Int}:cvC .i64 n=InK .i64 n:=rfl
@[go_sem] def ziX {n:Int}:cvV .i64 n=n:=rfl
@[go_sem] def ziY {n:Int}:cvC .u8 n=True:=rfl
@[go_sem] def ziZ {n:Int}:cvV .u8 n=n%256:=rfl
@[go_sem] def zja {n:Int}:cvC .u64 n=InK .u64 n:=rfl
@[go_sem] def zjb {n:Int}:cvV .u64 n=n:=rfl
def xCap (x:I):Option TI->Option (Prop×I)
 | some ⟨.slice _,_,_,_⟩=>match x with
  | .d .nil=>some (True,.d (.int .i64 0))
  | _=>none
 | _=>none
@[go_sem] def zjc {x:I}:sCap T t x=xCap x (T t):=by
 unfold sCap;cases T t with
 | none=>rfl
 | some ti=>
  obtain⟨ty,sz,b,z⟩:=ti;cases ty <;> cases x <;> first|rfl|(rename_i xd;cases xd <;> rfl)
@[go_sem] def zjd:xCap (.d .nil) (some ⟨.slice e,sz,b,z⟩)=some (True,.d (.int .i64 0)):=rfl
def xLenS (g k n:Nat):Option (Nat×Nat)->Option (Prop×I)
 | some (g',k')=>some (g=g'/\k=k',.d (.int .i64 (n:Nat)))
 | none=>none
def xLen (H:List R) (x:I):Option TI->Option (Prop×I)
 | some ⟨.slice _,_,_,_⟩=>match x with
  | .d xd=>some (xd.isSl,.d (.int .i64 (xd.elems.length:Nat)))
  | .sl i g k lo n=>xLenS g k n (rowR (qat H i))
  | _=>none
 | some ⟨.array n _,_,_,_⟩=>some (InK .i64 n,.d (.int .i64 (n:Nat)))
 | _=>none
@[go_sem] def zje {x:I}:sLen T H t x=xLen H x (T t):=by
 unfold sLen;cases T t with
 | none=>rfl
 | some ti=>
  obtain⟨ty,sz,b,z⟩:=ti;cases ty with
  | slice e=>
   cases x <;> simp only[xLen,<-qaC]
   rename_i i g k lo n;cases H[i]? with
   | none=>rfl
   | some r=>cases r <;> rfl
  | _=>rfl
@[go_sem] def zjf:xLen H (.d xd) (some ⟨.slice e,sz,b,z⟩)=some (xd.isSl,.d (.int .i64 (xd.elems.length:Nat))):=rfl
@[go_sem] def zjg {i g k lo:Nat}:xLen H (.sl i g k lo n) (some ⟨.slice e,sz,b,z⟩)=xLenS g k n (rowR (qat H i)):=rfl
@[go_sem] def zjh {g k g' k':Nat}:xLenS g k n (some (g',k'))=some (g=g'/\k=k',.d (.int .i64 (n:Nat))):=rfl
end Go.VL

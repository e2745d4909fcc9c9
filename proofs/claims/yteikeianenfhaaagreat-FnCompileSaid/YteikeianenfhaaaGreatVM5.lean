/- Part 20: the rewriting rules by which the machine runs. Conditions: none; lemmas. -/
import Derived.Test.YteikeianenfhaaaGreatVM4
import Derived.Attr
set_option linter.unusedVariables false
set_option linter.unusedSimpArgs false
set_option maxHeartbeats 2000000
set_option linter.defProp false
namespace Go.VL
variable {c x y:Operand}{ops:Array Oper}{r:List (Nat×Operand)}{e b ok:Bool}{vc gc fc:Prop}{fn:Option (Nat×ZE)}{args a:Array Operand}{op:BinOp}{o o2:Option (Prop×I×ZF)}{z:Option (Prop×Fr×ZF)}{k:Fr->ZF->Option (Prop×I×ZF)}{deep:gG}{t yt s t' u:TypeId}{n i g k' g':Nat}{cs:ZE}{lo hi mx:Option Operand}{parts p:Array (Nat×Operand)}{ts:Array TypeId}{m:List (Nat×I)}{α:Type}{l xs ds:ZD}{dp:DP}{pf:Nat->Kind}{gd:Option (Nat×Bool)}
variable {E:Env}{Q:aT}{fr:Fr}{H:ZF}{f:Nat}{ks:List Item}{all rest:List Oper}{dst:Option Tmp}{ty:TypeId}{pos:String}{af:Array Edge}{T:Nat->Option TI}
@[go_sem] def zaa:exec E (f+1) [] Q fr H=Q .normal fr H:=by simp only[exec]
@[go_sem] def zab {id:Nat}:exec E (f+1) (.blk id::ks) Q fr H=exec E f ks Q fr H:=by simp only[exec]
@[go_sem] def zac {c:Code}:exec E (f+1) (.code c::ks) Q fr H=cw E f c ks Q fr H:=by simp only[exec]
@[go_sem] def zad:cw E (f+1) .skip ks Q fr H=exec E f ks Q fr H:=by simp only[cw]
@[go_sem] def X9 {x y:Code}:cw E (f+1) (.seq x y) ks Q fr H=cw E f x (.code y::ks) Q fr H:=by simp only[cw]
@[go_sem] def zaf {id:Nat}{x:Code}:cw E (f+1) (.block id x) ks Q fr H=cw E f x (.blk id::ks) Q fr H:=by simp only[cw]
@[go_sem] def XH {id:Nat}:cw E (f+1) (.exit id) ks Q fr H=gZ E f (jJ id ks) id ks Q fr H:=by simp only[cw]
@[go_sem] def zah:cw E (f+1) .ret ks Q fr H=Q .ret fr H:=by simp only[cw]
@[go_sem] def zai {x y:Code}:cw E (f+1) (.cond c x y) ks Q fr H=x7 E f (ev fr c) x y ks Q fr H:=by simp only[cw]
@[go_sem] def TM {id:Nat}:cw E (f+1) (.region id ops false) ks Q fr H=am E f ops.toList ops.toList ks Q fr H:=by simp only[cw]
@[go_sem] def Z8 {id:Nat}:cw E (f+1) (.region id ops true) ks Q fr H=(if(quiet E.T ops.toList&&zM E.pf ops.toList)=true then E.P.follows .mixedOrders=true/\Region.lexB .any ops=true/\bh E ops.toList H (fun fr'=>exec E f ks Q fr' H) ops.toList fr else cK E.P E.n (.region id ops true) (dZ E ks Q) fr H):=by simp only[cw]
@[go_sem] def zak {c:Code}:cw E (f+1) (.loop c) ks Q fr H=cK E.P E.n (.loop c) (dZ E ks Q) fr H:=by simp only[cw]
@[go_sem] def zal {id:Nat}:jJ id []=none:=rfl
@[go_sem] def zam {id:Nat}{c:Code}:jJ id (.code c::ks)=jJ id ks:=rfl
@[go_sem] def zan {id id':Nat}:jJ id (.blk id'::ks)=if id=id' then some ks else jJ id ks:=rfl
@[go_sem] def Ux {id:Nat}{ks':List Item}:gZ E (f+1) (some ks') id ks Q fr H=exec E f ks' Q fr H:=by simp only[gZ]
@[go_sem] def zap {id:Nat}:gZ E (f+1) none id ks Q fr H=Q (.exit id) fr H:=by simp only[gZ]
@[go_sem] def zaq {d:D}{x y:Code}:x7 E (f+1) (.d d) x y ks Q fr H=(d.isBool/\(d.toBool=true->cw E f x ks Q fr H)/\(d.toBool=false->cw E f y ks Q fr H)):=by simp only[x7]
@[go_sem] def zar:am E (f+1) all [] ks Q fr H=exec E f ks Q fr H:=by simp only[am]
@[go_sem] def zas {r:I}:mq E (f+1) all rest ks Q fr dst r H=am E f all rest ks Q (fr.put dst r) H:=by simp only[mq]
@[go_sem] def zat {r:I}:cz E (f+1) all rest ks Q fr dst H r=am E f all rest ks Q (fr.put dst r) H:=by simp only[cz]
@[go_sem] def U4 {e:Exit}:dZ E [] Q e fr H=Q e fr H:=rfl
@[go_sem] def Uk {c:Code}:dZ E (.code c::ks) Q .ret fr H=dZ E ks Q .ret fr H:=rfl
@[go_sem] def Um {id:Nat}:dZ E (.blk id::ks) Q .ret fr H=dZ E ks Q .ret fr H:=rfl
def kV (E:Env) (f:Nat) (all rest:List Oper) (ks:List Item) (Q:aT) (fr:Fr) (dst:Option Tmp) (H:ZF):Option (Prop×I)->Prop
 | some (vc,x)=>vc/\am E f all rest ks Q (fr.put dst x) H
 | none=>False
def oM (E:Env) (f:Nat) (all rest:List Oper) (ks:List Item) (Q:aT) (fr:Fr) (dst:Option Tmp):Option (Prop×I×ZF)->Prop
 | some (vc,x,H)=>vc/\am E f all rest ks Q (fr.put dst x) H
 | none=>False
def oJ (E:Env) (f:Nat) (all rest:List Oper) (ks:List Item) (Q:aT) (fr:Fr) (dst:Option Tmp) (H:ZF):Option (Prop×Bool)->Option (Prop×I)->Prop
 | some (gc,e),some (vc,x)=>gc/\(e=true->vc)/\am E f all rest ks Q (fr.put dst (.cond e x)) H
 | _,_=>False
def A1 (E:Env) (f:Nat) (all rest:List Oper) (ks:List Item) (Q:aT) (fr:Fr) (dst:Option Tmp) (H:ZF) (c:Prop) (fn:Option (Nat×ZE)) (args:ZE):Option (Prop×Bool)->Prop
 | some (gc,e)=>gc/\xC E c e fn args H (cz E f all rest ks Q fr dst)
 | none=>False
@[go_sem] def zav {x:I}:kV E f all rest ks Q fr dst H (some (vc,x))=(vc/\am E f all rest ks Q (fr.put dst x) H):=rfl
@[go_sem] def Tm {x:I}:oM E f all rest ks Q fr dst (some (vc,x,H))=(vc/\am E f all rest ks Q (fr.put dst x) H):=rfl
@[go_sem] def Zi {x:I}:oJ E f all rest ks Q fr dst H (some (gc,e)) (some (vc,x))=(gc/\(e=true->vc)/\am E f all rest ks Q (fr.put dst (.cond e x)) H):=rfl
@[go_sem] def T2 {c:Prop}{args:ZE}:A1 E f all rest ks Q fr dst H c fn args (some (gc,e))=(gc/\xC E c e fn args H (cz E f all rest ks Q fr dst)):=rfl
def lW {op:Op}{o:Option (Prop×I)}(h1:gz op=none) (h2:dH E.T fr H op=o) (h3:bX E.T fr H op=none) (h4:uT fr H op=none:=by rfl) (h5:jt E.deep E.T fr H op=none:=by rfl) :
  am E (f+1) all (⟨dst,op,ty,pos,af,none⟩::rest) ks Q fr H=kV E f all rest ks Q fr dst H o:=by
 simp only[am,h1,h2,h3,h4,h5];cases o <;> rfl
def qy {op:Op}{o:Option (Prop×I)}{j:Nat}{want:Bool}(h1:gz op=none) (h2:dH E.T fr H op=o) (h3:bX E.T fr H op=none:=by rfl) :
  am E (f+1) all (⟨dst,op,ty,pos,af,some (j,want)⟩::rest) ks Q fr H=oJ E f all rest ks Q fr dst H (guardOf all fr j want) o:=by
 simp only[am,h1,h2,h3];cases guardOf all fr j want with
 | none=>rfl
 | some g=>cases o <;> rfl
def sO {op:Op}(h1:gz op=none) (h2:dH E.T fr H op=none) (h3:bX E.T fr H op=o) (h4:uT fr H op=none:=by rfl) (h5:jt E.deep E.T fr H op=none:=by rfl) :
  am E (f+1) all (⟨dst,op,ty,pos,af,none⟩::rest) ks Q fr H=oM E f all rest ks Q fr dst o:=by
 simp only[am,h1,h2,h3,h4,h5];cases o <;> rfl
def yS (E:Env) (f:Nat) (all rest:List Oper) (ks:List Item) (Q:aT) (fr:Fr) (dst:Option Tmp) (fc:Prop):Option (Prop×I×ZF)->Prop
 | some (vc,x,H)=>fc/\vc/\am E f all rest ks Q (fr.put dst x) H
 | none=>False
def tN (E:Env) (f:Nat) (all rest:List Oper) (ks:List Item) (Q:aT) (dst:Option Tmp) (k:Fr->ZF->Option (Prop×I×ZF)):Option (Prop×Fr×ZF)->Prop
 | some (fc,fr,H)=>yS E f all rest ks Q fr dst fc (k fr H)
 | none=>False
def Bb (E:Env) (f:Nat) (all rest:List Oper) (ks:List Item) (Q:aT) (fr:Fr) (dst:Option Tmp) (z:Option (Prop×Fr×ZF)) (k:Fr->ZF->Option (Prop×I×ZF)) (o2:Option (Prop×I×ZF)):Option (Prop×I×ZF)->Prop
 | some (vc,x,H)=>vc/\am E f all rest ks Q (fr.put dst x) H
 | none=>
  match o2 with
  | some (vc,x,H)=>vc/\am E f all rest ks Q (fr.put dst x) H
  | none=>tN E f all rest ks Q dst k z
@[go_sem] def YB {x:I}:Bb E f all rest ks Q fr dst z k o2 (some (vc,x,H))=(vc/\am E f all rest ks Q (fr.put dst x) H):=rfl
@[go_sem] def zaA:Bb E f all rest ks Q fr dst z k none none=tN E f all rest ks Q dst k z:=rfl
@[go_sem] def VM {x:I}:Bb E f all rest ks Q fr dst z k (some (vc,x,H)) none=(vc/\am E f all rest ks Q (fr.put dst x) H):=rfl
def Dy (E:Env) (f:Nat) (all rest:List Oper) (ks:List Item) (Q:aT) (fr:Fr) (dst:Option Tmp) (H:ZF) (o2:Option (Prop×I×ZF)):Option (Prop×I)->Prop
 | some (vc,x)=>vc/\am E f all rest ks Q (fr.put dst x) H
 | none=>oM E f all rest ks Q fr dst o2
@[go_sem] def zaB {x:I}:Dy E f all rest ks Q fr dst H o2 (some (vc,x))=(vc/\am E f all rest ks Q (fr.put dst x) H):=rfl
@[go_sem] def Uv:Dy E f all rest ks Q fr dst H o2 none=oM E f all rest ks Q fr dst o2:=rfl
def BA (b:Bool) (o:Option (Prop×I×ZF)):Option (Prop×I×ZF):=
 match b with
 | true=>o
 | false=>none
@[go_sem] def XX:BA true o=o:=rfl
@[go_sem] def zaE:BA false o=none:=rfl
def ow (deep:gG) (T:Nat->Option TI) (fr:Fr) (H:ZF) (t n:Nat):List (Nat×Operand)->Option (Prop×I×ZF)
 | [(i,x)]=>BA (wT deep (aq fr x)) (eF (aF fr x) (yg T H t n i (aq fr x)))
 | _=>none
@[go_sem] def WU {T:Nat->Option TI}{t:Nat}:ow deep T fr H t n []=none:=rfl
@[go_sem] def Ya {T:Nat->Option TI}{t:Nat}:ow deep T fr H t n [(i,x)]=BA (wT deep (aq fr x)) (eF (aF fr x) (yg T H t n i (aq fr x))):=rfl
@[go_sem] def W0 {T:Nat->Option TI}{t:Nat}{a b:Nat×Operand}:ow deep T fr H t n (a::b::r)=none:=rfl
@[go_sem] def XT:wT deep (.agg cs)=deep.agg:=rfl
@[go_sem] def quw:gG.agg .low=true:=rfl
@[go_sem] def ZR:gG.agg .s6=false:=rfl
@[go_sem] def zaJ:gG.sl .low=false:=rfl
@[go_sem] def W6:gG.sl .both=true:=rfl
@[go_sem] def Zw:gG.sl .s6=false:=rfl
@[go_sem] def Vl {k lo:Nat}:wT deep (.sl i g k lo n)=deep.sl:=rfl
@[go_sem] def zaM {x:D}:wT deep (.d x)=false:=rfl
@[go_sem] def zaN:tN E f all rest ks Q dst k (some (fc,fr,H))=yS E f all rest ks Q fr dst fc (k fr H):=rfl
@[go_sem] def zaO {x:I}:yS E f all rest ks Q fr dst fc (some (vc,x,H))=(fc/\vc/\am E f all rest ks Q (fr.put dst x) H):=rfl
def rC (fr:Fr) (H:ZF) (ps:List (Nat×Operand)):Option (Prop×Fr×ZF):=
 match ps with
 | [(_,.tmp t)]=>
  match fr.get t with
  | .sl i g k lo n=>
   match H[i]? with
   | some (.row g' k' dp l)=>some (g=g'/\k=k'/\dp.shut=true,fr.put (some t) (.d (.lst k ((l.drop lo).take n))),H.set i (.dead g'))
   | _=>none
  | .agg cs=>
   match kP cs H with
   | some (fc,cs',H')=>some (fc,fr.put (some t) (.d (.agg cs')),H')
   | none=>none
  | _=>none
 | _=>none
section ops
variable {j:Nat}{want:Bool}
@[go_sem] def zaP:am E (f+1) all (⟨dst,.move x,ty,pos,af,none⟩::rest) ks Q fr H=kV E f all rest ks Q fr dst H (some (aF fr x,aq fr x)):=lW rfl rfl rfl
@[go_sem] def S3:am E (f+1) all (⟨dst,.assign x,ty,pos,af,none⟩::rest) ks Q fr H=kV E f all rest ks Q fr dst H (some (aF fr x,aq fr x)):=lW rfl rfl rfl
@[go_sem] def zaR:am E (f+1) all (⟨dst,.pick c x y,ty,pos,af,none⟩::rest) ks Q fr H=kV E f all rest ks Q fr dst H (aP (aF fr c) (wW (aq fr c) (aq fr x) (aq fr y) (aF fr x) (aF fr y))):=lW rfl rfl rfl
@[go_sem] def zaS:am E (f+1) all (⟨dst,.build t parts,ty,pos,af,none⟩::rest) ks Q fr H=kV E f all rest ks Q fr dst H (aP (oG fr parts.toList) (xA E.T t (lq fr parts.toList))):=lW rfl rfl rfl
@[go_sem] def Us:am E (f+1) all (⟨dst,.load t x,ty,pos,af,none⟩::rest) ks Q fr H=Dy E f all rest ks Q fr dst H (eF (aF fr x) (ra E.T H t (aq fr x))) (aP (aF fr x) (nE E.T H t (aq fr x))):=by
 have h2:dH E.T fr H (.load t x)=aP (aF fr x) (nE E.T H t (aq fr x)):=rfl;have h3:bX E.T fr H (.load t x)=none:=rfl;have h4:uT fr H (.load t x)=none:=rfl;have h5:jt E.deep E.T fr H (.load t x)=eF (aF fr x) (ra E.T H t (aq fr x)):=rfl;simp only[am,gz,h2,h3,h4,h5];cases aP (aF fr x) (nE E.T H t (aq fr x)) with
 | some q=>rfl
 | none=>
  simp only[Dy];cases eF (aF fr x) (ra E.T H t (aq fr x)) <;> rfl
@[go_sem] def quz:am E (f+1) all (⟨dst,.nilCheck x,ty,pos,af,none⟩::rest) ks Q fr H=kV E f all rest ks Q fr dst H (aP (aF fr x) (j8 H (aq fr x))):=lW rfl rfl rfl
@[go_sem] def zaU:am E (f+1) all (⟨dst,.binOp op t x y yt,ty,pos,af,none⟩::rest) ks Q fr H=kV E f all rest ks Q fr dst H (aP (aF fr x/\aF fr y) (lT E.T H op t (aq fr x) (aq fr y))):=lW rfl rfl rfl
@[go_sem] def zaV {op:UnOp}:am E (f+1) all (⟨dst,.unOp op t x,ty,pos,af,none⟩::rest) ks Q fr H=kV E f all rest ks Q fr dst H (aP (aF fr x) (w9 op (aq fr x))):=lW rfl rfl rfl
@[go_sem] def zaW:am E (f+1) all (⟨dst,.convert s t x,ty,pos,af,none⟩::rest) ks Q fr H=kV E f all rest ks Q fr dst H (aP (aF fr x) (vu E.T s t (aq fr x))):=lW rfl rfl rfl
@[go_sem] def Tf {caps:List Operand}:am E (f+1) all (⟨dst,.makeFunc (.func g) #[] caps.toArray,ty,pos,af,none⟩::rest) ks Q fr H=kV E f all rest ks Q fr dst H (some (ee fr caps,mU g (iw fr caps))):=lW rfl (by simp[dH]) rfl
@[go_sem] def zaX:am E (f+1) all (⟨dst,.slice t x lo hi mx,ty,pos,af,none⟩::rest) ks Q fr H=kV E f all rest ks Q fr dst H (aP (aF fr x/\rF fr lo/\rF fr hi) (v6 E.T H t (aq fr x) (dU fr lo) (dU fr hi) (dU fr mx))):=lW rfl rfl rfl
@[go_sem] def qs0:am E (f+1) all (⟨dst,.fieldAddr t x i,ty,pos,af,none⟩::rest) ks Q fr H=kV E f all rest ks Q fr dst H (aP (aF fr x) (wA E.T H t (aq fr x) i)):=lW rfl rfl rfl
@[go_sem] def qs1:am E (f+1) all (⟨dst,.indexAddr t x y,ty,pos,af,none⟩::rest) ks Q fr H=kV E f all rest ks Q fr dst H (aP (aF fr x/\aF fr y) (tV E.T H t (aq fr x) (aq fr y))):=lW rfl rfl rfl
@[go_sem] def zaY:am E (f+1) all (⟨dst,.index t x y,ty,pos,af,none⟩::rest) ks Q fr H=kV E f all rest ks Q fr dst H (aP (aF fr x/\aF fr y) (zl E.T t (aq fr x) (aq fr y))):=lW rfl rfl rfl
@[go_sem] def zaZ:am E (f+1) all (⟨dst,.extract x i,ty,pos,af,none⟩::rest) ks Q fr H=kV E f all rest ks Q fr dst H (aP (aF fr x) (wL (aq fr x) i)):=lW rfl rfl rfl
@[go_sem] def zba:am E (f+1) all (⟨dst,.lookup t x y ok,ty,pos,af,none⟩::rest) ks Q fr H=kV E f all rest ks Q fr dst H (aP (aF fr x/\aF fr y) (wb E.T H t (aq fr x) (aq fr y) ok)):=lW rfl rfl rfl
@[go_sem] def zbb:am E (f+1) all (⟨dst,.makeMap t none,ty,pos,af,none⟩::rest) ks Q fr H=oM E f all rest ks Q fr dst (xp E.T H t):=sO rfl rfl rfl
@[go_sem] def zbc:am E (f+1) all (⟨dst,.call ⟨.builtin .len,#[x],#[t]⟩,ty,pos,af,none⟩::rest) ks Q fr H=kV E f all rest ks Q fr dst H (aP (aF fr x) (dr E.T H t (aq fr x))):=lW rfl rfl rfl
@[go_sem] def zbd:am E (f+1) all (⟨dst,.call ⟨.builtin .cap,#[x],#[t]⟩,ty,pos,af,none⟩::rest) ks Q fr H=kV E f all rest ks Q fr dst H (aP (aF fr x) (ie E.T t (aq fr x))):=lW rfl rfl rfl
@[go_sem] def Ub:am E (f+1) all (⟨dst,.call ⟨.builtin .min,#[x,y],ts⟩,ty,pos,af,none⟩::rest) ks Q fr H=kV E f all rest ks Q fr dst H (aP (aF fr x/\aF fr y) (vq .min (aq fr x) (aq fr y))):=lW rfl rfl rfl
@[go_sem] def Wy:am E (f+1) all (⟨dst,.call ⟨.builtin .max,#[x,y],ts⟩,ty,pos,af,none⟩::rest) ks Q fr H=kV E f all rest ks Q fr dst H (aP (aF fr x/\aF fr y) (vq .max (aq fr x) (aq fr y))):=lW rfl rfl rfl
@[go_sem] def zbg:am E (f+1) all (⟨dst,.box t x,ty,pos,af,none⟩::rest) ks Q fr H=oM E f all rest ks Q fr dst (eF (aF fr x) (oq E.T H t (aq fr x))):=sO rfl rfl rfl
@[go_sem] def zbh:am E (f+1) all (⟨dst,.alloc t,ty,pos,af,none⟩::rest) ks Q fr H=oM E f all rest ks Q fr dst (yu E.T H t):=sO rfl rfl rfl
@[go_sem] def qsk:am E (f+1) all (⟨dst,.buildSlice t n parts,ty,pos,af,none⟩::rest) ks Q fr H =
  Bb E f all rest ks Q fr dst (rC fr H parts.toList) (fun fr' H'=>eF (oG fr' parts.toList) (ko E.T H' t n (lq fr' parts.toList))) (ow E.deep E.T fr H t n parts.toList) (eF (oG fr parts.toList) (ko E.T H t n (lq fr parts.toList))):=by
 have h2:dH E.T fr H (.buildSlice t n parts)=none:=rfl;have h3 : ∀ fr H,bX E.T fr H (.buildSlice t n parts)=eF (oG fr parts.toList) (ko E.T H t n (lq fr parts.toList)):=fun _ _=>rfl
 have h4:uT fr H (.buildSlice t n parts)=rC fr H parts.toList:=rfl;have h5:jt E.deep E.T fr H (.buildSlice t n parts)=ow E.deep E.T fr H t n parts.toList:=by
  simp only[jt];generalize parts.toList=ps;rcases ps with _|⟨⟨i,x⟩,_|⟨b,r⟩⟩
  ·rfl
  ·simp only[ow,BA];cases wT E.deep (aq fr x) <;> rfl
  ·rfl
 simp only[am,gz,h2,h3,h4,h5];cases eF (oG fr parts.toList) (ko E.T H t n (lq fr parts.toList)) with
 | some q=>rfl
 | none=>
  simp only[Bb];cases ow E.deep E.T fr H t n parts.toList with
  | some q=>rfl
  | none=>
   simp only;cases rC fr H parts.toList with
   | none=>rfl
   | some q=>
    obtain⟨fc,fr',H'⟩:=q;simp only[tN];cases eF (oG fr' parts.toList) (ko E.T H' t n (lq fr' parts.toList)) <;> rfl
@[go_sem] def T8:am E (f+1) all (⟨dst,.makeSlice t x y,ty,pos,af,none⟩::rest) ks Q fr H=oM E f all rest ks Q fr dst (eF (aF fr x/\aF fr y) (wI E.T H t (aq fr x) (aq fr y))):=sO rfl rfl rfl
def Bq (c:Prop):Option (Prop×ZF)->Option (Prop×I×ZF)
 | some (vc,H')=>some (c/\vc,.junk,H')
 | none=>none
@[go_sem] def ZP {c:Prop}:Bq c (some (vc,H))=some (c/\vc,.junk,H):=rfl
@[go_sem] def W5:am E (f+1) all (⟨dst,.store t x y,ty,pos,af,none⟩::rest) ks Q fr H=oM E f all rest ks Q fr dst (Bq (aF fr x/\aF fr y) (wN E.T H t (aq fr x) (aq fr y))):=
 sO rfl rfl (by simp only[bX,Bq];cases wN E.T H t (aq fr x) (aq fr y) <;> rfl)
@[go_sem] def Xi {m:Operand}:am E (f+1) all (⟨dst,.mapUpdate t m x y,ty,pos,af,none⟩::rest) ks Q fr H=oM E f all rest ks Q fr dst (Bq (aF fr m/\aF fr x/\aF fr y) (sC E.T H t (aq fr m) (aq fr x) (aq fr y))):=by
 refine sO rfl rfl ?_;simp only[bX];cases sC E.T H t (aq fr m) (aq fr x) (aq fr y) <;> rfl
@[go_sem] def zbk {m:Operand}:am E (f+1) all (⟨dst,.insert t m x y,ty,pos,af,none⟩::rest) ks Q fr H=oM E f all rest ks Q fr dst (Bq (aF fr m/\aF fr x/\aF fr y) (sC E.T H t (aq fr m) (aq fr x) (aq fr y))):=by
 refine sO rfl rfl ?_;simp only[bX];cases sC E.T H t (aq fr m) (aq fr x) (aq fr y) <;> rfl
@[go_sem] def zbl:am E (f+1) all (⟨dst,.call ⟨.builtin .append,#[x,y],#[t,t']⟩,ty,pos,af,none⟩::rest) ks Q fr H=oM E f all rest ks Q fr dst (eF (aF fr x/\aF fr y) (oc E.T H t t' (aq fr x) (aq fr y))):=sO rfl rfl rfl
@[go_sem] def Yt:am E (f+1) all (⟨dst,.call ⟨.builtin .copy,#[x,y],#[t,t']⟩,ty,pos,af,none⟩::rest) ks Q fr H=oM E f all rest ks Q fr dst (eF (aF fr x/\aF fr y) (zH E.T H t t' (aq fr x) (aq fr y))):=sO rfl rfl rfl
@[go_sem] def Uu:am E (f+1) all (⟨dst,.call ⟨.builtin .clear,#[x],#[t]⟩,ty,pos,af,none⟩::rest) ks Q fr H=oM E f all rest ks Q fr dst (eF (aF fr x) (zx E.T H t (aq fr x))):=sO rfl rfl rfl
@[go_sem] def Yq {g:Operand}{args:List Operand}:am E (f+1) all (⟨dst,.call ⟨.value g,args.toArray,ts⟩,ty,pos,af,none⟩::rest) ks Q fr H =
  oK E (aF fr g/\ee fr args) (fe (aq fr g)) (iw fr args) H (mq E f all rest ks Q fr dst):=by simp only[am,gz]
@[go_sem] def V5:am E (f+1) all (⟨dst,.move x,ty,pos,af,some (j,want)⟩::rest) ks Q fr H=oJ E f all rest ks Q fr dst H (guardOf all fr j want) (some (aF fr x,aq fr x)):=qy rfl rfl
@[go_sem] def Y2:am E (f+1) all (⟨dst,.pick c x y,ty,pos,af,some (j,want)⟩::rest) ks Q fr H=oJ E f all rest ks Q fr dst H (guardOf all fr j want) (aP (aF fr c) (wW (aq fr c) (aq fr x) (aq fr y) (aF fr x) (aF fr y))):=qy rfl rfl
@[go_sem] def zbr:am E (f+1) all (⟨dst,.build t parts,ty,pos,af,some (j,want)⟩::rest) ks Q fr H=oJ E f all rest ks Q fr dst H (guardOf all fr j want) (aP (oG fr parts.toList) (xA E.T t (lq fr parts.toList))):=qy rfl rfl
@[go_sem] def zbs:am E (f+1) all (⟨dst,.load t x,ty,pos,af,some (j,want)⟩::rest) ks Q fr H=oJ E f all rest ks Q fr dst H (guardOf all fr j want) (aP (aF fr x) (nE E.T H t (aq fr x))):=qy rfl rfl
@[go_sem] def Uy:am E (f+1) all (⟨dst,.nilCheck x,ty,pos,af,some (j,want)⟩::rest) ks Q fr H=oJ E f all rest ks Q fr dst H (guardOf all fr j want) (aP (aF fr x) (j8 H (aq fr x))):=qy rfl rfl
@[go_sem] def T7:am E (f+1) all (⟨dst,.binOp op t x y yt,ty,pos,af,some (j,want)⟩::rest) ks Q fr H=oJ E f all rest ks Q fr dst H (guardOf all fr j want) (aP (aF fr x/\aF fr y) (lT E.T H op t (aq fr x) (aq fr y))):=qy rfl rfl
@[go_sem] def zbu {op:UnOp}:am E (f+1) all (⟨dst,.unOp op t x,ty,pos,af,some (j,want)⟩::rest) ks Q fr H=oJ E f all rest ks Q fr dst H (guardOf all fr j want) (aP (aF fr x) (w9 op (aq fr x))):=qy rfl rfl
@[go_sem] def Wb:am E (f+1) all (⟨dst,.convert s t x,ty,pos,af,some (j,want)⟩::rest) ks Q fr H=oJ E f all rest ks Q fr dst H (guardOf all fr j want) (aP (aF fr x) (vu E.T s t (aq fr x))):=qy rfl rfl
@[go_sem] def qsl:am E (f+1) all (⟨dst,.fieldAddr t x i,ty,pos,af,some (j,want)⟩::rest) ks Q fr H=oJ E f all rest ks Q fr dst H (guardOf all fr j want) (aP (aF fr x) (wA E.T H t (aq fr x) i)):=qy rfl rfl
@[go_sem] def qsm:am E (f+1) all (⟨dst,.indexAddr t x y,ty,pos,af,some (j,want)⟩::rest) ks Q fr H=oJ E f all rest ks Q fr dst H (guardOf all fr j want) (aP (aF fr x/\aF fr y) (tV E.T H t (aq fr x) (aq fr y))):=qy rfl rfl
@[go_sem] def Wi:am E (f+1) all (⟨dst,.lookup t x y ok,ty,pos,af,some (j,want)⟩::rest) ks Q fr H=oJ E f all rest ks Q fr dst H (guardOf all fr j want) (aP (aF fr x/\aF fr y) (wb E.T H t (aq fr x) (aq fr y) ok)):=qy rfl rfl
@[go_sem] def XY:am E (f+1) all (⟨dst,.call ⟨.builtin .len,#[x],#[t]⟩,ty,pos,af,some (j,want)⟩::rest) ks Q fr H=oJ E f all rest ks Q fr dst H (guardOf all fr j want) (aP (aF fr x) (dr E.T H t (aq fr x))):=qy rfl rfl
@[go_sem] def Zr {g:Operand}{args:List Operand}:am E (f+1) all (⟨dst,.call ⟨.value g,args.toArray,ts⟩,ty,pos,af,some (j,want)⟩::rest) ks Q fr H =
  A1 E f all rest ks Q fr dst H (aF fr g/\ee fr args) (fe (aq fr g)) (iw fr args) (guardOf all fr j want):=by
 simp only[am,gz];cases guardOf all fr j want <;> rfl
end ops
@[go_sem] def YN (l:List α):l.toArray.toList=l:=rfl
@[go_sem] def YT {c:Prop}{x:I}:aP c (some (vc,x))=some (c/\vc,x):=rfl
@[go_sem] def zbz {c:Prop}:aP c none=none:=rfl
@[go_sem] def zbA {c:Prop}:eF c none=none:=rfl
@[go_sem] def zbB {c:Prop}{x:I}:eF c (some (vc,x,H))=some (c/\vc,x,H):=rfl
def sE:I->I
 | .cond _ x=>x
 | x=>x
def sq:I->Prop
 | .cond e _=>e=true
 | _=>True
@[go_sem] def Xr {o:Operand}:aq fr o=sE (ev fr o):=rfl
@[go_sem] def zbD {o:Operand}:aF fr o=sq (ev fr o):=rfl
@[go_sem] def zbE {t:Nat}:ev fr (.tmp t)=fr.get t:=rfl
@[go_sem] def zbF:ev fr (.func g)=.d (.fn g []):=rfl
@[go_sem] def zbG {n:Int}:ev fr (.const (.int .i64 n))=if -9223372036854775808<=n/\n<=9223372036854775807 then .d (.int .i64 n) else .junk:=rfl
@[go_sem] def ZY {n:Int}:ev fr (.const (.int .u8 n))=if 0<=n/\n<=255 then .d (.int .u8 n) else .junk:=rfl
@[go_sem] def zbI {n:Int}:ev fr (.const (.int .u64 n))=if 0<=n/\n<=18446744073709551615 then .d (.int .u64 n) else .junk:=rfl
@[go_sem] def Yf {s:ByteArray}:ev fr (.const (.string s))=.d (.raw (.string s)):=rfl
@[go_sem] def XI:ev fr (.const (.bool b))=.d (.bool b):=rfl
@[go_sem] def zbL:ev fr (.const (.slice none 0 0))=.d .nil:=rfl
@[go_sem] def zbM:ev fr (.const (.pointer none))=.d (.raw (.pointer none)):=rfl
@[go_sem] def zbN {x:D}:sE (.d x)=.d x:=rfl
@[go_sem] def XQ:sE (.agg cs)=.agg cs:=rfl
@[go_sem] def zbP {k lo:Nat}:sE (.sl i g k lo n)=.sl i g k lo n:=rfl
@[go_sem] def zbQ {o:Nat}:sE (.ptr i o)=.ptr i o:=rfl
@[go_sem] def Yk {k x o:Nat}{z:D}:sE (.eptr i g k x o z)=.eptr i g k x o z:=rfl
@[go_sem] def VH:sE (.map i)=.map i:=rfl
@[go_sem] def Uz:sE (.fn g cs)=.fn g cs:=rfl
@[go_sem] def WX:sE (.tup cs)=.tup cs:=rfl
@[go_sem] def zbV {x:I}:sE (.cond e x)=x:=rfl
@[go_sem] def zbW {x:D}:sq (.d x)=True:=rfl
@[go_sem] def TH:sq (.agg cs)=True:=rfl
@[go_sem] def WY {k lo:Nat}:sq (.sl i g k lo n)=True:=rfl
@[go_sem] def zbZ {o:Nat}:sq (.ptr i o)=True:=rfl
@[go_sem] def Ur {k x o:Nat}{z:D}:sq (.eptr i g k x o z)=True:=rfl
@[go_sem] def zcb:sq (.map i)=True:=rfl
@[go_sem] def zcc:sq (.fn g cs)=True:=rfl
@[go_sem] def zcd:sq (.tup cs)=True:=rfl
@[go_sem] def zce {x:I}:sq (.cond e x)=(e=true):=rfl
@[go_sem] def ZV {t:Nat}:Fr.get ⟨n,m⟩ t=look t m:=rfl
@[go_sem] def XW {s t:Nat}{x:I}:look t ((s,x)::m)=if s=t then x else look t m:=rfl
@[go_sem] def zch {t:Nat}{x:I}:Fr.put ⟨n,m⟩ (some t) x=if t<n then⟨n,(t,x)::m⟩ else⟨n,m⟩:=rfl
@[go_sem] def zci {x:I}:Fr.put fr none x=fr:=rfl
@[go_sem] def Td:iw fr []=[]:=rfl
@[go_sem] def zck {o:Operand}{r:List Operand}:iw fr (o::r)=aq fr o::iw fr r:=rfl
@[go_sem] def Ys:ee fr []=True:=rfl
@[go_sem] def zcm {o:Operand}{r:List Operand}:ee fr (o::r)=(aF fr o/\ee fr r):=rfl
@[go_sem] def ZH:dU fr none=none:=rfl
@[go_sem] def zco {o:Operand}:dU fr (some o)=some (aq fr o):=rfl
@[go_sem] def WL:rF fr none=True:=rfl
@[go_sem] def zcq {o:Operand}:rF fr (some o)=aF fr o:=rfl
@[go_sem] def UI:lq fr []=[]:=rfl
@[go_sem] def quC {o:Operand}:lq fr ((i,o)::r)=(i,aq fr o)::lq fr r:=rfl
@[go_sem] def quD:oG fr []=True:=rfl
@[go_sem] def qs5 {o:Operand}:oG fr ((i,o)::r)=(aF fr o/\oG fr r):=rfl
@[go_sem] def zcs {t:Nat}:jF t []=[]:=rfl
@[go_sem] def Xe {t:Nat}{x:I}{r:ZE}:jF t (x::r)=(t,x)::jF (t+1) r:=rfl
attribute [go_sem] js List.map_nil lN
def sJ:List Oper->Nat->Option Tmp
 | [],_=>none
 | o::_,0=>o.dst
 | _::r,n+1=>sJ r n
def EZ (fr:Fr) (want:Bool):Option Tmp->Option (Prop×Bool)
 | some t=>if t<fr.n then(match fr.get t with|.d x=>some (x.isBool,if want then x.toBool else !x.toBool)|.cond e (.d x)=>some ((e=true->x.isBool),e&&(if want then x.toBool else !x.toBool))|_=>none) else none
 | none=>none
def Bd (want:Bool):I->Option (Prop×Bool)
 | .d x=>some (x.isBool,if want then x.toBool else !x.toBool)
 | .cond e (.d x)=>some ((e=true->x.isBool),e&&(if want then x.toBool else !x.toBool))
 | _=>none
def I5 : ∀ (l:List Oper) (j:Nat),(l[j]?).bind (·.dst)=sJ l j
 | [],j=>by simp[sJ]
 | o::r,0=>by simp[sJ]
 | o::r,j+1=>by simpa [sJ] using I5 r j
@[go_sem] def Zv {j:Nat}{want:Bool}:guardOf all fr j want=EZ fr want (sJ all j):=by
 simp only[guardOf,I5];cases sJ all j <;> rfl
@[go_sem] def Uc {o:Oper}{r:List Oper}:sJ (o::r) 0=o.dst:=rfl
@[go_sem] def zcw {o:Oper}{r:List Oper}:sJ (o::r) (n+1)=sJ r n:=rfl
@[go_sem] def zcx {t:Nat}{want:Bool}:EZ ⟨n,m⟩ want (some t)=if t<n then Bd want (look t m) else none:=by
 simp only[EZ,Fr.get];split
 ·cases look t m <;> first|rfl|(rename_i x;cases x <;> rfl)
 ·rfl
@[go_sem] def zcy {x:D}:Bd true (.d x)=some (x.isBool,x.toBool):=rfl
@[go_sem] def quE {x:D}:Bd false (.d x)=some (x.isBool,!x.toBool):=rfl
@[go_sem] def Uf {x:D}:Bd true (.cond e (.d x))=some ((e=true->x.isBool),e&&x.toBool):=rfl
@[go_sem] def qs6 {x:D}:Bd false (.cond e (.d x))=some ((e=true->x.isBool),e && !x.toBool):=rfl
@[go_sem] def TY {k:IntKind}{n:Int}:(D.int k n).toInt=n:=rfl
@[go_sem] def Vj:(D.bool b).toBool=b:=rfl
@[go_sem] def zcB {k k':IntKind}{n:Int}:(D.int k n).isInt k'=(k=k'):=rfl
@[go_sem] def TK:(D.bool b).isBool=True:=rfl
@[go_sem] def zcD {k:Nat}:(D.lst k l).elems=l:=rfl
@[go_sem] def zcE:D.nil.elems=[]:=rfl
@[go_sem] def zcF {k:Nat}:(D.lst k l).dc k'=(k=k'):=rfl
@[go_sem] def Ym:D.nil.dc k'=True:=rfl
@[go_sem] def zcH {k:Nat}:(D.lst k l).gT=True:=rfl
@[go_sem] def Vy:D.nil.gT=True:=rfl
@[go_sem] def zcJ {k:Nat}:(D.lst k l).isNil=false:=rfl
@[go_sem] def zcK:D.nil.isNil=true:=rfl
@[go_sem] def Vr {cs:ZD}:(D.ptr cs).cT=cs:=rfl
@[go_sem] def zcM {cs:ZD}:(D.ptr cs).cR=True:=rfl
@[go_sem] def ZG {cs:ZD}{j:Nat}:(D.agg cs).cellAt j=cs.getD j .nil:=rfl
@[go_sem] def Va {k:IntKind}{n:Int}:(D.int k n).cellAt 0=D.int k n:=rfl
@[go_sem] def zcP:(D.bool b).cellAt 0=D.bool b:=rfl
@[go_sem] def zcQ {k:Nat}:(D.lst k l).cellAt 0=D.lst k l:=rfl
@[go_sem] def zcR:D.nil.cellAt 0=D.nil:=rfl
@[go_sem] def zcS {x d : α}{l:List α}:(x::l).getD 0 d=x:=rfl
@[go_sem] def zcT {x d : α}{l:List α}:(x::l).getD (n+1) d=l.getD n d:=rfl
@[go_sem] def zcU {cs:ZD}:(D.agg cs).cells=cs:=rfl
@[go_sem] def zcV {k:IntKind}{n:Int}:(D.int k n).cells=[D.int k n]:=rfl
@[go_sem] def zcW:(D.bool b).cells=[D.bool b]:=rfl
@[go_sem] def zcX {k:Nat}:(D.lst k l).cells=[D.lst k l]:=rfl
@[go_sem] def zcY:D.nil.cells=[D.nil]:=rfl
@[go_sem] def zcZ {k:IntKind}{n:Int}:(D.int k n).one=true:=rfl
@[go_sem] def zda:(D.bool b).one=true:=rfl
@[go_sem] def zdb {k:Nat}:(D.lst k l).one=true:=rfl
@[go_sem] def zdc:D.nil.one=true:=rfl
@[go_sem] def Zf {cs:ZD}:(D.agg cs).one=false:=rfl
@[go_sem] def Zt {cs:ZD}:(D.ptr cs).one=true:=rfl
@[go_sem] def TO {k:IntKind}{n:Int}:(D.int k n).scalar=true:=rfl
@[go_sem] def Yh:(D.bool b).scalar=true:=rfl
@[go_sem] def zdh {k:Nat}:(D.lst k l).scalar=false:=rfl
@[go_sem] def zdi:D.nil.scalar=true:=rfl
@[go_sem] def quG:ao (List.replicate n D.nil)=true:=by induction n with|zero=>rfl|succ n ih=>simp[List.replicate_succ,ao,D.cells,D.scalar,ih]
@[go_sem] def zdj {cs:ZD}:(D.agg cs).eK=True:=rfl
@[go_sem] def Tq {k:IntKind}{n:Int}:(D.int k n).eK=True:=rfl
@[go_sem] def Z0:(D.bool b).eK=True:=rfl
@[go_sem] def zdm {k:Nat}:(D.lst k l).eK=True:=rfl
@[go_sem] def zdn:(D.tup xs).oI n=(xs.length=n):=rfl
@[go_sem] def zdo:(D.tup xs).iJ=xs.length:=rfl
@[go_sem] def Xu:(D.tup xs).rg n=xs.getD n .nil:=rfl
@[go_sem] def qsn {x:D}{j:Nat}:bY x j 0=[]:=rfl
@[go_sem] def UT {x:D}{j:Nat}:bY x j (n+1)=x.cellAt j::bY x (j+1) n:=rfl
@[go_sem] def zdq {cs:ZD}:(D.agg cs=D.tup xs)=False:=by simp
@[go_sem] def zdr {k:IntKind}{x:D}:bo (.int k) x=.int k x.toInt:=rfl
@[go_sem] def zds {x:D}:bo .bool x=.bool x.toBool:=rfl
@[go_sem] def zdt {e:Nat}{x:D}:bo (.slice e) x=x:=rfl
@[go_sem] def Wj {e:Nat}{x:D}:bo (.ptr e) x=x:=rfl
@[go_sem] def zdv {k:IntKind}{x:D}:dw (.int k) x=x.isInt k:=rfl
@[go_sem] def VX {x:D}:dw .bool x=x.isBool:=rfl
@[go_sem] def WO {e:Nat}{x:D}:dw (.slice e) x=(x.one=true):=rfl
@[go_sem] def zdy {e:Nat}{x:D}:dw (.ptr e) x=(x.one=true):=rfl
@[go_sem] def YH {t:Ty}{x:D}:ct t (.d x)=.d (bo t x):=rfl
@[go_sem] def XN {t:Ty}{k lo:Nat}:ct t (.sl i g k lo n)=.sl i g k lo n:=rfl
@[go_sem] def XF {t:Ty}:ct t (.map i)=.map i:=rfl
@[go_sem] def zdC {t:Ty}{x:D}:pU t (.d x)=dw t x:=rfl
@[go_sem] def VY {t:Ty}{k lo:Nat}:pU t (.sl i g k lo n)=True:=rfl
@[go_sem] def zdE {t:Ty}:pU t (.map i)=True:=rfl
@[go_sem] def zdF {k:IntKind}:(Ty.int k).agg=false:=rfl
@[go_sem] def Vk:Ty.bool.agg=false:=rfl
@[go_sem] def WP {e:Nat}:(Ty.slice e).agg=false:=rfl
@[go_sem] def UV {e:Nat}:(Ty.ptr e).agg=false:=rfl
@[go_sem] def zdJ {k e:Nat}:(Ty.map k e).agg=false:=rfl
@[go_sem] def zdK {fs:List (Nat×Nat)}:(Ty.struct fs).agg=true:=rfl
@[go_sem] def zdL {e:Nat}:(Ty.array n e).agg=true:=rfl
@[go_sem] def zdM:eS []=some []:=rfl
def rN (x:D):Option ZD->Option ZD
 | some l=>some (x::l)
 | none=>none
@[go_sem] def Tu {x:D}{r:ZE}:eS (.d x::r)=rN x (eS r):=by
 simp only[eS];cases eS r <;> rfl
@[go_sem] def VG {x:D}:rN x (some l)=some (x::l):=rfl
@[go_sem] def zdP {x:D}:rN x none=none:=rfl
@[go_sem] def zdQ {k lo:Nat}{r:ZE}:eS (.sl i g k lo n::r)=none:=rfl
@[go_sem] def zdR {o:Nat}{r:ZE}:eS (.ptr i o::r)=none:=rfl
@[go_sem] def zdS {r:ZE}:eS (.map i::r)=none:=rfl
def DS (cs:ZE):Option ZD->I
 | some ds=>.d (.agg ds)
 | none=>.agg cs
@[go_sem] def zdT:bI cs=DS cs (eS cs):=by
 simp only[bI];cases eS cs <;> rfl
@[go_sem] def zdU:DS cs (some ds)=.d (.agg ds):=rfl
@[go_sem] def zdV:DS cs none=.agg cs:=rfl
def wo (g:Nat) (cs:ZE):Option ZD->I
 | some ds=>.d (.fn g ds)
 | none=>.fn g cs
@[go_sem] def Zl:mU g cs=wo g cs (eS cs):=by
 simp only[mU];cases eS cs <;> rfl
@[go_sem] def zdX:wo g cs none=.fn g cs:=rfl
@[go_sem] def Zy:jA []=True:=rfl
@[go_sem] def zdZ {x:I}{r:ZE}:jA (x::r)=(px x/\jA r):=rfl
@[go_sem] def zea {x:D}:px (.d x)=(x.one=true):=rfl
@[go_sem] def Yo {k lo:Nat}:px (.sl i g k lo n)=True:=rfl
@[go_sem] def zec:px (.map i)=True:=rfl
def bE:ZF->Nat->Option R
 | [],_=>none
 | r::_,0=>some r
 | _::l,n+1=>bE l n
def gp : ∀ (H:ZF) (i:Nat),H[i]?=bE H i
 | [],i=>by simp[bE]
 | r::l,0=>by simp[bE]
 | r::l,i+1=>by simpa [bE] using gp l i
def xV (fr:Fr) (H:ZF) (t i g k lo n:Nat):Option R->Option (Prop×Fr×ZF)
 | some (.row g' k' dp l)=>some (g=g'/\k=k'/\dp.shut=true,fr.put (some t) (.d (.lst k ((l.drop lo).take n))),H.set i (.dead g'))
 | _=>none
def yb (fr:Fr) (t:Nat):Option (Prop×ZD×ZF)->Option (Prop×Fr×ZF)
 | some (fc,cs',H')=>some (fc,fr.put (some t) (.d (.agg cs')),H')
 | none=>none
def vo (x:D):Option (Prop×ZD×ZF)->Option (Prop×ZD×ZF)
 | some (c,xs,H')=>some (c,x::xs,H')
 | none=>none
def rB (c0:Prop) (x:D):Option (Prop×ZD×ZF)->Option (Prop×ZD×ZF)
 | some (c,xs,H')=>some (c0/\c,x::xs,H')
 | none=>none
def Al (H:ZF) (i g k lo n:Nat) (r:ZE):Option R->Option (Prop×ZD×ZF)
 | some (.row g' k' dp l)=>rB (g=g'/\k=k'/\dp.shut=true) (.lst k ((l.drop lo).take n)) (kP r (H.set i (.dead g')))
 | _=>none
@[go_sem] def zed:kP [] H=some (True,[],H):=rfl
@[go_sem] def zee {x:D}{r:ZE}:kP (.d x::r) H=vo x (kP r H):=by
 simp only[kP];cases kP r H <;> rfl
@[go_sem] def zef {k lo:Nat}{r:ZE}:kP (.sl i g k lo n::r) H=Al H i g k lo n r (bE H i):=by
 simp only[kP];rw[<-gp];cases H[i]? with
 | none=>rfl
 | some y=>
  cases y <;> rfl
@[go_sem] def zeg {x:D}{c:Prop}:vo x (some (c,xs,H))=some (c,x::xs,H):=rfl
@[go_sem] def zeh {c0:Prop}{x:D}{c:Prop}:rB c0 x (some (c,xs,H))=some (c0/\c,x::xs,H):=rfl
@[go_sem] def SQ {k lo:Nat}{r:ZE}:Al H i g k lo n r (some (.row g' k' dp l))=rB (g=g'/\k=k'/\dp.shut=true) (.lst k ((l.drop lo).take n)) (kP r (H.set i (.dead g'))):=rfl
def th (fr:Fr) (H:ZF) (t:Nat):I->Option (Prop×Fr×ZF)
 | .sl i g k lo n=>xV fr H t i g k lo n (bE H i)
 | .agg cs=>yb fr t (kP cs H)
 | _=>none
@[go_sem] def zej {t:Nat}{c:Prop}{cs:ZD}:yb fr t (some (c,cs,H))=some (c,fr.put (some t) (.d (.agg cs)),H):=rfl
@[go_sem] def zek {t:Nat}:th fr H t (.agg cs)=yb fr t (kP cs H):=rfl
@[go_sem] def Yp {j t:Nat}:rC fr H [(j,.tmp t)]=th fr H t (fr.get t):=by
 simp only[rC];cases fr.get t <;> simp only[th]
 ·rename_i cs;cases kP cs H <;> rfl
 ·rename_i i g k lo n;rw[<-gp];cases H[i]? with
  | none=>rfl
  | some r=>cases r <;> rfl
@[go_sem] def Vu {t k lo:Nat}:th fr H t (.sl i g k lo n)=xV fr H t i g k lo n (bE H i):=rfl
@[go_sem] def WJ {t k lo:Nat}:xV fr H t i g k lo n (some (.row g' k' dp l))=some (g=g'/\k=k'/\dp.shut=true,fr.put (some t) (.d (.lst k ((l.drop lo).take n))),H.set i (.dead g')):=rfl
@[go_sem] def Xl:DP.oV true=.own []:=rfl
@[go_sem] def zep:DP.oV false=.fz:=rfl
@[go_sem] def zeq:(DP.own []).shut=true:=rfl
@[go_sem] def Y6:DP.fz.shut=true:=rfl
@[go_sem] def U8 {hs:List bV}:(DP.own hs).o=true:=rfl
@[go_sem] def zet:DP.fz.o=false:=rfl
@[go_sem] def zeu {r:R}{l:ZF}:bE (r::l) 0=some r:=rfl
@[go_sem] def zev {r:R}{l:ZF}:bE (r::l) (n+1)=bE l n:=rfl
attribute [go_sem] eD kr vI List.nil_append List.set_cons_zero List.set_cons_succ List.drop_succ_cons List.drop_zero List.take_succ_cons List.take_zero List.drop_nil List.take_nil
section draw
variable {K:Fr->Prop}{j:Nat}{want:Bool}
def nc (E:Env) (all rest:List Oper) (H:ZF) (K:Fr->Prop) (fr:Fr) (dst:Option Tmp):Option (Prop×I)->Prop
 | some (vc,x)=>vc/\bh E all H K rest (fr.put dst x)
 | none=>False
def tY (E:Env) (all rest:List Oper) (H:ZF) (K:Fr->Prop) (fr:Fr) (dst:Option Tmp):Option (Prop×Bool)->Option (Prop×I)->Prop
 | some (gc,e),some (vc,x)=>gc/\(e=true->vc)/\bh E all H K rest (fr.put dst (.cond e x))
 | _,_=>False
def Ay (E:Env) (all rest:List Oper) (H:ZF) (K:Fr->Prop) (fr:Fr) (dst:Option Tmp) (c:Prop) (fn:Option (Nat×ZE)) (args:ZE):Option (Prop×Bool)->Prop
 | some (gc,e)=>gc/\qC E c e fn args H (fun x=>bh E all H K rest (fr.put dst (.cond e (.d x))))
 | none=>False
@[go_sem] def TN {x:I}:nc E all rest H K fr dst (some (vc,x))=(vc/\bh E all H K rest (fr.put dst x)):=rfl
@[go_sem] def zex {x:I}:tY E all rest H K fr dst (some (gc,e)) (some (vc,x))=(gc/\(e=true->vc)/\bh E all H K rest (fr.put dst (.cond e x))):=rfl
@[go_sem] def XP {c:Prop}{args:ZE}:Ay E all rest H K fr dst c fn args (some (gc,e))=(gc/\qC E c e fn args H (fun x=>bh E all H K rest (fr.put dst (.cond e (.d x))))):=rfl
def gS {op:Op}{o:Option (Prop×I)}(h1:gz op=none) (h2:dH E.T fr H op=o):bh E all H K (⟨dst,op,ty,pos,af,none⟩::rest) fr=nc E all rest H K fr dst o:=by
 simp only[bh,h1,h2];cases o <;> rfl
def ny {op:Op}{o:Option (Prop×I)}(h1:gz op=none) (h2:dH E.T fr H op=o) :
  bh E all H K (⟨dst,op,ty,pos,af,some (j,want)⟩::rest) fr=tY E all rest H K fr dst (guardOf all fr j want) o:=by
 simp only[bh,h1,h2];cases guardOf all fr j want with
 | none=>rfl
 | some g=>cases o <;> rfl
@[go_sem] def zez:bh E all H K [] fr=K fr:=rfl
@[go_sem] def zeA {g:Operand}{args:List Operand}:bh E all H K (⟨dst,.call ⟨.value g,args.toArray,ts⟩,ty,pos,af,none⟩::rest) fr =
  qC E (aF fr g/\ee fr args) true (fe (aq fr g)) (iw fr args) H (fun x=>bh E all H K rest (fr.put dst (.d x))):=by simp only[bh,gz]
@[go_sem] def Xs {g:Operand}{args:List Operand}:bh E all H K (⟨dst,.call ⟨.value g,args.toArray,ts⟩,ty,pos,af,some (j,want)⟩::rest) fr =
  Ay E all rest H K fr dst (aF fr g/\ee fr args) (fe (aq fr g)) (iw fr args) (guardOf all fr j want):=by
 simp only[bh,gz];cases guardOf all fr j want <;> rfl
@[go_sem] def zeC {T:Nat->Option TI}{l:List Oper}:quiet T l=(dk l&&zn T l):=rfl
@[go_sem] def SW {T:Nat->Option TI}:zn T []=true:=rfl
@[go_sem] def zeE:zM pf []=true:=rfl
@[go_sem] def Zk {T:Nat->Option TI}{op:Op}:zn T (⟨dst,op,ty,pos,af,gd⟩::rest)=(jj T ty op&&zn T rest):=rfl
@[go_sem] def We {op:Op}:zM pf (⟨dst,op,ty,pos,af,gd⟩::rest)=(!jb pf op&&zM pf rest):=rfl
@[go_sem] def ZT {k:IntKind}{a b:Nat}{z:D}:Bn (some ⟨.int k,a,b,z⟩)=true:=rfl
@[go_sem] def zeH {a b:Nat}{z:D}:Bn (some ⟨.bool,a,b,z⟩)=true:=rfl
@[go_sem] def zeI {t:Ty}{a b:Nat}{z:D}(h1 : ∀ k,t=.int k->False) (h2:t=.bool->False):Bn (some ⟨t,a,b,z⟩)=false:=by
 cases t with
 | int k=>exact absurd rfl (fun h=>h1 k h)
 | bool=>exact absurd rfl (fun h=>h2 h)
 | _=>rfl
@[go_sem] def S6 {T:Nat->Option TI}{g:Operand}:jj T ty (.call ⟨.value g,args,ts⟩)=Bn (T ty):=rfl
@[go_sem] def zeK:jb pf (.call ⟨.value (.func g),args,ts⟩)=Ba (pf g):=rfl
@[go_sem] def zeL {g:Tmp}:jb pf (.call ⟨.value (.tmp g),args,ts⟩)=false:=rfl
@[go_sem] def Vz:Ba .own=false:=rfl
@[go_sem] def Xc:Ba .fz=false:=rfl
@[go_sem] def XM:Ba .proc=true:=rfl
@[go_sem] def qs7 {T:Nat->Option TI}{b:Builtin}:jj T ty (.call ⟨.builtin b,args,ts⟩)=true:=rfl
@[go_sem] def qs8 {b:Builtin}:jb pf (.call ⟨.builtin b,args,ts⟩)=false:=rfl
@[go_sem] def zeO {T:Nat->Option TI}:jj T ty (.move x)=true:=rfl
@[go_sem] def zeP:jb pf (.move x)=false:=rfl
@[go_sem] def WN {T:Nat->Option TI}:jj T ty (.assign x)=true:=rfl
@[go_sem] def quK:jb pf (.assign x)=false:=rfl
@[go_sem] def zeQ {T:Nat->Option TI}:jj T ty (.pick c x y)=true:=rfl
@[go_sem] def zeR:jb pf (.pick c x y)=false:=rfl
@[go_sem] def zeS {T:Nat->Option TI}:jj T ty (.build t p)=true:=rfl
@[go_sem] def zeT:jb pf (.build t p)=false:=rfl
@[go_sem] def zeU {T:Nat->Option TI}:jj T ty (.load t x)=true:=rfl
@[go_sem] def Ul:jb pf (.load t x)=false:=rfl
@[go_sem] def qsp {T:Nat->Option TI}:jj T ty (.nilCheck x)=true:=rfl
@[go_sem] def YQ:jb pf (.nilCheck x)=false:=rfl
@[go_sem] def zeW {T:Nat->Option TI}:jj T ty (.binOp op t x y yt)=true:=rfl
@[go_sem] def X0:jb pf (.binOp op t x y yt)=false:=rfl
@[go_sem] def zeY {T:Nat->Option TI}{op:UnOp}:jj T ty (.unOp op t x)=true:=rfl
@[go_sem] def YG {op:UnOp}:jb pf (.unOp op t x)=false:=rfl
@[go_sem] def qs9 {T:Nat->Option TI}:jj T ty (.convert t u x)=true:=rfl
@[go_sem] def qta:jb pf (.convert t u x)=false:=rfl
@[go_sem] def qsr {T:Nat->Option TI}{c:Fn}{b:Array Operand}:jj T ty (.makeFunc c a b)=true:=rfl
@[go_sem] def qss {c:Fn}{b:Array Operand}:jb pf (.makeFunc c a b)=false:=rfl
@[go_sem] def zfa {T:Nat->Option TI}:jj T ty (.slice t x lo hi mx)=true:=rfl
@[go_sem] def zfb:jb pf (.slice t x lo hi mx)=false:=rfl
@[go_sem] def YM {T:Nat->Option TI}:jj T ty (.fieldAddr t x i)=true:=rfl
@[go_sem] def qqG:jb pf (.fieldAddr t x i)=false:=rfl
@[go_sem] def qqH {T:Nat->Option TI}:jj T ty (.indexAddr t x y)=true:=rfl
@[go_sem] def Ww:jb pf (.indexAddr t x y)=false:=rfl
@[go_sem] def Ue {T:Nat->Option TI}:jj T ty (.index t x y)=true:=rfl
@[go_sem] def zfd:jb pf (.index t x y)=false:=rfl
@[go_sem] def qtb {T:Nat->Option TI}:jj T ty (.extract x i)=true:=rfl
@[go_sem] def qtc:jb pf (.extract x i)=false:=rfl
@[go_sem] def quL {T:Nat->Option TI}:jj T ty (.lookup t x y ok)=true:=rfl
@[go_sem] def quM:jb pf (.lookup t x y ok)=false:=rfl
@[go_sem] def qqJ {T:Nat->Option TI}{m:Operand}:jj T ty (.mapUpdate t m x y)=true:=rfl
@[go_sem] def qqK {m:Operand}:jb pf (.mapUpdate t m x y)=false:=rfl
@[go_sem] def X8 {T:Nat->Option TI}:jj T ty (.box t x)=true:=rfl
@[go_sem] def TR:jb pf (.box t x)=false:=rfl
@[go_sem] def zfg {T:Nat->Option TI}:jj T ty (.alloc t)=true:=rfl
@[go_sem] def TQ:jb pf (.alloc t)=false:=rfl
@[go_sem] def qp3 {T:Nat->Option TI}:jj T ty (.buildSlice t n parts)=true:=rfl
@[go_sem] def qp4:jb pf (.buildSlice t n parts)=false:=rfl
@[go_sem] def zfi {T:Nat->Option TI}:jj T ty (.store t x y)=true:=rfl
@[go_sem] def zfj:jb pf (.store t x y)=false:=rfl
@[go_sem] def X3:dk []=true:=rfl
@[go_sem] def WM {g:Operand}{args:List Operand}:dk (⟨dst,.call ⟨.value g,args.toArray,ts⟩,ty,pos,af,gd⟩::rest)=dk rest:=rfl
def LV (E:Env) (c:Prop) (e:Bool) (f:Nat) (K:D->Prop):Option (Prop×ZD)->Prop
 | some (vc,ds)=>(e=true->c/\vc)/\B3 E e f ds K
 | none=>False
@[go_sem] def zfm {c:Prop}{caps args:ZE}{K:D->Prop}:qC E c e (some (g,caps)) args H K=LV E c e g K (mC H (args++caps)):=by
 simp only[qC];cases mC H (args++caps) <;> rfl
@[go_sem] def TS {c:Prop}{K:D->Prop}:LV E c e g K (some (vc,ds))=((e=true->c/\vc)/\B3 E e g ds K):=rfl
def qD {K:D->Prop}{x:D}(h:e=true->Pure E.P g ds x/\eW x) (hk:K x):B3 E e g ds K:=⟨x,h,hk⟩
@[go_sem] def T3:bh E all H K (⟨dst,.move x,ty,pos,af,none⟩::rest) fr=nc E all rest H K fr dst (some (aF fr x,aq fr x)):=gS rfl rfl
@[go_sem] def Ud:bh E all H K (⟨dst,.assign x,ty,pos,af,none⟩::rest) fr=nc E all rest H K fr dst (some (aF fr x,aq fr x)):=gS rfl rfl
@[go_sem] def Wa:bh E all H K (⟨dst,.pick c x y,ty,pos,af,none⟩::rest) fr=nc E all rest H K fr dst (aP (aF fr c) (wW (aq fr c) (aq fr x) (aq fr y) (aF fr x) (aF fr y))):=gS rfl rfl
@[go_sem] def zfr:bh E all H K (⟨dst,.load t x,ty,pos,af,none⟩::rest) fr=nc E all rest H K fr dst (aP (aF fr x) (nE E.T H t (aq fr x))):=gS rfl rfl
@[go_sem] def YA:bh E all H K (⟨dst,.nilCheck x,ty,pos,af,none⟩::rest) fr=nc E all rest H K fr dst (aP (aF fr x) (j8 H (aq fr x))):=gS rfl rfl
@[go_sem] def Xh:bh E all H K (⟨dst,.binOp op t x y yt,ty,pos,af,none⟩::rest) fr=nc E all rest H K fr dst (aP (aF fr x/\aF fr y) (lT E.T H op t (aq fr x) (aq fr y))):=gS rfl rfl
@[go_sem] def Wv {op:UnOp}:bh E all H K (⟨dst,.unOp op t x,ty,pos,af,none⟩::rest) fr=nc E all rest H K fr dst (aP (aF fr x) (w9 op (aq fr x))):=gS rfl rfl
@[go_sem] def YD:bh E all H K (⟨dst,.convert s t x,ty,pos,af,none⟩::rest) fr=nc E all rest H K fr dst (aP (aF fr x) (vu E.T s t (aq fr x))):=gS rfl rfl
@[go_sem] def UN:bh E all H K (⟨dst,.slice t x lo hi mx,ty,pos,af,none⟩::rest) fr=nc E all rest H K fr dst (aP (aF fr x/\rF fr lo/\rF fr hi) (v6 E.T H t (aq fr x) (dU fr lo) (dU fr hi) (dU fr mx))):=gS rfl rfl
@[go_sem] def ZZ:bh E all H K (⟨dst,.fieldAddr t x i,ty,pos,af,none⟩::rest) fr=nc E all rest H K fr dst (aP (aF fr x) (wA E.T H t (aq fr x) i)):=gS rfl rfl
@[go_sem] def quP:bh E all H K (⟨dst,.indexAddr t x y,ty,pos,af,none⟩::rest) fr=nc E all rest H K fr dst (aP (aF fr x/\aF fr y) (tV E.T H t (aq fr x) (aq fr y))):=gS rfl rfl
@[go_sem] def VP:bh E all H K (⟨dst,.lookup t x y ok,ty,pos,af,none⟩::rest) fr=nc E all rest H K fr dst (aP (aF fr x/\aF fr y) (wb E.T H t (aq fr x) (aq fr y) ok)):=gS rfl rfl
@[go_sem] def zfy:bh E all H K (⟨dst,.extract x i,ty,pos,af,none⟩::rest) fr=nc E all rest H K fr dst (aP (aF fr x) (wL (aq fr x) i)):=gS rfl rfl
@[go_sem] def WG:bh E all H K (⟨dst,.call ⟨.builtin .len,#[x],#[t]⟩,ty,pos,af,none⟩::rest) fr=nc E all rest H K fr dst (aP (aF fr x) (dr E.T H t (aq fr x))):=gS rfl rfl
@[go_sem] def zfA:bh E all H K (⟨dst,.move x,ty,pos,af,some (j,want)⟩::rest) fr=tY E all rest H K fr dst (guardOf all fr j want) (some (aF fr x,aq fr x)):=ny rfl rfl
@[go_sem] def zfB:bh E all H K (⟨dst,.pick c x y,ty,pos,af,some (j,want)⟩::rest) fr=tY E all rest H K fr dst (guardOf all fr j want) (aP (aF fr c) (wW (aq fr c) (aq fr x) (aq fr y) (aF fr x) (aF fr y))):=ny rfl rfl
@[go_sem] def zfC:bh E all H K (⟨dst,.load t x,ty,pos,af,some (j,want)⟩::rest) fr=tY E all rest H K fr dst (guardOf all fr j want) (aP (aF fr x) (nE E.T H t (aq fr x))):=ny rfl rfl
@[go_sem] def zfD:bh E all H K (⟨dst,.binOp op t x y yt,ty,pos,af,some (j,want)⟩::rest) fr=tY E all rest H K fr dst (guardOf all fr j want) (aP (aF fr x/\aF fr y) (lT E.T H op t (aq fr x) (aq fr y))):=ny rfl rfl
@[go_sem] def zfE:bh E all H K (⟨dst,.slice t x lo hi mx,ty,pos,af,some (j,want)⟩::rest) fr=tY E all rest H K fr dst (guardOf all fr j want) (aP (aF fr x/\rF fr lo/\rF fr hi) (v6 E.T H t (aq fr x) (dU fr lo) (dU fr hi) (dU fr mx))):=ny rfl rfl
@[go_sem] def qtd:bh E all H K (⟨dst,.indexAddr t x y,ty,pos,af,some (j,want)⟩::rest) fr=tY E all rest H K fr dst (guardOf all fr j want) (aP (aF fr x/\aF fr y) (tV E.T H t (aq fr x) (aq fr y))):=ny rfl rfl
@[go_sem] def Tl:bh E all H K (⟨dst,.call ⟨.builtin .len,#[x],#[t]⟩,ty,pos,af,some (j,want)⟩::rest) fr=tY E all rest H K fr dst (guardOf all fr j want) (aP (aF fr x) (dr E.T H t (aq fr x))):=ny rfl rfl
@[go_sem] def zfG:dk (⟨dst,.move x,ty,pos,af,gd⟩::rest)=dk rest:=rfl
@[go_sem] def YX:dk (⟨dst,.assign x,ty,pos,af,gd⟩::rest)=dk rest:=rfl
@[go_sem] def VS:dk (⟨dst,.pick c x y,ty,pos,af,gd⟩::rest)=dk rest:=rfl
@[go_sem] def UO:dk (⟨dst,.build t parts,ty,pos,af,gd⟩::rest)=dk rest:=rfl
@[go_sem] def VK:dk (⟨dst,.load t x,ty,pos,af,gd⟩::rest)=dk rest:=rfl
@[go_sem] def YC:dk (⟨dst,.nilCheck x,ty,pos,af,gd⟩::rest)=dk rest:=rfl
@[go_sem] def quR:dk (⟨dst,.binOp op t x y yt,ty,pos,af,gd⟩::rest)=dk rest:=rfl
@[go_sem] def Uh {op:UnOp}:dk (⟨dst,.unOp op t x,ty,pos,af,gd⟩::rest)=dk rest:=rfl
@[go_sem] def qst:dk (⟨dst,.convert s t x,ty,pos,af,gd⟩::rest)=dk rest:=rfl
@[go_sem] def quS:dk (⟨dst,.slice t x lo hi mx,ty,pos,af,gd⟩::rest)=dk rest:=rfl
@[go_sem] def qp5:dk (⟨dst,.fieldAddr t x i,ty,pos,af,gd⟩::rest)=dk rest:=rfl
@[go_sem] def qp6:dk (⟨dst,.indexAddr t x y,ty,pos,af,gd⟩::rest)=dk rest:=rfl
@[go_sem] def TP:dk (⟨dst,.index t x y,ty,pos,af,gd⟩::rest)=dk rest:=rfl
@[go_sem] def V6:dk (⟨dst,.extract x i,ty,pos,af,gd⟩::rest)=dk rest:=rfl
@[go_sem] def WS:dk (⟨dst,.call ⟨.builtin .len,#[x],#[t]⟩,ty,pos,af,gd⟩::rest)=dk rest:=rfl
@[go_sem] def V0:dk (⟨dst,.call ⟨.builtin .min,#[x,y],ts⟩,ty,pos,af,gd⟩::rest)=dk rest:=rfl
@[go_sem] def U7:dk (⟨dst,.call ⟨.builtin .max,#[x,y],ts⟩,ty,pos,af,gd⟩::rest)=dk rest:=rfl
@[go_sem] def V4:dk (⟨dst,.lookup t x y ok,ty,pos,af,gd⟩::rest)=dk rest:=rfl
@[go_sem] def UC {m:Operand}:dk (⟨dst,.mapUpdate t m x y,ty,pos,af,gd⟩::rest)=false:=rfl
@[go_sem] def zfN:dk (⟨dst,.box t x,ty,pos,af,gd⟩::rest)=false:=rfl
@[go_sem] def quU:dk (⟨dst,.alloc t,ty,pos,af,gd⟩::rest)=false:=rfl
@[go_sem] def Wh:dk (⟨dst,.buildSlice t n parts,ty,pos,af,gd⟩::rest)=false:=rfl
@[go_sem] def quV:dk (⟨dst,.store t x y,ty,pos,af,gd⟩::rest)=false:=rfl
@[go_sem] def qtg:dk (⟨dst,.call ⟨.builtin .append,#[x,y],#[t,t']⟩,ty,pos,af,gd⟩::rest)=false:=rfl
end draw
end Go.VL
namespace Go.VL
variable {o:Option (Prop×I)}{t e n j a g2 f l0 sz' b':Nat}{p:Nat×Nat}{pd zr iv xd zz:D}{cs:ZE}{h:bV}{vc0 vc:Prop}{m:Bool}{os is:ZC}{xs ds ys:ZD}{es:List (D×D)}{fs:List (Nat×Nat)}{dp:DP}{ix:I}{lo hi:Option I}{d:Int}{op:BinOp}
variable {E:Env}{Q:aT}{fr:Fr}{H:ZF}{T:Nat->Option TI}{ty:Ty}{sz b:Nat}{z:D}
def CS:Bool->Ty->Nat->D->Option (Prop×I)
 | true,_,sz,pd=>some (pd.cR/\sz<=pd.cT.length,.d (.agg (pd.cT.take sz)))
 | false,ty,_,pd=>some (pd.cR/\0<pd.cT.length/\dw ty (pd.cT.getD 0 .nil),.d (bo ty (pd.cT.getD 0 .nil)))
def CI:Option R->Bool->Ty->Nat->Nat->Option (Prop×I)
 | some (.box cs),true,_,sz,off=>some (off+sz<=cs.length/\jA ((cs.drop off).take sz),bI ((cs.drop off).take sz))
 | some (.box cs),false,ty,_,off=>some (off<cs.length/\pU ty (cs.getD off .junk),ct ty (cs.getD off .junk))
 | _,_,_,_,_=>none
def qd (b:Bool) (o:Option (Prop×I)):Option (Prop×I):=
 match b with
 | true=>none
 | false=>o
@[go_sem] def UQ:qd true o=none:=rfl
@[go_sem] def zfP:qd false o=o:=rfl
def qz:Option R->Bool->Ty->Nat->D->Nat->Nat->Nat->Nat->D->Option (Prop×I)
 | some (.row g' k' .fz l),true,_,sz,_,g,k,idx,off,z=>some (g=g'/\k=k'/\idx<l.length/\off+sz<=k,.d (.agg (bY (l.getD idx z) off sz)))
 | some (.row g' k' .fz l),false,ty,sz,_,g,k,idx,off,z=>some (g=g'/\k=k'/\idx<l.length/\off<k/\dw ty ((l.getD idx z).cellAt off),.d (bo ty ((l.getD idx z).cellAt off)))
 | some (.row g' k' (.own []) l),true,_,sz,zr,g,k,idx,off,z=>qd (tM zr) (some (g=g'/\k=k'/\idx<l.length/\off+sz<=k/\∀ c∈bY (l.getD idx z) off sz,c.scalar=true,.d (.agg (bY (l.getD idx z) off sz))))
 | some (.row g' k' (.own hs) l),true,_,sz,zr,g,k,idx,off,z=>qd (tM zr)
   (
    match gW k' hs idx (l.getD idx z) zr.cells off with
    | some (vc,xs)=>some (g=g'/\k=k'/\idx<l.length/\off+sz<=k/\zr.cells.length=sz/\vc/\jA xs,bI xs)
    | none=>none)
 | some (.row g' k' (.own _) l),false,ty,sz,_,g,k,idx,off,z=>qd (im ty) (some (g=g'/\k=k'/\idx<l.length/\off<k/\dw ty ((l.getD idx z).cellAt off),.d (bo ty ((l.getD idx z).cellAt off))))
 | _,_,_,_,_,_,_,_,_,_=>none
def w5:Option TI->ZF->I->Option (Prop×I)
 | some ti,_,.d pd=>CS ti.ty.agg ti.ty ti.size pd
 | some ti,H,.ptr i off=>CI (bE H i) ti.ty.agg ti.ty ti.size off
 | some ti,H,.eptr i g k idx off z=>qz (bE H i) ti.ty.agg ti.ty ti.size ti.zero g k idx off z
 | _,_,_=>none
@[go_sem] def zfQ {p:I}:nE T H t p=w5 (T t) H p:=by
 unfold nE;cases hT:T t with
 | none=>cases p <;> simp only[ma,hT] <;> rfl
 | some ti=>
  cases p with
  | d pd=>simp only[w5,ma,hT];cases ti.ty.agg <;> rfl
  | ptr i off=>
   simp only[w5,ma,hT,<-gp];cases H[i]? with
   | none=>rfl
   | some r=>
    cases r <;> first|rfl|(rename_i cs;cases ti.ty.agg <;> rfl)
  | eptr i g k idx off z=>
   simp only[w5,<-gp];cases hi:H[i]? with
   | none=>simp only[ma,hT,hi];rfl
   | some r=>
    cases r with
    | row g' k' dp l=>
     cases dp with
     | fz=>
      simp only[ma,hT,hi];cases ti.ty.agg <;> rfl
     | own hs=>
      simp only[Ij];cases ha:ti.ty.agg with
      | true=>
       cases hn:tM ti.zero with
       | true=>cases hs <;> simp only[qz,hn,qd]
       | false=>
        cases hs with
        | nil=>simp only[ma,hT,hi,ha,hn,qz,qd]
        | cons x r=>
         simp only[ma,hT,hi,ha,hn,qz,qd];cases gW k' (x::r) idx (l.getD idx z) ti.zero.cells off <;> rfl
      | false=>
       cases hn:im ti.ty with
       | true=>cases hs <;> simp only[qz,hn,qd]
       | false=>cases hs <;> simp only[ma,hT,hi,ha,hn,qz,qd]
    | _=>simp only[ma,hT,hi] <;> rfl
  | _=>simp only[ma,hT] <;> rfl
@[go_sem] def zfR:w5 (some ⟨ty,sz,b,z⟩) H (.d pd)=CS ty.agg ty sz pd:=rfl
@[go_sem] def zfS {i off:Nat}:w5 (some ⟨ty,sz,b,z⟩) H (.ptr i off)=CI (bE H i) ty.agg ty sz off:=rfl
@[go_sem] def SS {i g k idx off:Nat}{z':D}:w5 (some ⟨ty,sz,b,z⟩) H (.eptr i g k idx off z')=qz (bE H i) ty.agg ty sz z g k idx off z':=rfl
@[go_sem] def SZ:CS true ty sz pd=some (pd.cR/\sz<=pd.cT.length,.d (.agg (pd.cT.take sz))):=rfl
@[go_sem] def quW:CS false ty sz pd=some (pd.cR/\0<pd.cT.length/\dw ty (pd.cT.getD 0 .nil),.d (bo ty (pd.cT.getD 0 .nil))):=rfl
@[go_sem] def zfV {off:Nat}:CI (some (.box cs)) true ty sz off=some (off+sz<=cs.length/\jA ((cs.drop off).take sz),bI ((cs.drop off).take sz)):=rfl
@[go_sem] def YS {off:Nat}:CI (some (.box cs)) false ty sz off=some (off<cs.length/\pU ty (cs.getD off .junk),ct ty (cs.getD off .junk)):=rfl
section
variable {g k g' k' idx off:Nat}{l:ZD}{z':D}{kk:IntKind}{hs:List bV}
@[go_sem] def zfW:qz (some (.row g' k' .fz l)) true ty sz z g k idx off z'=some (g=g'/\k=k'/\idx<l.length/\off+sz<=k,.d (.agg (bY (l.getD idx z') off sz))):=rfl
@[go_sem] def Ye:qz (some (.row g' k' (.own []) l)) true ty sz z g k idx off z'=qd (tM z) (some (g=g'/\k=k'/\idx<l.length/\off+sz<=k/\∀ c∈bY (l.getD idx z') off sz,c.scalar=true,.d (.agg (bY (l.getD idx z') off sz)))):=rfl
@[go_sem] def zfY:qz (some (.row g' k' (.own (h::hs)) l)) true ty sz z g k idx off z'=qd (tM z)
   (
    match gW k' (h::hs) idx (l.getD idx z') z.cells off with
    | some (vc,xs)=>some (g=g'/\k=k'/\idx<l.length/\off+sz<=k/\z.cells.length=sz/\vc/\jA xs,bI xs)
    | none=>none):=rfl
@[go_sem] def zfZ:qz (some (.row g' k' .fz l)) false ty sz z g k idx off z'=some (g=g'/\k=k'/\idx<l.length/\off<k/\dw ty ((l.getD idx z').cellAt off),.d (bo ty ((l.getD idx z').cellAt off))):=rfl
@[go_sem] def zga:qz (some (.row g' k' (.own hs) l)) false ty sz z g k idx off z'=qd (im ty) (some (g=g'/\k=k'/\idx<l.length/\off<k/\dw ty ((l.getD idx z').cellAt off),.d (bo ty ((l.getD idx z').cellAt off)))):=by cases hs <;> rfl
@[go_sem] def VN:im (.int kk)=false:=rfl
@[go_sem] def zgc:im .bool=false:=rfl
@[go_sem] def zgd:im (.slice e)=true:=rfl
@[go_sem] def Wu {cs:ZD}:tM (.agg cs)=cs.any D.isNil:=rfl
end
attribute [go_sem] List.any_cons List.any_nil Bool.or_false Bool.false_or Bool.or_true Bool.true_or
@[go_sem] def zgf {k:IntKind}{n:Int}:(D.int k n).isNil=false:=rfl
@[go_sem] def zgg {x:Bool}:(D.bool x).isNil=false:=rfl
section
variable {g k g' k' idx off i:Nat}{l:ZD}{hs:List bV}{x:I}
def wH (vc0:Prop) (H':ZF):Option (Prop×I)->Prop->Option (Prop×I×ZF)
 | some (vc',x),vc=>some (vc0/\vc/\vc',x,H')
 | none,_=>none
def uB (T:Nat->Option TI) (t:Nat) (p:I) (vc0:Prop):Option (Prop×ZF)->Option (Prop×I×ZF)
 | some (vc,H')=>wH vc0 H' (wz T H' t p) vc
 | none=>none
def rI (T:Nat->Option TI) (t:Nat) (p:I) (i idx off:Nat) (z:D) (zr:D) (q:Prop×ZF):Option (Prop×I×ZF):=uB T t p q.1 (oR z i idx (o0 zr.cells off) q.2)
def PW {z':D}(hT:T t=some ⟨ty,sz,b,z⟩):ra T H t (.eptr i g k idx off z')=rI T t (.eptr i g k idx off z') i idx off z' z (shut H):=by
 simp only[ra,hT,rI];cases oR z' i idx (o0 z.cells off) (shut H).2 with
 | none=>rfl
 | some p=>
  obtain⟨vc,H'⟩:=p;simp only[uB];cases wz T H' t (.eptr i g k idx off z') <;> rfl
def At (T:Nat->Option TI) (H:ZF) (t:Nat) (p:I):Option TI->Option (Prop×I×ZF)
 | some ti=>match p with
  | .eptr i g k idx off z=>rI T t (.eptr i g k idx off z) i idx off z ti.zero (shut H)
  | _=>none
 | none=>none
@[go_sem] def zgh {p:I}:ra T H t p=At T H t p (T t):=by
 cases hT:T t with
 | none=>simp only[ra,hT];cases p <;> rfl
 | some ti=>
  obtain⟨ty,sz,b,z⟩:=ti;cases p with
  | eptr i g k idx off z'=>exact PW hT
  | _=>simp only[ra,hT];rfl
@[go_sem] def zgi {z':D}:At T H t (.eptr i g k idx off z') (some ⟨ty,sz,b,z⟩)=rI T t (.eptr i g k idx off z') i idx off z' z (shut H):=rfl
@[go_sem] def XK {p:I}{z':D}:rI T t p i idx off z' zr (vc0,H)=uB T t p vc0 (oR z' i idx (o0 zr.cells off) H):=rfl
@[go_sem] def Ti {p:I}:uB T t p vc0 (some (vc,H))=wH vc0 H (wz T H t p) vc:=rfl
@[go_sem] def zgl {vc':Prop}:wH vc0 H (some (vc',x)) vc=some (vc0/\vc/\vc',x,H):=rfl
@[go_sem] def zgm:o0 [] n=[]:=rfl
@[go_sem] def zgn {r:ZD}:o0 (.nil::r) n=n::o0 r (n+1):=rfl
@[go_sem] def Zn {r:ZD}{k:IntKind}{m:Int}:o0 (.int k m::r) n=o0 r (n+1):=rfl
@[go_sem] def Zb {r:ZD}:o0 (.bool m::r) n=o0 r (n+1):=rfl
@[go_sem] def Xn {z':D}:oR z' i idx [] H=some (True,H):=rfl
def Fk (c:Prop):Option (Prop×ZF)->Option (Prop×ZF)
 | some (vc,H')=>some (c/\vc,H')
 | none=>none
@[go_sem] def zgr {c:Prop}:Fk c (some (vc,H))=some (c/\vc,H):=rfl
def Ev (z:D) (H:ZF) (i idx o:Nat) (os:ZC):Option R->Option (Prop×ZF)
 | some (.row g k (.own hs) l)=>Fk (un ((l.getD idx z).cellAt o)/\apart idx o hs/\o<k/\idx<l.length)
   (oR z i idx os (H.set i (.row g k (.own ((idx,o,.sl H.length 1 (sI ((l.getD idx z).cellAt o)) 0 ((l.getD idx z).cellAt o).elems.length)::hs)) l) ++
     [.row 1 (sI ((l.getD idx z).cellAt o)) (.own []) ((l.getD idx z).cellAt o).elems]))
 | _=>none
@[go_sem] def UF {z':D}{o:Nat}:oR z' i idx (o::os) H=Ev z' H i idx o os (bE H i):=by
 simp only[oR,gp];cases bE H i with
 | none=>rfl
 | some r=>
  cases r with
  | row g k dp l=>
   cases dp with
   | fz=>rfl
   | own hs=>
    simp only[Ev];cases oR z' i idx os (H.set i (.row g k (.own ((idx,o,.sl H.length 1 (sI ((l.getD idx z').cellAt o)) 0 ((l.getD idx z').cellAt o).elems.length)::hs)) l) ++
     [.row 1 (sI ((l.getD idx z').cellAt o)) (.own []) ((l.getD idx z').cellAt o).elems]) <;> rfl
  | _=>rfl
@[go_sem] def zgt {z':D}{o:Nat}:Ev z' H i idx o os (some (.row g k (.own hs) l))=Fk (un ((l.getD idx z').cellAt o)/\apart idx o hs/\o<k/\idx<l.length)
   (oR z' i idx os (H.set i (.row g k (.own ((idx,o,.sl H.length 1 (sI ((l.getD idx z').cellAt o)) 0 ((l.getD idx z').cellAt o).elems.length)::hs)) l) ++
     [.row 1 (sI ((l.getD idx z').cellAt o)) (.own []) ((l.getD idx z').cellAt o).elems])):=rfl
@[go_sem] def zgu {l:ZD}:sI (.lst k l)=k:=rfl
@[go_sem] def zgv {l:ZD}:un (.lst k l)=True:=rfl
@[go_sem] def zgw:apart idx off []=True:=rfl
@[go_sem] def VV:apart idx off (h::hs)=((h.1=idx/\h.2.1≠off)/\apart idx off hs):=rfl
@[go_sem] def zgy:cy k [] j=none:=rfl
@[go_sem] def UY {c:Nat}:cy k ((a,c,x)::hs) j=if a*k+c=j then some x else cy k hs j:=rfl
def FM (ty:Ty) (sz g k g' k' idx off:Nat) (l:ZD) (zr:D):Option (Prop×ZE)->Option (Prop×I)
 | some (vc,xs)=>some (g=g'/\k=k'/\idx<l.length/\off+sz<=k/\zr.cells.length=sz/\vc/\jA xs,bI xs)
 | none=>none
def Gl (ty:Ty) (g k g' k' idx off:Nat) (l:ZD):Option I->Option (Prop×I)
 | some x=>some (g=g'/\k=k'/\idx<l.length/\off<k/\pU ty x,ct ty x)
 | none=>none
def CV (b:Bool) (o:Option (Prop×I)):Option (Prop×I):=
 match b with
 | true=>o
 | false=>none
@[go_sem] def zgA:CV true o=o:=rfl
def zh (ti:TI) (g k idx off:Nat) (z:D):Option R->Bool->Option (Prop×I)
 | some (.row g' k' (.own (h::hs)) l),true=>FM ti.ty ti.size g k g' k' idx off l ti.zero (gW k' (h::hs) idx (l.getD idx z) ti.zero.cells off)
 | some (.row g' k' (.own (h::hs)) l),false=>CV (im ti.ty) (Gl ti.ty g k g' k' idx off l (cy k' (h::hs) (idx*k'+off)))
 | _,_=>none
def ER (H:ZF):Option TI->I->Option (Prop×I)
 | some ti,.eptr i g k idx off z=>zh ti g k idx off z (bE H i) ti.ty.agg
 | _,_=>none
@[go_sem] def zgB {p:I}:wz T H t p=ER H (T t) p:=by
 unfold wz;cases T t with
 | none=>rfl
 | some ti=>
  cases p with
  | eptr i g k idx off z=>
   simp only[ER,<-gp];cases H[i]? with
   | none=>rfl
   | some r=>
    cases r with
    | row g' k' dp l=>
     cases dp with
     | fz=>cases ti.ty.agg <;> rfl
     | own hs=>
      cases hs with
      | nil=>cases ti.ty.agg <;> rfl
      | cons h hs=>
       cases ti.ty.agg with
       | true=>simp only[zh];cases gW k' (h::hs) idx (l.getD idx z) ti.zero.cells off <;> rfl
       | false=>
        simp only[zh];cases im ti.ty with
        | true=>simp only[CV];cases cy k' (h::hs) (idx*k'+off) <;> rfl
        | false=>rfl
    | _=>cases ti.ty.agg <;> rfl
  | _=>rfl
@[go_sem] def zgC {z':D}:ER H (some ⟨ty,sz,b,z⟩) (.eptr i g k idx off z')=zh ⟨ty,sz,b,z⟩ g k idx off z' (bE H i) ty.agg:=rfl
@[go_sem] def Wq {z':D}:zh ⟨ty,sz,b,z⟩ g k idx off z' (some (.row g' k' (.own (h::hs)) l)) true=FM ty sz g k g' k' idx off l z (gW k' (h::hs) idx (l.getD idx z') z.cells off):=rfl
@[go_sem] def WE {z':D}:zh ⟨ty,sz,b,z⟩ g k idx off z' (some (.row g' k' (.own (h::hs)) l)) false=CV (im ty) (Gl ty g k g' k' idx off l (cy k' (h::hs) (idx*k'+off))):=rfl
@[go_sem] def zgF {xs:ZE}:FM ty sz g k g' k' idx off l zr (some (vc,xs))=some (g=g'/\k=k'/\idx<l.length/\off+sz<=k/\zr.cells.length=sz/\vc/\jA xs,bI xs):=rfl
@[go_sem] def VD:Gl ty g k g' k' idx off l (some x)=some (g=g'/\k=k'/\idx<l.length/\off<k/\pU ty x,ct ty x):=rfl
def Ah (x:Option I):Option (Prop×ZE)->Option (Prop×ZE)
 | some (vc,xs)=>match x with
  | some x=>some (vc,x::xs)
  | none=>none
 | none=>none
def wS (c:D):Option (Prop×ZE)->Option (Prop×ZE)
 | some (vc,xs)=>some (c.scalar=true/\vc,.d c::xs)
 | none=>none
@[go_sem] def zgH {xs:ZE}:Ah (some x) (some (vc,xs))=some (vc,x::xs):=rfl
@[go_sem] def Tw {c:D}{xs:ZE}:wS c (some (vc,xs))=some (c.scalar=true/\vc,.d c::xs):=rfl
variable {c:D}{r:ZD}
@[go_sem] def VI:gW k hs idx c [] off=some (True,[]):=rfl
@[go_sem] def zgK:gW k hs idx c (.nil::r) off=Ah (cy k hs (idx*k+off)) (gW k hs idx c r (off+1)):=by
 simp only[gW];cases cy k hs (idx*k+off) <;> cases gW k hs idx c r (off+1) <;> rfl
@[go_sem] def zgL {kk:IntKind}{m:Int}:gW k hs idx c (.int kk m::r) off=wS (c.cellAt off) (gW k hs idx c r (off+1)):=by
 simp only[gW];cases gW k hs idx c r (off+1) <;> rfl
@[go_sem] def Xw:gW k hs idx c (.bool m::r) off=wS (c.cellAt off) (gW k hs idx c r (off+1)):=by
 simp only[gW];cases gW k hs idx c r (off+1) <;> rfl
def tU (H:ZF) (i g k idx off r g' k' n:Nat) (hs:List bV) (l:ZD):Option R->Option (Prop×ZF)
 | some (.row g2 k2 (.own []) es)=>some (g'=g2/\k'=k2/\r≠i/\apart idx off hs/\off<k/\idx<l.length,
    (H.set i (.row g k (.own hs) (dg k l idx off (.lst k' (es.take n))))).set r (.dead g2))
 | _=>none
def lE (H:ZF) (i:Nat):Option R->Option (Prop×ZF)
 | some (.row g k (.own ((idx,off,.sl r g' k' 0 n)::hs)) l)=>tU H i g k idx off r g' k' n hs l (bE H r)
 | _=>none
@[go_sem] def Vw:vC H i=lE H i (bE H i):=by
 unfold vC;rw[gp];split
 ·rename_i g k idx off r g' k' n hs l hi;rw[hi];simp only[lE,gp];split
  ·rename_i hr;rw[hr];rfl
  ·rename_i hr;generalize bE H r=o at hr;rcases o with _|r
   ·rfl
   ·cases r with
    | row g k dp l=>
     rcases dp with _|hs
     ·rfl
     ·cases hs with
      | nil=>exact absurd rfl (hr _ _ _)
      | cons x y=>rfl
    | _=>rfl
 ·rename_i hi;generalize bE H i=o at hi;unfold lE;split
  ·exact absurd rfl (hi _ _ _ _ _ _ _ _ _ _)
  ·rfl
@[go_sem] def zgO {r:Nat}:lE H i (some (.row g k (.own ((idx,off,.sl r g' k' 0 n)::hs)) l))=tU H i g k idx off r g' k' n hs l (bE H r):=rfl
@[go_sem] def XB:lE H i (some (.row g k (.own []) l))=none:=rfl
@[go_sem] def YV:lE H i (some (.row g k .fz l))=none:=rfl
@[go_sem] def S4:lE H i (some (.box cs))=none:=rfl
@[go_sem] def XA:lE H i (some (.dead g))=none:=rfl
@[go_sem] def zgT:lE H i (some (.map es))=none:=rfl
@[go_sem] def UE {r k2:Nat}{es:ZD}:tU H i g k idx off r g' k' n hs l (some (.row g2 k2 (.own []) es))=some (g'=g2/\k'=k2/\r≠i/\apart idx off hs/\off<k/\idx<l.length,
    (H.set i (.row g k (.own hs) (dg k l idx off (.lst k' (es.take n))))).set r (.dead g2)):=rfl
@[go_sem] def zgV {r:Nat}:tU H i g k idx off r g' k' n hs l (some (.dead g2))=none:=rfl
def yC (is:ZC) (H:ZF):Option (Prop×ZF)->Prop×ZF
 | some (vc,H')=>(vc/\(md is H').1,(md is H').2)
 | none=>md is H
@[go_sem] def TV:md [] H=(True,H):=rfl
@[go_sem] def zgX:md (i::is) H=yC is H (vC H i):=by
 simp only[md];cases vC H i <;> rfl
@[go_sem] def zgY:yC is H none=md is H:=rfl
def vZ (c:Prop):Prop×ZF->Prop×ZF
 | (vc,H)=>(c/\vc,H)
@[go_sem] def zgZ {c:Prop}:vZ c (vc,H)=(c/\vc,H):=rfl
@[go_sem] def zha {H':ZF}:yC is H (some (vc,H'))=vZ vc (md is H'):=rfl
@[go_sem] def zhb:nh []=false:=rfl
@[go_sem] def Y3 {H:ZF}:nh (.row g k (.own (h::hs)) l::H)=true:=rfl
@[go_sem] def zhd {H:ZF}:nh (.row g k (.own []) l::H)=nh H:=rfl
@[go_sem] def zhe {H:ZF}:nh (.row g k .fz l::H)=nh H:=rfl
@[go_sem] def zhf {H:ZF}:nh (.box cs::H)=nh H:=rfl
@[go_sem] def V2 {H:ZF}:nh (.dead g::H)=nh H:=rfl
@[go_sem] def X2 {H:ZF}:nh (.map es::H)=nh H:=rfl
@[go_sem] def TA:idxs [] n=[]:=rfl
@[go_sem] def Xz {r:R}{H:ZF}:idxs (r::H) n=n::idxs H (n+1):=rfl
def qI (H:ZF):Bool->Prop×ZF
 | true=>md (idxs H 0++(idxs H 0++(idxs H 0++(idxs H 0++(idxs H 0++idxs H 0))))) H
 | false=>(True,H)
@[go_sem] def ZW:shut H=qI H (nh H):=rfl
@[go_sem] def zhl:qI H true=md (idxs H 0++(idxs H 0++(idxs H 0++(idxs H 0++(idxs H 0++idxs H 0))))) H:=rfl
@[go_sem] def Vb:qI H false=(True,H):=rfl
end
def mg (off:Nat) (fsz:Nat) (H:ZF):I->Option (Prop×I)
 | .d pd=>some (0<fsz/\pd.cR,.d (.ptr (pd.cT.drop off)))
 | .ptr i o=>match bE H i with
  | some (.box _)=>some (0<fsz,.ptr i (o+off))
  | _=>none
 | .eptr i g k idx o z=>match bE H i with
  | some (.row g' k' _ _)=>some (0<fsz/\g=g'/\k=k',.eptr i g k idx (o+off) z)
  | _=>none
 | _=>none
def ub (off:Nat) (H:ZF) (x:I):Option TI->Option (Prop×I)
 | some fi=>mg off fi.size H x
 | none=>none
def uZ (T:Nat->Option TI) (H:ZF) (x:I):Option (Nat×Nat)->Option (Prop×I)
 | some (off,ft)=>ub off H x (T ft)
 | none=>none
def jd:List (Nat×Nat)->Nat->Option (Nat×Nat)
 | [],_=>none
 | p::_,0=>some p
 | _::r,n+1=>jd r n
def DB : ∀ (l:List (Nat×Nat)) (i:Nat),l[i]?=jd l i
 | [],i=>by simp[jd]
 | r::l,0=>by simp[jd]
 | r::l,i+1=>by simpa [jd] using DB l i
def yT (T:Nat->Option TI) (H:ZF) (x:I) (f:Nat):Option TI->Option (Prop×I)
 | some ⟨.struct fs,_,_,_⟩=>uZ T H x (jd fs f)
 | _=>none
@[go_sem] def UU {s:Nat}{x:I}:wA T H s x f=yT T H x f (T s):=by
 unfold wA;cases T s with
 | none=>rfl
 | some ti=>
  obtain⟨ty,sz,b,z⟩:=ti;cases ty with
  | struct fs=>
   simp only[yT,<-DB];cases fs[f]? with
   | none=>rfl
   | some p=>
    obtain⟨off,ft⟩:=p;simp only[uZ];cases T ft with
    | none=>rfl
    | some fi=>
     simp only[ub];cases x <;> simp only[mg,gp] <;> (first|rfl|(split <;> first|rfl|(simp_all;done)|skip))
     all_goals (rename_i hi;rw[hi])
  | _=>rfl
@[go_sem] def ZU {r:List (Nat×Nat)}:jd (p::r) 0=some p:=rfl
@[go_sem] def zho {r:List (Nat×Nat)}:jd (p::r) (n+1)=jd r n:=rfl
@[go_sem] def zhp {x:I}:yT T H x f (some ⟨.struct fs,sz,b,z⟩)=uZ T H x (jd fs f):=rfl
@[go_sem] def Tb {x:I}{off ft:Nat}:uZ T H x (some (off,ft))=ub off H x (T ft):=rfl
@[go_sem] def Vp {x:I}{off:Nat}:ub off H x (some ⟨ty,sz,b,z⟩)=mg off sz H x:=rfl
@[go_sem] def VR {off:Nat}:mg off sz H (.d pd)=some (0<sz/\pd.cR,.d (.ptr (pd.cT.drop off))):=rfl
def Bj:Option R->Bool
 | some (.box _)=>true
 | _=>false
@[go_sem] def Wg:Bj (some (.box cs))=true:=rfl
@[go_sem] def zhu {off i o:Nat}:mg off sz H (.ptr i o)=if Bj (bE H i)=true then some (0<sz,.ptr i (o+off)) else none:=by
 simp only[mg];cases bE H i with
 | none=>rfl
 | some r=>cases r <;> rfl
def jm:Option R->Option (Nat×Nat)
 | some (.row g k _ _)=>some (g,k)
 | _=>none
def AJ (off fsz:Nat) (i g k idx o:Nat) (z:D):Option (Nat×Nat)->Option (Prop×I)
 | some (g',k')=>some (0<fsz/\g=g'/\k=k',.eptr i g k idx (o+off) z)
 | none=>none
@[go_sem] def WZ {g k:Nat}{l:ZD}:jm (some (.row g k dp l))=some (g,k):=rfl
@[go_sem] def zhw {off i g k idx o:Nat}{z':D}:mg off sz H (.eptr i g k idx o z')=AJ off sz i g k idx o z' (jm (bE H i)):=by
 simp only[mg];cases bE H i with
 | none=>rfl
 | some r=>cases r <;> rfl
@[go_sem] def zhx {off i g k idx o g' k':Nat}{z':D}:AJ off sz i g k idx o z' (some (g',k'))=some (0<sz/\g=g'/\k=k',.eptr i g k idx (o+off) z'):=rfl
def pW (esz:Nat) (ez:D) (H:ZF) (iv:D):I->Option (Prop×I)
 | .d xd=>some (xd.dc esz/\iv.isInt .i64/\0<=iv.toInt/\iv.toInt<xd.elems.length,.d (.ptr (bY (xd.elems.getD iv.toInt.toNat ez) 0 esz)))
 | .sl i g k lo n=>match jm (bE H i) with
  | some (g',k')=>some (g=g'/\k=k'/\k=esz/\iv.isInt .i64/\0<=iv.toInt/\iv.toInt<n,.eptr i g k (lo+iv.toInt.toNat) 0 ez)
  | none=>none
 | _=>none
def tJ (esz n:Nat) (H:ZF) (iv:D):I->Option (Prop×I)
 | .d xd=>some (xd.cR/\iv.isInt .i64/\0<=iv.toInt/\iv.toInt<n,.d (.ptr (xd.cT.drop (iv.toInt.toNat*esz))))
 | .ptr i off=>if Bj (bE H i)=true then some (iv.isInt .i64/\0<=iv.toInt/\iv.toInt<n,.ptr i (off+iv.toInt.toNat*esz)) else none
 | .eptr i g k idx o z=>match jm (bE H i) with
  | some (g',k')=>some (g=g'/\k=k'/\iv.isInt .i64/\0<=iv.toInt/\iv.toInt<n,.eptr i g k idx (o+iv.toInt.toNat*esz) z)
  | none=>none
 | _=>none
def uQ (H:ZF) (iv:D) (x:I):Option TI->Option (Prop×I)
 | some ⟨_,sz,_,z⟩=>pW sz z H iv x
 | none=>none
def tb (n:Nat) (H:ZF) (iv:D) (x:I):Option TI->Option (Prop×I)
 | some ⟨_,sz,_,z⟩=>tJ sz n H iv x
 | none=>none
def rM (T:Nat->Option TI) (H:ZF) (x:I):Option TI->I->Option (Prop×I)
 | some ⟨.slice e,_,_,_⟩,.d iv=>uQ H iv x (T e)
 | some ⟨.array n e,_,_,_⟩,.d iv=>tb n H iv x (T e)
 | _,_=>none
@[go_sem] def XL {x:I}:tV T H t x ix=rM T H x (T t) ix:=by
 unfold tV;cases T t with
 | none=>cases ix <;> rfl
 | some ti=>
  obtain⟨ty,sz,b,z⟩:=ti;cases ix with
  | d iv=>
   cases ty with
   | slice e=>
    simp only[rM];cases T e with
    | none=>rfl
    | some ei=>
     obtain⟨ety,esz,eb,ez⟩:=ei;simp only[uQ];cases x <;> simp only[pW,<-gp]
     rename_i i g k lo n;cases H[i]? with
     | none=>rfl
     | some r=>cases r <;> rfl
   | array n e=>
    simp only[rM];cases T e with
    | none=>rfl
    | some ei=>
     obtain⟨ety,esz,eb,ez⟩:=ei;simp only[tb];cases x <;> simp only[tJ,<-gp]
     ·rename_i i off;cases H[i]? with
      | none=>rfl
      | some r=>cases r <;> rfl
     ·rename_i i g k idx o z';cases H[i]? with
      | none=>rfl
      | some r=>cases r <;> rfl
   | _=>rfl
  | _=>cases ty <;> rfl
@[go_sem] def zhy {x:I}:rM T H x (some ⟨.slice e,sz,b,z⟩) (.d iv)=uQ H iv x (T e):=rfl
@[go_sem] def zhz {x:I}:rM T H x (some ⟨.array n e,sz,b,z⟩) (.d iv)=tb n H iv x (T e):=rfl
@[go_sem] def zhA {x:I}:uQ H iv x (some ⟨ty,sz,b,z⟩)=pW sz z H iv x:=rfl
@[go_sem] def XE {x:I}:tb n H iv x (some ⟨ty,sz,b,z⟩)=tJ sz n H iv x:=rfl
@[go_sem] def Xy:pW sz z H iv (.d xd)=some (xd.dc sz/\iv.isInt .i64/\0<=iv.toInt/\iv.toInt<xd.elems.length,.d (.ptr (bY (xd.elems.getD iv.toInt.toNat z) 0 sz))):=rfl
def AQ (esz:Nat) (ez:D) (iv:D) (i g k lo n:Nat):Option (Nat×Nat)->Option (Prop×I)
 | some (g',k')=>some (g=g'/\k=k'/\k=esz/\iv.isInt .i64/\0<=iv.toInt/\iv.toInt<n,.eptr i g k (lo+iv.toInt.toNat) 0 ez)
 | none=>none
@[go_sem] def TE {i g k lo:Nat}:pW sz z H iv (.sl i g k lo n)=AQ sz z iv i g k lo n (jm (bE H i)):=by
 simp only[pW];cases jm (bE H i) <;> rfl
@[go_sem] def zhE {i g k lo g' k':Nat}:AQ sz z iv i g k lo n (some (g',k'))=some (g=g'/\k=k'/\k=sz/\iv.isInt .i64/\0<=iv.toInt/\iv.toInt<n,.eptr i g k (lo+iv.toInt.toNat) 0 z):=rfl
@[go_sem] def Yl {i off:Nat}:tJ sz n H iv (.ptr i off)=if Bj (bE H i)=true then some (iv.isInt .i64/\0<=iv.toInt/\iv.toInt<n,.ptr i (off+iv.toInt.toNat*sz)) else none:=rfl
def y6 (agg:Bool) (ty:Ty) (sz off:Nat):I->Option (Prop×I)
 | .d xd=>match agg with
  | true=>some (off+sz<=xd.cells.length/\xd.one=false/\(∀ n,xd≠.tup n),.d (.agg (bY xd off sz)))
  | false=>some (off<xd.cells.length/\xd.one=false/\(∀ n,xd≠.tup n)/\dw ty (xd.cellAt off),.d (bo ty (xd.cellAt off)))
 | .agg cs=>match agg with
  | true=>some (off+sz<=cs.length/\jA ((cs.drop off).take sz),bI ((cs.drop off).take sz))
  | false=>some (off<cs.length/\pU ty (cs.getD off .junk),ct ty (cs.getD off .junk))
 | _=>none
def QD {ti:TI}{off:Nat}{x:I}:zo ti off x=y6 ti.ty.agg ti.ty ti.size off x:=by
 unfold zo;cases x <;> simp only[y6] <;> cases ti.ty.agg <;> rfl
@[go_sem] def zhG {off:Nat}:y6 false ty sz off (.d xd)=some (off<xd.cells.length/\xd.one=false/\(∀ n,xd≠.tup n)/\dw ty (xd.cellAt off),.d (bo ty (xd.cellAt off))):=rfl
def rX (n:Nat) (iv:D) (x:I):Option TI->Option (Prop×I)
 | some ei=>match y6 ei.ty.agg ei.ty ei.size (iv.toInt.toNat*ei.size) x with
  | some (vc,y)=>some (iv.isInt .i64/\0<=iv.toInt/\iv.toInt<n/\vc,y)
  | none=>none
 | none=>none
def wP (iv:D):I->Option (Prop×I)
 | .d (.raw (.string s))=>some (iv.fb/\0<=iv.toInt/\iv.toInt.toNat<s.size,.d (.int .u8 (sK s iv.toInt.toNat)))
 | _=>none
def tS (T:Nat->Option TI) (x:I):Option TI->I->Option (Prop×I)
 | some ⟨.array n e,_,_,_⟩,.d iv=>rX n iv x (T e)
 | some ⟨.string,_,_,_⟩,.d iv=>wP iv x
 | _,_=>none
@[go_sem] def zhH {s:ByteArray}:wP iv (.d (.raw (.string s)))=some (iv.fb/\0<=iv.toInt/\iv.toInt.toNat<s.size,.d (.int .u8 (sK s iv.toInt.toNat))):=rfl
@[go_sem] def zhI {x:I}:tS T x (some ⟨.string,sz,b,z⟩) (.d iv)=wP iv x:=rfl
@[go_sem] def zhJ {x:I}:zl T t x ix=tS T x (T t) ix:=by
 unfold zl;cases T t with
 | none=>cases ix <;> rfl
 | some ti=>
  obtain⟨ty,sz,b,z⟩:=ti;cases ix with
  | d iv=>
   cases ty with
   | array n e=>
    simp only[tS];cases T e with
    | none=>rfl
    | some ei=>simp only[rX,QD];rfl
   | string=>cases x <;> first|rfl|(rename_i xd;cases xd <;> first|rfl|(rename_i v;cases v <;> rfl))
   | _=>rfl
  | _=>cases ty <;> rfl
@[go_sem] def zhK {x:I}:tS T x (some ⟨.array n e,sz,b,z⟩) (.d iv)=rX n iv x (T e):=rfl
def BD (iv:D) (n:Nat):Option (Prop×I)->Option (Prop×I)
 | some (vc,y)=>some (iv.isInt .i64/\0<=iv.toInt/\iv.toInt<n/\vc,y)
 | none=>none
@[go_sem] def zhL {y:I}:BD iv n (some (vc,y))=some (iv.isInt .i64/\0<=iv.toInt/\iv.toInt<n/\vc,y):=rfl
@[go_sem] def zhM {x:I}:rX n iv x (some ⟨ty,sz,b,z⟩)=BD iv n (y6 ty.agg ty sz (iv.toInt.toNat*sz) x):=by
 simp only[rX];cases y6 ty.agg ty sz (iv.toInt.toNat*sz) x <;> rfl
@[go_sem] def zhN:dt none d=some d:=rfl
@[go_sem] def U0 {x:D}:dt (some (.d x)) d=some x.toInt:=rfl
@[go_sem] def Tx:bL none=True:=rfl
@[go_sem] def Z9 {x:D}:bL (some (.d x))=x.isInt .i64:=rfl
def vg (esz:Nat) (xd:D) (c:Prop):Option Int->Option Int->Option (Prop×I)
 | some l,some h=>some (xd.dc esz/\c/\0<esz/\0<=l/\l<=h/\h<=xd.elems.length,.d (z3 esz xd l h))
 | _,_=>none
def tw (esz:Nat) (i g k l0 n:Nat) (c:Prop):Option (Nat×Nat)->Option Int->Option Int->Option (Prop×I)
 | some (g',k'),some l,some h=>some (g=g'/\k=k'/\k=esz/\c/\0<=l/\l<=h/\h<=n,.sl i g k (l0+l.toNat) (h-l).toNat)
 | _,_,_=>none
def qL (esz:Nat) (H:ZF) (lo hi:Option I):I->Option (Prop×I)
 | .d xd=>vg esz xd (bL lo/\bL hi) (dt lo 0) (dt hi xd.elems.length)
 | .sl i g k l0 n=>tw esz i g k l0 n (bL lo/\bL hi) (jm (bE H i)) (dt lo 0) (dt hi n)
 | _=>none
def u0 (H:ZF) (lo hi:Option I) (x:I):Option TI->Option (Prop×I)
 | some ei=>qL ei.size H lo hi x
 | none=>none
def yy (T:Nat->Option TI) (H:ZF) (lo hi:Option I) (x:I):Option TI->Option I->Option (Prop×I)
 | some ⟨.slice e,_,_,_⟩,none=>u0 H lo hi x (T e)
 | _,_=>none
@[go_sem] def XS {x:I}{mx:Option I}:v6 T H t x lo hi mx=yy T H lo hi x (T t) mx:=by
 unfold v6;cases T t with
 | none=>cases mx <;> rfl
 | some ti=>
  obtain⟨ty,sz,b,z⟩:=ti;cases mx with
  | some m=>cases ty <;> rfl
  | none=>
   cases ty with
   | slice e=>
    simp only[yy];cases T e with
    | none=>rfl
    | some ei=>
     simp only[u0];cases x <;> simp only[qL,<-gp]
     ·rename_i xd;cases dt lo 0 <;> cases dt hi xd.elems.length <;> simp only[vg,and_assoc]
     ·rename_i i g k l0 n;cases H[i]? with
      | none=>cases dt lo 0 <;> cases dt hi n <;> rfl
      | some r=>
       cases r <;> cases dt lo 0 <;> cases dt hi n <;> simp only[jm,tw,and_assoc]
   | _=>rfl
@[go_sem] def zhS {x:I}:yy T H lo hi x (some ⟨.slice e,sz,b,z⟩) none=u0 H lo hi x (T e):=rfl
@[go_sem] def zhT {x:I}:u0 H lo hi x (some ⟨ty,sz,b,z⟩)=qL sz H lo hi x:=rfl
@[go_sem] def zhU:qL sz H lo hi (.d xd)=vg sz xd (bL lo/\bL hi) (dt lo 0) (dt hi xd.elems.length):=rfl
@[go_sem] def zhV {i g k:Nat}:qL sz H lo hi (.sl i g k l0 n)=tw sz i g k l0 n (bL lo/\bL hi) (jm (bE H i)) (dt lo 0) (dt hi n):=rfl
@[go_sem] def zhW {k:Nat}{l h:Int}:z3 k .nil l h=.nil:=rfl
@[go_sem] def zhX {k k':Nat}{L:ZD}{l h:Int}:z3 k (.lst k' L) l h=.lst k ((L.drop l.toNat).take (h-l).toNat):=rfl
@[go_sem] def zhY {c:Prop}{l h:Int}:vg sz xd c (some l) (some h)=some (xd.dc sz/\c/\0<sz/\0<=l/\l<=h/\h<=xd.elems.length,.d (z3 sz xd l h)):=rfl
@[go_sem] def YZ {i g k g' k':Nat}{c:Prop}{l h:Int}:tw sz i g k l0 n c (some (g',k')) (some l) (some h)=some (g=g'/\k=k'/\k=sz/\c/\0<=l/\l<=h/\h<=n,.sl i g k (l0+l.toNat) (h-l).toNat):=rfl
def AT (x y:Int):Bool:=decide (x=y)
def As (x y:Int):Bool:=decide (x<y)
def BI (x y:Int):Bool:=decide (x<=y)
@[go_sem] def UX {x y:Int}:AT x y=decide (x=y):=rfl
@[go_sem] def zib {x y:Int}:As x y=decide (x<y):=rfl
@[go_sem] def zic {x y:Int}:BI x y=decide (x<=y):=rfl
def sh (c x y:Bool):Bool:=if c=true then x else y
@[go_sem] def zid {c y:Bool}:sh c true y=(c || y):=by cases c <;> rfl
@[go_sem] def U3 {c x:Bool}:sh c x false=(c&&x):=by cases c <;> rfl
def wJ (x y:Int):Int:=if y<x then y else x
def xu (x y:Int):Int:=if x<y then y else x
@[go_sem] def Vg {x y:Int}:wJ x y=min x y:=by unfold wJ;omega
@[go_sem] def zig {x y:Int}:xu x y=max x y:=by unfold xu;omega
def mf (op:BinOp) (k:IntKind) (x y:D):Option (Prop×I):=
 match op with
 | .add=>some (x.isInt k/\y.isInt k/\cp k (x.toInt+y.toInt),.d (.int k (x.toInt+y.toInt)))
 | .sub=>some (x.isInt k/\y.isInt k/\cp k (x.toInt-y.toInt),.d (.int k (x.toInt-y.toInt)))
 | .mul=>some (x.isInt k/\y.isInt k/\cp k (x.toInt*y.toInt),.d (.int k (x.toInt*y.toInt)))
 | .quo=>some (x.isInt k/\y.isInt k/\0<=x.toInt/\0<y.toInt,.d (.int k (x.toInt/y.toInt)))
 | .rem=>some (x.isInt k/\y.isInt k/\0<y.toInt,.d (.int k (jn x.toInt y.toInt)))
 | .and=>some (x.isInt k/\y.isInt k/\0<=x.toInt/\0<=y.toInt,.d (.int k ((x.toInt.toNat &&& y.toInt.toNat:Nat):Int)))
 | .or=>some (x.isInt k/\y.isInt k/\0<=x.toInt/\0<=y.toInt,.d (.int k ((x.toInt.toNat ||| y.toInt.toNat:Nat):Int)))
 | .xor=>some (x.isInt k/\y.isInt k/\0<=x.toInt/\0<=y.toInt,.d (.int k ((x.toInt.toNat ^^^ y.toInt.toNat:Nat):Int)))
 | .shl=>some (x.isInt k/\y.fb/\0<=y.toInt/\y.toInt<=k.bits/\cp k (x.toInt*2 ^ y.toInt.toNat),.d (.int k (x.toInt*2 ^ y.toInt.toNat)))
 | .shr=>some (x.isInt k/\y.fb/\0<=y.toInt/\y.toInt<=k.bits,.d (.int k (x.toInt/2 ^ y.toInt.toNat)))
 | .eql=>some (x.isInt k/\y.isInt k,.d (.bool (AT x.toInt y.toInt)))
 | .neq=>some (x.isInt k/\y.isInt k,.d (.bool (!AT x.toInt y.toInt)))
 | .lss=>some (x.isInt k/\y.isInt k,.d (.bool (As x.toInt y.toInt)))
 | .leq=>some (x.isInt k/\y.isInt k,.d (.bool (BI x.toInt y.toInt)))
 | .gtr=>some (x.isInt k/\y.isInt k,.d (.bool (As y.toInt x.toInt)))
 | .geq=>some (x.isInt k/\y.isInt k,.d (.bool (BI y.toInt x.toInt)))
 | _=>none
def E4 (op:BinOp) (x y:D):Option (Prop×I):=
 match op with
 | .eql=>some (x.isBool/\y.isBool,.d (.bool (x.toBool == y.toBool)))
 | .neq=>some (x.isBool/\y.isBool,.d (.bool (!(x.toBool == y.toBool))))
 | _=>none
def Fl (op:BinOp) (x:D):Option (Prop×I):=
 match op with
 | .eql=>some (x.gT/\(x=.nil∨x.elems≠[]),.d (.bool x.isNil))
 | .neq=>some (x.gT/\(x=.nil∨x.elems≠[]),.d (.bool (!x.isNil)))
 | _=>none
def Sy (op:BinOp) (g k n:Nat):Option (Nat×Nat)->Option (Prop×I)
 | some (g',k')=>match op with
  | .eql=>some (g=g'/\k=k'/\0<n,.d (.bool false))
  | .neq=>some (g=g'/\k=k'/\0<n,.d (.bool true))
  | _=>none
 | none=>none
def Fp (T:Nat->Option TI) (fs:List (Nat×Nat)) (cs ds:ZD):BinOp->Option (Prop×I)
 | .eql=>some (cs.length=fs.length/\ds.length=fs.length/\mr T 0 fs cs ds,.d (.bool (qj T fs cs ds)))
 | .neq=>some (cs.length=fs.length/\ds.length=fs.length/\mr T 0 fs cs ds,.d (.bool (!(qj T fs cs ds))))
 | _=>none
@[go_sem] def zih {k:IntKind}{n:Int}:(D.int k n).fb=True:=rfl
def C7 (a b:ByteArray):BinOp->Option (Prop×I)
 | .eql=>some (True,.d (.bool (a.toList == b.toList)))
 | .neq=>some (True,.d (.bool (!(a.toList == b.toList))))
 | _=>none
@[go_sem] def Xa {a b:ByteArray}:C7 a b .eql=some (True,.d (.bool (a.toList == b.toList))):=rfl
@[go_sem] def zij {a b:ByteArray}:C7 a b .neq=some (True,.d (.bool (!(a.toList == b.toList)))):=rfl
def ou (T:Nat->Option TI) (H:ZF) (op:BinOp) (x y:I):Option TI->Option (Prop×I)
 | some ⟨.int k,_,_,_⟩=>match x,y with
  | .d x,.d y=>mf op k x y
  | _,_=>none
 | some ⟨.bool,_,_,_⟩=>match x,y with
  | .d x,.d y=>E4 op x y
  | _,_=>none
 | some ⟨.slice _,_,_,_⟩=>match x,y with
  | .d x,.d .nil=>Fl op x
  | .sl i g k lo n,.d .nil=>Sy op g k n (jm (bE H i))
  | _,_=>none
 | some ⟨.struct fs,_,_,_⟩=>match x,y with
  | .d (.agg cs),.d (.agg ds)=>Fp T fs cs ds op
  | _,_=>none
 | some ⟨.string,_,_,_⟩=>match x,y with
  | .d (.raw (.string a)),.d (.raw (.string b))=>C7 a b op
  | _,_=>none
 | _=>none
@[go_sem] def V1 {x y:I}:lT T H op t x y=ou T H op x y (T t):=by
 unfold lT;cases T t with
 | none=>rfl
 | some ti=>
  obtain⟨ty,sz,b,z⟩:=ti;cases ty with
  | int k=>cases x <;> cases y <;> rfl
  | bool=>cases x <;> cases y <;> rfl
  | slice e=>
   cases x <;> cases y <;> first
    | rfl
    | (rename_i yd;cases yd <;> first|rfl|skip)
   rename_i i g k lo n;simp only[ou,<-gp];cases H[i]? with
   | none=>rfl
   | some r=>cases r <;> rfl
  | struct fs=>
   cases x with
   | d xd=>
    cases y with
    | d yd=>cases xd <;> cases yd <;> first|rfl|(cases op <;> rfl)
    | _=>cases xd <;> rfl
   | _=>cases y <;> first|rfl|(rename_i yd;cases yd <;> rfl)
  | string=>
   cases x with
   | d xd=>
    cases y with
    | d yd=>
     cases xd with
     | raw v=>
      cases v with
      | string a=>
       cases yd with
       | raw u=>
        cases u with
        | string c=>cases op <;> rfl
        | _=>rfl
       | _=>rfl
      | _=>rfl
     | _=>rfl
    | _=>
     cases xd with
     | raw v=>cases v <;> rfl
     | _=>rfl
   | _=>cases y <;> rfl
  | _=>rfl
@[go_sem] def zil {cs:ZD}:ou T H op (.d (.agg cs)) (.d (.agg ds)) (some ⟨.struct fs,sz,b,z⟩)=Fp T fs cs ds op:=rfl
@[go_sem] def zim {cs:ZD}:Fp T fs cs ds .neq=some (cs.length=fs.length/\ds.length=fs.length/\mr T 0 fs cs ds,.d (.bool (!(qj T fs cs ds)))):=rfl
@[go_sem] def Zc:su T j []=True:=rfl
@[go_sem] def ZJ {o:Nat}{r:List (Nat×Nat)}:su T j ((o,t)::r)=(o=j/\qY (T t)=true/\su T (j+1) r):=rfl
@[go_sem] def zip {c:Nat}:qY (some ⟨.int .i64,a,c,zz⟩)=true:=rfl
@[go_sem] def ziq:mr T j [] xs ys=True:=by simp only[mr]
@[go_sem] def zir {o:Nat}{r:List (Nat×Nat)}{x y:D}:mr T j ((o,t)::r) (x::xs) (y::ys)=(o=j/\qh (T t) x y/\mr T (j+1) r xs ys):=rfl
@[go_sem] def U9 {c:Nat}{x y:D}:qh (some ⟨.int .i64,a,c,zz⟩) x y=(x.isInt .i64/\y.isInt .i64):=rfl
@[go_sem] def zit {c:Nat}{x y:D}:qh (some ⟨.bool,a,c,zz⟩) x y=(x.isBool/\y.isBool):=rfl
@[go_sem] def Ua:qj T [] xs ys=true:=by simp only[qj]
@[go_sem] def ziv {o:Nat}{r:List (Nat×Nat)}{x y:D}:qj T ((o,t)::r) (x::xs) (y::ys)=(qe (T t) x y&&qj T r xs ys):=rfl
@[go_sem] def ziw {c:Nat}{x y:D}:qe (some ⟨.int .i64,a,c,zz⟩) x y=decide (x.toInt=y.toInt):=rfl
@[go_sem] def Yi {c:Nat}{x y:D}:qe (some ⟨.bool,a,c,zz⟩) x y=(x.toBool == y.toBool):=rfl
@[go_sem] def quY:bu []=True:=rfl
@[go_sem] def qtl {x:D}{r:ZD}:bu (x::r)=(x.isInt .i64/\bu r):=rfl
@[go_sem] def ziy {k:IntKind}{x y:D}:ou T H op (.d x) (.d y) (some ⟨.int k,sz,b,z⟩)=mf op k x y:=rfl
@[go_sem] def ziz {x y:D}:ou T H op (.d x) (.d y) (some ⟨.bool,sz,b,z⟩)=E4 op x y:=rfl
@[go_sem] def Tk {x:D}:ou T H op (.d x) (.d .nil) (some ⟨.slice e,sz,b,z⟩)=Fl op x:=rfl
section
variable {k:IntKind}{x y:D}
@[go_sem] def ziB:mf .add k x y=some (x.isInt k/\y.isInt k/\cp k (x.toInt+y.toInt),.d (.int k (x.toInt+y.toInt))):=rfl
@[go_sem] def ziC:mf .sub k x y=some (x.isInt k/\y.isInt k/\cp k (x.toInt-y.toInt),.d (.int k (x.toInt-y.toInt))):=rfl
@[go_sem] def ziD:mf .mul k x y=some (x.isInt k/\y.isInt k/\cp k (x.toInt*y.toInt),.d (.int k (x.toInt*y.toInt))):=rfl
@[go_sem] def WV:mf .quo k x y=some (x.isInt k/\y.isInt k/\0<=x.toInt/\0<y.toInt,.d (.int k (x.toInt/y.toInt))):=rfl
@[go_sem] def ziF:mf .rem k x y=some (x.isInt k/\y.isInt k/\0<y.toInt,.d (.int k (jn x.toInt y.toInt))):=rfl
@[go_sem] def ziG:mf .and k x y=some (x.isInt k/\y.isInt k/\0<=x.toInt/\0<=y.toInt,.d (.int k ((x.toInt.toNat &&& y.toInt.toNat:Nat):Int))):=rfl
@[go_sem] def XO:mf .or k x y=some (x.isInt k/\y.isInt k/\0<=x.toInt/\0<=y.toInt,.d (.int k ((x.toInt.toNat ||| y.toInt.toNat:Nat):Int))):=rfl
@[go_sem] def T4:mf .xor k x y=some (x.isInt k/\y.isInt k/\0<=x.toInt/\0<=y.toInt,.d (.int k ((x.toInt.toNat ^^^ y.toInt.toNat:Nat):Int))):=rfl
@[go_sem] def Tj:mf .shl k x y=some (x.isInt k/\y.fb/\0<=y.toInt/\y.toInt<=k.bits/\cp k (x.toInt*2 ^ y.toInt.toNat),.d (.int k (x.toInt*2 ^ y.toInt.toNat))):=rfl
@[go_sem] def ziK:mf .shr k x y=some (x.isInt k/\y.fb/\0<=y.toInt/\y.toInt<=k.bits,.d (.int k (x.toInt/2 ^ y.toInt.toNat))):=rfl
@[go_sem] def YP:mf .eql k x y=some (x.isInt k/\y.isInt k,.d (.bool (AT x.toInt y.toInt))):=rfl
@[go_sem] def Vm:mf .neq k x y=some (x.isInt k/\y.isInt k,.d (.bool (!AT x.toInt y.toInt))):=rfl
@[go_sem] def Y0:mf .lss k x y=some (x.isInt k/\y.isInt k,.d (.bool (As x.toInt y.toInt))):=rfl
@[go_sem] def ziO:mf .leq k x y=some (x.isInt k/\y.isInt k,.d (.bool (BI x.toInt y.toInt))):=rfl
@[go_sem] def YL:mf .gtr k x y=some (x.isInt k/\y.isInt k,.d (.bool (As y.toInt x.toInt))):=rfl
@[go_sem] def Z5:mf .geq k x y=some (x.isInt k/\y.isInt k,.d (.bool (BI y.toInt x.toInt))):=rfl
@[go_sem] def ziR:E4 .neq x y=some (x.isBool/\y.isBool,.d (.bool (!(x.toBool == y.toBool)))):=rfl
@[go_sem] def ziS:Fl .eql x=some (x.gT/\(x=.nil∨x.elems≠[]),.d (.bool x.isNil)):=rfl
end
@[go_sem] def ziT {x:D}:w9 .not (.d x)=some (x.isBool,.d (.bool (!x.toBool))):=rfl
@[go_sem] def ziU {x y:D}:vq .min (.d x) (.d y)=some (x.isInt .i64/\y.isInt .i64,.d (.int .i64 (wJ x.toInt y.toInt))):=rfl
@[go_sem] def ziV {x y:D}:vq .max (.d x) (.d y)=some (x.isInt .i64/\y.isInt .i64,.d (.int .i64 (xu x.toInt y.toInt))):=rfl
@[go_sem] def Yd {vs:ZE}:wL (.tup vs) j=some (j<vs.length,vs.getD j .junk):=rfl
@[go_sem] def ziW {x:D}:wL (.d x) j=some (x.oI x.iJ/\j<x.iJ,.d (x.rg j)):=rfl
@[go_sem] def ziX {c x y:D}{ca cb:Prop}:wW (.d c) (.d x) (.d y) ca cb=some (c.isBool/\(c.toBool=true->ca/\x.isBool)/\(c.toBool=false->cb/\y.isBool),.d (.bool (sh c.toBool x.toBool y.toBool))):=rfl
@[go_sem] def ziY {x:D}:j8 H (.d x)=some (x.cR,.d x):=rfl
@[go_sem] def VA {i o:Nat}:j8 H (.ptr i o)=if Bj (bE H i)=true then some (True,.ptr i o) else none:=by
 simp only[j8,gp];cases bE H i with
 | none=>rfl
 | some r=>cases r <;> rfl
def v5 (x:I) (g k:Nat):Option R->Option (Prop×I)
 | some (.row g' k' _ _)=>some (g'=g/\k'=k,x)
 | _=>none
@[go_sem] def zja {x:I}{g k g' k':Nat}{l:ZD}:v5 x g k (some (.row g' k' dp l))=some (g'=g/\k'=k,x):=rfl
@[go_sem] def Wx {i g k idx off:Nat}{z:D}:j8 H (.eptr i g k idx off z)=v5 (.eptr i g k idx off z) g k (bE H i):=by
 simp only[j8,gp];cases bE H i with
 | none=>rfl
 | some r=>cases r <;> rfl
def DE (x:D):Option TI->Option (Prop×I)
 | some ⟨.int .u8,_,_,_⟩=>some (rL x,.d (.raw (.string (ku (mS x)))))
 | _=>none
def rj (T:Nat->Option TI) (x:I):Option TI->Option TI->Option (Prop×I)
 | some ⟨.int k,_,_,_⟩,some ⟨.int k',_,_,_⟩=>match x with
  | .d xd=>some (xd.isInt k/\wC k' xd.toInt,.d (.int k' (ss k' xd.toInt)))
  | _=>none
 | some ⟨.slice e,_,_,_⟩,some ⟨.string,_,_,_⟩=>match x with
  | .d xd=>DE xd (T e)
  | _=>none
 | _,_=>none
def N1 {x:D}:B2 T e x=DE x (T e):=by
 unfold B2;cases T e with
 | none=>rfl
 | some ei=>
  obtain⟨ty,sz,b,z⟩:=ei;cases ty with
  | int k=>cases k <;> rfl
  | _=>rfl
@[go_sem] def zjc {s d:Nat}{x:I}:vu T s d x=rj T x (T s) (T d):=by
 unfold vu;cases T s with
 | none=>cases T d <;> cases x <;> rfl
 | some si=>
  obtain⟨ty,sz,b,z⟩:=si;cases T d with
  | none=>cases ty <;> cases x <;> rfl
  | some di=>
   obtain⟨ty',sz',b',z'⟩:=di;cases ty <;> cases ty' <;> cases x <;> first|rfl|exact N1
@[go_sem] def Vx {x:D}{sz b:Nat}{z:D}:DE x (some ⟨.int .u8,sz,b,z⟩)=some (rL x,.d (.raw (.string (ku (mS x))))):=rfl
@[go_sem] def zje {z':D}:rj T (.d xd) (some ⟨.slice e,sz,b,z⟩) (some ⟨.string,sz',b',z'⟩)=DE xd (T e):=rfl
@[go_sem] def zjf {k k':IntKind}{z':D}:rj T (.d xd) (some ⟨.int k,sz,b,z⟩) (some ⟨.int k',sz',b',z'⟩)=some (xd.isInt k/\wC k' xd.toInt,.d (.int k' (ss k' xd.toInt))):=rfl
@[go_sem] def Wd {n:Int}:wC .i64 n=cp .i64 n:=rfl
@[go_sem] def WT {n:Int}:ss .i64 n=n:=rfl
@[go_sem] def zji {n:Int}:wC .u8 n=True:=rfl
@[go_sem] def zjj {n:Int}:ss .u8 n=n%256:=rfl
@[go_sem] def US {n:Int}:wC .u64 n=cp .u64 n:=rfl
@[go_sem] def Xk {n:Int}:ss .u64 n=n:=rfl
def AK (x:I):Option TI->Option (Prop×I)
 | some ⟨.slice _,_,_,_⟩=>match x with
  | .d .nil=>some (True,.d (.int .i64 0))
  | _=>none
 | _=>none
@[go_sem] def YI {x:I}:ie T t x=AK x (T t):=by
 unfold ie;cases T t with
 | none=>rfl
 | some ti=>
  obtain⟨ty,sz,b,z⟩:=ti;cases ty <;> cases x <;> first|rfl|(rename_i xd;cases xd <;> rfl)
@[go_sem] def zjn:AK (.d .nil) (some ⟨.slice e,sz,b,z⟩)=some (True,.d (.int .i64 0)):=rfl
def qS (g k n:Nat):Option (Nat×Nat)->Option (Prop×I)
 | some (g',k')=>some (g=g'/\k=k',.d (.int .i64 (n:Nat)))
 | none=>none
def vf (H:ZF) (x:I):Option TI->Option (Prop×I)
 | some ⟨.slice _,_,_,_⟩=>match x with
  | .d xd=>some (xd.gT,.d (.int .i64 (xd.elems.length:Nat)))
  | .sl i g k lo n=>qS g k n (jm (bE H i))
  | _=>none
 | some ⟨.array n _,_,_,_⟩=>some (cp .i64 n,.d (.int .i64 (n:Nat)))
 | _=>none
@[go_sem] def zjo {x:I}:dr T H t x=vf H x (T t):=by
 unfold dr;cases T t with
 | none=>rfl
 | some ti=>
  obtain⟨ty,sz,b,z⟩:=ti;cases ty with
  | slice e=>
   cases x <;> simp only[vf,<-gp]
   rename_i i g k lo n;cases H[i]? with
   | none=>rfl
   | some r=>cases r <;> rfl
  | _=>rfl
@[go_sem] def zjp:vf H (.d xd) (some ⟨.slice e,sz,b,z⟩)=some (xd.gT,.d (.int .i64 (xd.elems.length:Nat))):=rfl
@[go_sem] def zjq {i g k lo:Nat}:vf H (.sl i g k lo n) (some ⟨.slice e,sz,b,z⟩)=qS g k n (jm (bE H i)):=rfl
@[go_sem] def Wn {g k g' k':Nat}:qS g k n (some (g',k'))=some (g=g'/\k=k',.d (.int .i64 (n:Nat))):=rfl
end Go.VL

/- Part 20: the rewriting rules by which the machine runs. Conditions: none; lemmas. -/
import Derived.Test.YteikeianenfhaaaGreatVM4
import Derived.Attr
set_option linter.unusedVariables false
set_option linter.unusedSimpArgs false
set_option maxHeartbeats 2000000
namespace Go.VL
set_option linter.defProp false
variable {c x y:Operand}{ops:Array Oper}{r:List (Nat×Operand)}{e b ok:Bool}{vc gc fc:Prop}{fn:Option (Nat×List I)}{args a:Array Operand}{op:BinOp}{o o2:Option (Prop×I×List R)}{z:Option (Prop×Fr×List R)}{k:Fr->List R->Option (Prop×I×List R)}{deep:fL}{t yt s t' u:TypeId}{n i g k' g':Nat}{cs:List I}{lo hi mx:Option Operand}{parts p:Array (Nat×Operand)}{ts:Array TypeId}{m:List (Nat×I)}{α:Type}{l xs ds:List D}{dp:DP}{pf:Nat->Kind}{gd:Option (Nat×Bool)}
variable {E:Env}{Q:aX}{fr:Fr}{H:List R}{f:Nat}{ks:List Item}{all rest:List Oper}{dst:Option Tmp}{ty:TypeId}{pos:String}{af:Array Edge}{T:Nat->Option TI}
@[go_sem] def W8:exec E (f+1) [] Q fr H=Q .normal fr H:=by simp only[exec]
@[go_sem] def RG {id:Nat}:exec E (f+1) (.blk id::ks) Q fr H=exec E f ks Q fr H:=by simp only[exec]
@[go_sem] def Wv {c:Code}:exec E (f+1) (.code c::ks) Q fr H=ct E f c ks Q fr H:=by simp only[exec]
@[go_sem] def UX:ct E (f+1) .skip ks Q fr H=exec E f ks Q fr H:=by simp only[ct]
@[go_sem] def SE {x y:Code}:ct E (f+1) (.seq x y) ks Q fr H=ct E f x (.code y::ks) Q fr H:=by simp only[ct]
@[go_sem] def zaf {id:Nat}{x:Code}:ct E (f+1) (.block id x) ks Q fr H=ct E f x (.blk id::ks) Q fr H:=by simp only[ct]
@[go_sem] def zag {id:Nat}:ct E (f+1) (.exit id) ks Q fr H=gw E f (iR id ks) id ks Q fr H:=by simp only[ct]
@[go_sem] def VG:ct E (f+1) .ret ks Q fr H=Q .ret fr H:=by simp only[ct]
@[go_sem] def zai {x y:Code}:ct E (f+1) (.cond c x y) ks Q fr H=vC E f (ev fr c) x y ks Q fr H:=by simp only[ct]
@[go_sem] def Pv {id:Nat}:ct E (f+1) (.region id ops false) ks Q fr H=an E f ops.toList ops.toList ks Q fr H:=by simp only[ct]
@[go_sem] def TH {id:Nat}:ct E (f+1) (.region id ops true) ks Q fr H=(if(quiet E.T ops.toList&&xx E.pf ops.toList)=true then E.P.follows .mixedOrders=true/\Region.lexB .any ops=true/\bg E ops.toList H (fun fr'=>exec E f ks Q fr' H) ops.toList fr else cJ E.P E.n (.region id ops true) (dG E ks Q) fr H):=by simp only[ct]
@[go_sem] def zak {c:Code}:ct E (f+1) (.loop c) ks Q fr H=cJ E.P E.n (.loop c) (dG E ks Q) fr H:=by simp only[ct]
@[go_sem] def U5 {id:Nat}:iR id []=none:=rfl
@[go_sem] def Sc {id:Nat}{c:Code}:iR id (.code c::ks)=iR id ks:=rfl
@[go_sem] def ZJ {id id':Nat}:iR id (.blk id'::ks)=if id=id' then some ks else iR id ks:=rfl
@[go_sem] def Zw {id:Nat}{ks':List Item}:gw E (f+1) (some ks') id ks Q fr H=exec E f ks' Q fr H:=by simp only[gw]
@[go_sem] def zap {id:Nat}:gw E (f+1) none id ks Q fr H=Q (.exit id) fr H:=by simp only[gw]
@[go_sem] def zaq {d:D}{x y:Code}:vC E (f+1) (.d d) x y ks Q fr H=(d.isBool/\(d.toBool=true->ct E f x ks Q fr H)/\(d.toBool=false->ct E f y ks Q fr H)):=by simp only[vC]
@[go_sem] def XJ:an E (f+1) all [] ks Q fr H=exec E f ks Q fr H:=by simp only[an]
@[go_sem] def zas {r:I}:lB E (f+1) all rest ks Q fr dst r H=an E f all rest ks Q (fr.put dst r) H:=by simp only[lB]
@[go_sem] def Vn {r:I}:cx E (f+1) all rest ks Q fr dst H r=an E f all rest ks Q (fr.put dst r) H:=by simp only[cx]
@[go_sem] def zau {e:Exit}:dG E [] Q e fr H=Q e fr H:=rfl
@[go_sem] def XW {c:Code}:dG E (.code c::ks) Q .ret fr H=dG E ks Q .ret fr H:=rfl
@[go_sem] def P1 {id:Nat}:dG E (.blk id::ks) Q .ret fr H=dG E ks Q .ret fr H:=rfl
def j8 (E:Env) (f:Nat) (all rest:List Oper) (ks:List Item) (Q:aX) (fr:Fr) (dst:Option Tmp) (H:List R):Option (Prop×I)->Prop
 | some (vc,x)=>vc/\an E f all rest ks Q (fr.put dst x) H
 | none=>False
def nJ (E:Env) (f:Nat) (all rest:List Oper) (ks:List Item) (Q:aX) (fr:Fr) (dst:Option Tmp):Option (Prop×I×List R)->Prop
 | some (vc,x,H)=>vc/\an E f all rest ks Q (fr.put dst x) H
 | none=>False
def py (E:Env) (f:Nat) (all rest:List Oper) (ks:List Item) (Q:aX) (fr:Fr) (dst:Option Tmp) (H:List R):Option (Prop×Bool)->Option (Prop×I)->Prop
 | some (gc,e),some (vc,x)=>gc/\(e=true->vc)/\an E f all rest ks Q (fr.put dst (.cond e x)) H
 | _,_=>False
def y6 (E:Env) (f:Nat) (all rest:List Oper) (ks:List Item) (Q:aX) (fr:Fr) (dst:Option Tmp) (H:List R) (c:Prop) (fn:Option (Nat×List I)) (args:List I):Option (Prop×Bool)->Prop
 | some (gc,e)=>gc/\u7 E c e fn args H (cx E f all rest ks Q fr dst)
 | none=>False
@[go_sem] def V0 {x:I}:j8 E f all rest ks Q fr dst H (some (vc,x))=(vc/\an E f all rest ks Q (fr.put dst x) H):=rfl
@[go_sem] def Y6 {x:I}:nJ E f all rest ks Q fr dst (some (vc,x,H))=(vc/\an E f all rest ks Q (fr.put dst x) H):=rfl
@[go_sem] def Yx {x:I}:py E f all rest ks Q fr dst H (some (gc,e)) (some (vc,x))=(gc/\(e=true->vc)/\an E f all rest ks Q (fr.put dst (.cond e x)) H):=rfl
@[go_sem] def Re {c:Prop}{args:List I}:y6 E f all rest ks Q fr dst H c fn args (some (gc,e))=(gc/\u7 E c e fn args H (cx E f all rest ks Q fr dst)):=rfl
def kJ {op:Op}{o:Option (Prop×I)}(h1:fI op=none) (h2:dr E.T fr H op=o) (h3:bS E.T fr H op=none) (h4:r8 fr H op=none:=by rfl) (h5:iH E.deep E.T fr H op=none:=by rfl) :
  an E (f+1) all (⟨dst,op,ty,pos,af,none⟩::rest) ks Q fr H=j8 E f all rest ks Q fr dst H o:=by
 simp only[an,h1,h2,h3,h4,h5];cases o <;> rfl
def rd {op:Op}{o:Option (Prop×I)}{j:Nat}{want:Bool}(h1:fI op=none) (h2:dr E.T fr H op=o) (h3:bS E.T fr H op=none:=by rfl) :
  an E (f+1) all (⟨dst,op,ty,pos,af,some (j,want)⟩::rest) ks Q fr H=py E f all rest ks Q fr dst H (guardOf all fr j want) o:=by
 simp only[an,h1,h2,h3];cases guardOf all fr j want with
 | none=>rfl
 | some g=>cases o <;> rfl
def rc {op:Op}(h1:fI op=none) (h2:dr E.T fr H op=none) (h3:bS E.T fr H op=o) (h4:r8 fr H op=none:=by rfl) (h5:iH E.deep E.T fr H op=none:=by rfl) :
  an E (f+1) all (⟨dst,op,ty,pos,af,none⟩::rest) ks Q fr H=nJ E f all rest ks Q fr dst o:=by
 simp only[an,h1,h2,h3,h4,h5];cases o <;> rfl
def wR (E:Env) (f:Nat) (all rest:List Oper) (ks:List Item) (Q:aX) (fr:Fr) (dst:Option Tmp) (fc:Prop):Option (Prop×I×List R)->Prop
 | some (vc,x,H)=>fc/\vc/\an E f all rest ks Q (fr.put dst x) H
 | none=>False
def tR (E:Env) (f:Nat) (all rest:List Oper) (ks:List Item) (Q:aX) (dst:Option Tmp) (k:Fr->List R->Option (Prop×I×List R)):Option (Prop×Fr×List R)->Prop
 | some (fc,fr,H)=>wR E f all rest ks Q fr dst fc (k fr H)
 | none=>False
def zA (E:Env) (f:Nat) (all rest:List Oper) (ks:List Item) (Q:aX) (fr:Fr) (dst:Option Tmp) (z:Option (Prop×Fr×List R)) (k:Fr->List R->Option (Prop×I×List R)) (o2:Option (Prop×I×List R)):Option (Prop×I×List R)->Prop
 | some (vc,x,H)=>vc/\an E f all rest ks Q (fr.put dst x) H
 | none=>
  match o2 with
  | some (vc,x,H)=>vc/\an E f all rest ks Q (fr.put dst x) H
  | none=>tR E f all rest ks Q dst k z
@[go_sem] def XL {x:I}:zA E f all rest ks Q fr dst z k o2 (some (vc,x,H))=(vc/\an E f all rest ks Q (fr.put dst x) H):=rfl
@[go_sem] def zaA:zA E f all rest ks Q fr dst z k none none=tR E f all rest ks Q dst k z:=rfl
@[go_sem] def qrC {x:I}:zA E f all rest ks Q fr dst z k (some (vc,x,H)) none=(vc/\an E f all rest ks Q (fr.put dst x) H):=rfl
def AV (E:Env) (f:Nat) (all rest:List Oper) (ks:List Item) (Q:aX) (fr:Fr) (dst:Option Tmp) (H:List R) (o2:Option (Prop×I×List R)):Option (Prop×I)->Prop
 | some (vc,x)=>vc/\an E f all rest ks Q (fr.put dst x) H
 | none=>nJ E f all rest ks Q fr dst o2
@[go_sem] def zaB {x:I}:AV E f all rest ks Q fr dst H o2 (some (vc,x))=(vc/\an E f all rest ks Q (fr.put dst x) H):=rfl
@[go_sem] def zaC:AV E f all rest ks Q fr dst H o2 none=nJ E f all rest ks Q fr dst o2:=rfl
def yz (b:Bool) (o:Option (Prop×I×List R)):Option (Prop×I×List R):=
 match b with
 | true=>o
 | false=>none
@[go_sem] def UI:yz true o=o:=rfl
@[go_sem] def Ro:yz false o=none:=rfl
def mP (deep:fL) (T:Nat->Option TI) (fr:Fr) (H:List R) (t n:Nat):List (Nat×Operand)->Option (Prop×I×List R)
 | [(i,x)]=>yz (uZ deep (ap fr x)) (dU (aE fr x) (wt T H t n i (ap fr x)))
 | _=>none
@[go_sem] def Tv {T:Nat->Option TI}{t:Nat}:mP deep T fr H t n []=none:=rfl
@[go_sem] def P5 {T:Nat->Option TI}{t:Nat}:mP deep T fr H t n [(i,x)]=yz (uZ deep (ap fr x)) (dU (aE fr x) (wt T H t n i (ap fr x))):=rfl
@[go_sem] def zaH {T:Nat->Option TI}{t:Nat}{a b:Nat×Operand}:mP deep T fr H t n (a::b::r)=none:=rfl
@[go_sem] def zaI:uZ deep (.agg cs)=deep.agg:=rfl
@[go_sem] def QL:fL.agg .low=true:=rfl
@[go_sem] def qs2:fL.agg .sD=false:=rfl
@[go_sem] def Xc:fL.sl .low=false:=rfl
@[go_sem] def T6:fL.sl .both=true:=rfl
@[go_sem] def zaK:fL.sl .sD=false:=rfl
@[go_sem] def Uv {k lo:Nat}:uZ deep (.sl i g k lo n)=deep.sl:=rfl
@[go_sem] def zaM {x:D}:uZ deep (.d x)=false:=rfl
@[go_sem] def Ug:tR E f all rest ks Q dst k (some (fc,fr,H))=wR E f all rest ks Q fr dst fc (k fr H):=rfl
@[go_sem] def XE {x:I}:wR E f all rest ks Q fr dst fc (some (vc,x,H))=(fc/\vc/\an E f all rest ks Q (fr.put dst x) H):=rfl
def pR (fr:Fr) (H:List R) (ps:List (Nat×Operand)):Option (Prop×Fr×List R):=
 match ps with
 | [(_,.tmp t)]=>
  match fr.get t with
  | .sl i g k lo n=>
   match H[i]? with
   | some (.row g' k' dp l)=>some (g=g'/\k=k'/\dp.shut=true,fr.put (some t) (.d (.lst k ((l.drop lo).take n))),H.set i (.dead g'))
   | _=>none
  | .agg cs=>
   match kf cs H with
   | some (fc,cs',H')=>some (fc,fr.put (some t) (.d (.agg cs')),H')
   | none=>none
  | _=>none
 | _=>none
section ops
variable {j:Nat}{want:Bool}
@[go_sem] def zaP:an E (f+1) all (⟨dst,.move x,ty,pos,af,none⟩::rest) ks Q fr H=j8 E f all rest ks Q fr dst H (some (aE fr x,ap fr x)):=kJ rfl rfl rfl
@[go_sem] def zaQ:an E (f+1) all (⟨dst,.assign x,ty,pos,af,none⟩::rest) ks Q fr H=j8 E f all rest ks Q fr dst H (some (aE fr x,ap fr x)):=kJ rfl rfl rfl
@[go_sem] def Xt:an E (f+1) all (⟨dst,.pick c x y,ty,pos,af,none⟩::rest) ks Q fr H=j8 E f all rest ks Q fr dst H (aN (aE fr c) (wg (ap fr c) (ap fr x) (ap fr y) (aE fr x) (aE fr y))):=kJ rfl rfl rfl
@[go_sem] def Rn:an E (f+1) all (⟨dst,.build t parts,ty,pos,af,none⟩::rest) ks Q fr H=j8 E f all rest ks Q fr dst H (aN (oV fr parts.toList) (xw E.T t (k7 fr parts.toList))):=kJ rfl rfl rfl
@[go_sem] def zaT:an E (f+1) all (⟨dst,.load t x,ty,pos,af,none⟩::rest) ks Q fr H=AV E f all rest ks Q fr dst H (dU (aE fr x) (qB E.T H t (ap fr x))) (aN (aE fr x) (nl E.T H t (ap fr x))):=by
 have h2:dr E.T fr H (.load t x)=aN (aE fr x) (nl E.T H t (ap fr x)):=rfl;have h3:bS E.T fr H (.load t x)=none:=rfl;have h4:r8 fr H (.load t x)=none:=rfl;have h5:iH E.deep E.T fr H (.load t x)=dU (aE fr x) (qB E.T H t (ap fr x)):=rfl;simp only[an,fI,h2,h3,h4,h5];cases aN (aE fr x) (nl E.T H t (ap fr x)) with
 | some q=>rfl
 | none=>
  simp only[AV];cases dU (aE fr x) (qB E.T H t (ap fr x)) <;> rfl
@[go_sem] def ZB:an E (f+1) all (⟨dst,.nilCheck x,ty,pos,af,none⟩::rest) ks Q fr H=j8 E f all rest ks Q fr dst H (aN (aE fr x) (jo H (ap fr x))):=kJ rfl rfl rfl
@[go_sem] def zaU:an E (f+1) all (⟨dst,.binOp op t x y yt,ty,pos,af,none⟩::rest) ks Q fr H=j8 E f all rest ks Q fr dst H (aN (aE fr x/\aE fr y) (kE E.T H op t (ap fr x) (ap fr y))):=kJ rfl rfl rfl
@[go_sem] def QB {op:UnOp}:an E (f+1) all (⟨dst,.unOp op t x,ty,pos,af,none⟩::rest) ks Q fr H=j8 E f all rest ks Q fr dst H (aN (aE fr x) (wu op (ap fr x))):=kJ rfl rfl rfl
@[go_sem] def zaW:an E (f+1) all (⟨dst,.convert s t x,ty,pos,af,none⟩::rest) ks Q fr H=j8 E f all rest ks Q fr dst H (aN (aE fr x) (vZ E.T s t (ap fr x))):=kJ rfl rfl rfl
@[go_sem] def UF {caps:List Operand}:an E (f+1) all (⟨dst,.makeFunc (.func g) #[] caps.toArray,ty,pos,af,none⟩::rest) ks Q fr H=j8 E f all rest ks Q fr dst H (some (dJ fr caps,l7 g (gM fr caps))):=kJ rfl (by simp[dr]) rfl
@[go_sem] def zaX:an E (f+1) all (⟨dst,.slice t x lo hi mx,ty,pos,af,none⟩::rest) ks Q fr H=j8 E f all rest ks Q fr dst H (aN (aE fr x/\pS fr lo/\pS fr hi) (uy E.T H t (ap fr x) (dD fr lo) (dD fr hi) (dD fr mx))):=kJ rfl rfl rfl
@[go_sem] def RJ:an E (f+1) all (⟨dst,.fieldAddr t x i,ty,pos,af,none⟩::rest) ks Q fr H=j8 E f all rest ks Q fr dst H (aN (aE fr x) (uU E.T H t (ap fr x) i)):=kJ rfl rfl rfl
@[go_sem] def Vt:an E (f+1) all (⟨dst,.indexAddr t x y,ty,pos,af,none⟩::rest) ks Q fr H=j8 E f all rest ks Q fr dst H (aN (aE fr x/\aE fr y) (sd E.T H t (ap fr x) (ap fr y))):=kJ rfl rfl rfl
@[go_sem] def V9:an E (f+1) all (⟨dst,.index t x y,ty,pos,af,none⟩::rest) ks Q fr H=j8 E f all rest ks Q fr dst H (aN (aE fr x/\aE fr y) (xY E.T t (ap fr x) (ap fr y))):=kJ rfl rfl rfl
@[go_sem] def Qu:an E (f+1) all (⟨dst,.extract x i,ty,pos,af,none⟩::rest) ks Q fr H=j8 E f all rest ks Q fr dst H (aN (aE fr x) (wv (ap fr x) i)):=kJ rfl rfl rfl
@[go_sem] def T7:an E (f+1) all (⟨dst,.lookup t x y ok,ty,pos,af,none⟩::rest) ks Q fr H=j8 E f all rest ks Q fr dst H (aN (aE fr x/\aE fr y) (ua E.T H t (ap fr x) (ap fr y) ok)):=kJ rfl rfl rfl
@[go_sem] def RI:an E (f+1) all (⟨dst,.makeMap t none,ty,pos,af,none⟩::rest) ks Q fr H=nJ E f all rest ks Q fr dst (wy E.T H t):=rc rfl rfl rfl
@[go_sem] def zbc:an E (f+1) all (⟨dst,.call ⟨.builtin .len,#[x],#[t]⟩,ty,pos,af,none⟩::rest) ks Q fr H=j8 E f all rest ks Q fr dst H (aN (aE fr x) (dc E.T H t (ap fr x))):=kJ rfl rfl rfl
@[go_sem] def P4:an E (f+1) all (⟨dst,.call ⟨.builtin .cap,#[x],#[t]⟩,ty,pos,af,none⟩::rest) ks Q fr H=j8 E f all rest ks Q fr dst H (aN (aE fr x) (gp E.T t (ap fr x))):=kJ rfl rfl rfl
@[go_sem] def WN:an E (f+1) all (⟨dst,.call ⟨.builtin .min,#[x,y],ts⟩,ty,pos,af,none⟩::rest) ks Q fr H=j8 E f all rest ks Q fr dst H (aN (aE fr x/\aE fr y) (uF .min (ap fr x) (ap fr y))):=kJ rfl rfl rfl
@[go_sem] def VJ:an E (f+1) all (⟨dst,.call ⟨.builtin .max,#[x,y],ts⟩,ty,pos,af,none⟩::rest) ks Q fr H=j8 E f all rest ks Q fr dst H (aN (aE fr x/\aE fr y) (uF .max (ap fr x) (ap fr y))):=kJ rfl rfl rfl
@[go_sem] def U0:an E (f+1) all (⟨dst,.box t x,ty,pos,af,none⟩::rest) ks Q fr H=nJ E f all rest ks Q fr dst (dU (aE fr x) (nj E.T H t (ap fr x))):=rc rfl rfl rfl
@[go_sem] def Zg:an E (f+1) all (⟨dst,.alloc t,ty,pos,af,none⟩::rest) ks Q fr H=nJ E f all rest ks Q fr dst (vK E.T H t):=rc rfl rfl rfl
@[go_sem] def Z7:an E (f+1) all (⟨dst,.buildSlice t n parts,ty,pos,af,none⟩::rest) ks Q fr H =
  zA E f all rest ks Q fr dst (pR fr H parts.toList) (fun fr' H'=>dU (oV fr' parts.toList) (jg E.T H' t n (k7 fr' parts.toList))) (mP E.deep E.T fr H t n parts.toList) (dU (oV fr parts.toList) (jg E.T H t n (k7 fr parts.toList))):=by
 have h2:dr E.T fr H (.buildSlice t n parts)=none:=rfl;have h3 : ∀ fr H,bS E.T fr H (.buildSlice t n parts)=dU (oV fr parts.toList) (jg E.T H t n (k7 fr parts.toList)):=fun _ _=>rfl
 have h4:r8 fr H (.buildSlice t n parts)=pR fr H parts.toList:=rfl;have h5:iH E.deep E.T fr H (.buildSlice t n parts)=mP E.deep E.T fr H t n parts.toList:=by
  simp only[iH];generalize parts.toList=ps;rcases ps with _|⟨⟨i,x⟩,_|⟨b,r⟩⟩
  ·rfl
  ·simp only[mP,yz];cases uZ E.deep (ap fr x) <;> rfl
  ·rfl
 simp only[an,fI,h2,h3,h4,h5];cases dU (oV fr parts.toList) (jg E.T H t n (k7 fr parts.toList)) with
 | some q=>rfl
 | none=>
  simp only[zA];cases mP E.deep E.T fr H t n parts.toList with
  | some q=>rfl
  | none=>
   simp only;cases pR fr H parts.toList with
   | none=>rfl
   | some q=>
    obtain⟨fc,fr',H'⟩:=q;simp only[tR];cases dU (oV fr' parts.toList) (jg E.T H' t n (k7 fr' parts.toList)) <;> rfl
@[go_sem] def Yr:an E (f+1) all (⟨dst,.makeSlice t x y,ty,pos,af,none⟩::rest) ks Q fr H=nJ E f all rest ks Q fr dst (dU (aE fr x/\aE fr y) (wY E.T H t (ap fr x) (ap fr y))):=rc rfl rfl rfl
def z5 (c:Prop):Option (Prop×List R)->Option (Prop×I×List R)
 | some (vc,H')=>some (c/\vc,.junk,H')
 | none=>none
@[go_sem] def PC {c:Prop}:z5 c (some (vc,H))=some (c/\vc,.junk,H):=rfl
@[go_sem] def Sl:an E (f+1) all (⟨dst,.store t x y,ty,pos,af,none⟩::rest) ks Q fr H=nJ E f all rest ks Q fr dst (z5 (aE fr x/\aE fr y) (wZ E.T H t (ap fr x) (ap fr y))):=
 rc rfl rfl (by simp only[bS,z5];cases wZ E.T H t (ap fr x) (ap fr y) <;> rfl)
@[go_sem] def Qf {m:Operand}:an E (f+1) all (⟨dst,.mapUpdate t m x y,ty,pos,af,none⟩::rest) ks Q fr H=nJ E f all rest ks Q fr dst (z5 (aE fr m/\aE fr x/\aE fr y) (rf E.T H t (ap fr m) (ap fr x) (ap fr y))):=by
 refine rc rfl rfl ?_;simp only[bS];cases rf E.T H t (ap fr m) (ap fr x) (ap fr y) <;> rfl
@[go_sem] def PN {m:Operand}:an E (f+1) all (⟨dst,.insert t m x y,ty,pos,af,none⟩::rest) ks Q fr H=nJ E f all rest ks Q fr dst (z5 (aE fr m/\aE fr x/\aE fr y) (rf E.T H t (ap fr m) (ap fr x) (ap fr y))):=by
 refine rc rfl rfl ?_;simp only[bS];cases rf E.T H t (ap fr m) (ap fr x) (ap fr y) <;> rfl
@[go_sem] def Wd:an E (f+1) all (⟨dst,.call ⟨.builtin .append,#[x,y],#[t,t']⟩,ty,pos,af,none⟩::rest) ks Q fr H=nJ E f all rest ks Q fr dst (dU (aE fr x/\aE fr y) (nu E.T H t t' (ap fr x) (ap fr y))):=rc rfl rfl rfl
@[go_sem] def ZU:an E (f+1) all (⟨dst,.call ⟨.builtin .copy,#[x,y],#[t,t']⟩,ty,pos,af,none⟩::rest) ks Q fr H=nJ E f all rest ks Q fr dst (dU (aE fr x/\aE fr y) (xm E.T H t t' (ap fr x) (ap fr y))):=rc rfl rfl rfl
@[go_sem] def zbn:an E (f+1) all (⟨dst,.call ⟨.builtin .clear,#[x],#[t]⟩,ty,pos,af,none⟩::rest) ks Q fr H=nJ E f all rest ks Q fr dst (dU (aE fr x) (w5 E.T H t (ap fr x))):=rc rfl rfl rfl
@[go_sem] def Ux {g:Operand}{args:List Operand}:an E (f+1) all (⟨dst,.call ⟨.value g,args.toArray,ts⟩,ty,pos,af,none⟩::rest) ks Q fr H =
  nE E (aE fr g/\dJ fr args) (eE (ap fr g)) (gM fr args) H (lB E f all rest ks Q fr dst):=by simp only[an,fI]
@[go_sem] def RQ:an E (f+1) all (⟨dst,.move x,ty,pos,af,some (j,want)⟩::rest) ks Q fr H=py E f all rest ks Q fr dst H (guardOf all fr j want) (some (aE fr x,ap fr x)):=rd rfl rfl
@[go_sem] def PS:an E (f+1) all (⟨dst,.pick c x y,ty,pos,af,some (j,want)⟩::rest) ks Q fr H=py E f all rest ks Q fr dst H (guardOf all fr j want) (aN (aE fr c) (wg (ap fr c) (ap fr x) (ap fr y) (aE fr x) (aE fr y))):=rd rfl rfl
@[go_sem] def WC:an E (f+1) all (⟨dst,.load t x,ty,pos,af,some (j,want)⟩::rest) ks Q fr H=py E f all rest ks Q fr dst H (guardOf all fr j want) (aN (aE fr x) (nl E.T H t (ap fr x))):=rd rfl rfl
@[go_sem] def UN:an E (f+1) all (⟨dst,.nilCheck x,ty,pos,af,some (j,want)⟩::rest) ks Q fr H=py E f all rest ks Q fr dst H (guardOf all fr j want) (aN (aE fr x) (jo H (ap fr x))):=rd rfl rfl
@[go_sem] def zbs:an E (f+1) all (⟨dst,.binOp op t x y yt,ty,pos,af,some (j,want)⟩::rest) ks Q fr H=py E f all rest ks Q fr dst H (guardOf all fr j want) (aN (aE fr x/\aE fr y) (kE E.T H op t (ap fr x) (ap fr y))):=rd rfl rfl
@[go_sem] def V7 {op:UnOp}:an E (f+1) all (⟨dst,.unOp op t x,ty,pos,af,some (j,want)⟩::rest) ks Q fr H=py E f all rest ks Q fr dst H (guardOf all fr j want) (aN (aE fr x) (wu op (ap fr x))):=rd rfl rfl
@[go_sem] def Wk:an E (f+1) all (⟨dst,.fieldAddr t x i,ty,pos,af,some (j,want)⟩::rest) ks Q fr H=py E f all rest ks Q fr dst H (guardOf all fr j want) (aN (aE fr x) (uU E.T H t (ap fr x) i)):=rd rfl rfl
@[go_sem] def VE:an E (f+1) all (⟨dst,.indexAddr t x y,ty,pos,af,some (j,want)⟩::rest) ks Q fr H=py E f all rest ks Q fr dst H (guardOf all fr j want) (aN (aE fr x/\aE fr y) (sd E.T H t (ap fr x) (ap fr y))):=rd rfl rfl
@[go_sem] def QW:an E (f+1) all (⟨dst,.lookup t x y ok,ty,pos,af,some (j,want)⟩::rest) ks Q fr H=py E f all rest ks Q fr dst H (guardOf all fr j want) (aN (aE fr x/\aE fr y) (ua E.T H t (ap fr x) (ap fr y) ok)):=rd rfl rfl
@[go_sem] def Q6:an E (f+1) all (⟨dst,.call ⟨.builtin .len,#[x],#[t]⟩,ty,pos,af,some (j,want)⟩::rest) ks Q fr H=py E f all rest ks Q fr dst H (guardOf all fr j want) (aN (aE fr x) (dc E.T H t (ap fr x))):=rd rfl rfl
@[go_sem] def zbw {g:Operand}{args:List Operand}:an E (f+1) all (⟨dst,.call ⟨.value g,args.toArray,ts⟩,ty,pos,af,some (j,want)⟩::rest) ks Q fr H =
  y6 E f all rest ks Q fr dst H (aE fr g/\dJ fr args) (eE (ap fr g)) (gM fr args) (guardOf all fr j want):=by
 simp only[an,fI];cases guardOf all fr j want <;> rfl
end ops
@[go_sem] def WW (l:List α):l.toArray.toList=l:=rfl
@[go_sem] def UU {c:Prop}{x:I}:aN c (some (vc,x))=some (c/\vc,x):=rfl
@[go_sem] def PJ {c:Prop}:aN c none=none:=rfl
@[go_sem] def zbz {c:Prop}:dU c none=none:=rfl
@[go_sem] def Qy {c:Prop}{x:I}:dU c (some (vc,x,H))=some (c/\vc,x,H):=rfl
def rC:I->I
 | .cond _ x=>x
 | x=>x
def rx:I->Prop
 | .cond e _=>e=true
 | _=>True
@[go_sem] def zbB {o:Operand}:ap fr o=rC (ev fr o):=rfl
@[go_sem] def PK {o:Operand}:aE fr o=rx (ev fr o):=rfl
@[go_sem] def zbD {t:Nat}:ev fr (.tmp t)=fr.get t:=rfl
@[go_sem] def Vb:ev fr (.func g)=.d (.fn g []):=rfl
@[go_sem] def SP {n:Int}:ev fr (.const (.int .i64 n))=if -9223372036854775808<=n/\n<=9223372036854775807 then .d (.int .i64 n) else .junk:=rfl
@[go_sem] def zbG {n:Int}:ev fr (.const (.int .u8 n))=if 0<=n/\n<=255 then .d (.int .u8 n) else .junk:=rfl
@[go_sem] def W3 {n:Int}:ev fr (.const (.int .u64 n))=if 0<=n/\n<=18446744073709551615 then .d (.int .u64 n) else .junk:=rfl
@[go_sem] def zbI {s:ByteArray}:ev fr (.const (.string s))=.d (.raw (.string s)):=rfl
@[go_sem] def Zn:ev fr (.const (.bool b))=.d (.bool b):=rfl
@[go_sem] def WL:ev fr (.const (.slice none 0 0))=.d .nil:=rfl
@[go_sem] def zbL:ev fr (.const (.pointer none))=.d (.raw (.pointer none)):=rfl
@[go_sem] def XC {x:D}:rC (.d x)=.d x:=rfl
@[go_sem] def zbN:rC (.agg cs)=.agg cs:=rfl
@[go_sem] def R2 {k lo:Nat}:rC (.sl i g k lo n)=.sl i g k lo n:=rfl
@[go_sem] def Vr {o:Nat}:rC (.ptr i o)=.ptr i o:=rfl
@[go_sem] def zbQ {k x o:Nat}{z:D}:rC (.eptr i g k x o z)=.eptr i g k x o z:=rfl
@[go_sem] def SI:rC (.map i)=.map i:=rfl
@[go_sem] def QA:rC (.fn g cs)=.fn g cs:=rfl
@[go_sem] def zbT:rC (.tup cs)=.tup cs:=rfl
@[go_sem] def zbU {x:I}:rC (.cond e x)=x:=rfl
@[go_sem] def PE {x:D}:rx (.d x)=True:=rfl
@[go_sem] def zbW:rx (.agg cs)=True:=rfl
@[go_sem] def zbX {k lo:Nat}:rx (.sl i g k lo n)=True:=rfl
@[go_sem] def UP {o:Nat}:rx (.ptr i o)=True:=rfl
@[go_sem] def Tj {k x o:Nat}{z:D}:rx (.eptr i g k x o z)=True:=rfl
@[go_sem] def Zy:rx (.map i)=True:=rfl
@[go_sem] def zcb:rx (.fn g cs)=True:=rfl
@[go_sem] def zcc:rx (.tup cs)=True:=rfl
@[go_sem] def zcd {x:I}:rx (.cond e x)=(e=true):=rfl
@[go_sem] def Rc {t:Nat}:Fr.get ⟨n,m⟩ t=look t m:=rfl
@[go_sem] def zcf {s t:Nat}{x:I}:look t ((s,x)::m)=if s=t then x else look t m:=rfl
@[go_sem] def SN {t:Nat}{x:I}:Fr.put ⟨n,m⟩ (some t) x=if t<n then⟨n,(t,x)::m⟩ else⟨n,m⟩:=rfl
@[go_sem] def Vm {x:I}:Fr.put fr none x=fr:=rfl
@[go_sem] def V1:gM fr []=[]:=rfl
@[go_sem] def zcj {o:Operand}{r:List Operand}:gM fr (o::r)=ap fr o::gM fr r:=rfl
@[go_sem] def zck:dJ fr []=True:=rfl
@[go_sem] def YZ {o:Operand}{r:List Operand}:dJ fr (o::r)=(aE fr o/\dJ fr r):=rfl
@[go_sem] def XN:dD fr none=none:=rfl
@[go_sem] def PA {o:Operand}:dD fr (some o)=some (ap fr o):=rfl
@[go_sem] def zco:pS fr none=True:=rfl
@[go_sem] def zcp {o:Operand}:pS fr (some o)=aE fr o:=rfl
@[go_sem] def zcq:k7 fr []=[]:=rfl
@[go_sem] def qs6 {o:Operand}:k7 fr ((i,o)::r)=(i,ap fr o)::k7 fr r:=rfl
@[go_sem] def Q2:oV fr []=True:=rfl
@[go_sem] def PQ {o:Operand}:oV fr ((i,o)::r)=(aE fr o/\oV fr r):=rfl
@[go_sem] def Rg {t:Nat}:jw t []=[]:=rfl
@[go_sem] def Tw {t:Nat}{x:I}{r:List I}:jw t (x::r)=(t,x)::jw (t+1) r:=rfl
attribute [go_sem] jC List.map_nil lc
def rk:List Oper->Nat->Option Tmp
 | [],_=>none
 | o::_,0=>o.dst
 | _::r,n+1=>rk r n
def C5 (fr:Fr) (want:Bool):Option Tmp->Option (Prop×Bool)
 | some t=>if t<fr.n then(match fr.get t with|.d x=>some (x.isBool,if want then x.toBool else !x.toBool)|.cond e (.d x)=>some ((e=true->x.isBool),e&&(if want then x.toBool else !x.toBool))|_=>none) else none
 | none=>none
def zN (want:Bool):I->Option (Prop×Bool)
 | .d x=>some (x.isBool,if want then x.toBool else !x.toBool)
 | .cond e (.d x)=>some ((e=true->x.isBool),e&&(if want then x.toBool else !x.toBool))
 | _=>none
def HY : ∀ (l:List Oper) (j:Nat),(l[j]?).bind (·.dst)=rk l j
 | [],j=>by simp[rk]
 | o::r,0=>by simp[rk]
 | o::r,j+1=>by simpa [rk] using HY r j
@[go_sem] def zct {j:Nat}{want:Bool}:guardOf all fr j want=C5 fr want (rk all j):=by
 simp only[guardOf,HY];cases rk all j <;> rfl
@[go_sem] def zcu {o:Oper}{r:List Oper}:rk (o::r) 0=o.dst:=rfl
@[go_sem] def Qj {o:Oper}{r:List Oper}:rk (o::r) (n+1)=rk r n:=rfl
@[go_sem] def zcw {t:Nat}{want:Bool}:C5 ⟨n,m⟩ want (some t)=if t<n then zN want (look t m) else none:=by
 simp only[C5,Fr.get];split
 ·cases look t m <;> first|rfl|(rename_i x;cases x <;> rfl)
 ·rfl
@[go_sem] def Vs {x:D}:zN true (.d x)=some (x.isBool,x.toBool):=rfl
@[go_sem] def qs8 {x:D}:zN false (.d x)=some (x.isBool,!x.toBool):=rfl
@[go_sem] def qs9 {x:D}:zN true (.cond e (.d x))=some ((e=true->x.isBool),e&&x.toBool):=rfl
@[go_sem] def Sy {x:D}:zN false (.cond e (.d x))=some ((e=true->x.isBool),e && !x.toBool):=rfl
@[go_sem] def Zs {k:IntKind}{n:Int}:(D.int k n).toInt=n:=rfl
@[go_sem] def Ur:(D.bool b).toBool=b:=rfl
@[go_sem] def ZA {k k':IntKind}{n:Int}:(D.int k n).isInt k'=(k=k'):=rfl
@[go_sem] def zcB:(D.bool b).isBool=True:=rfl
@[go_sem] def QN {k:Nat}:(D.lst k l).elems=l:=rfl
@[go_sem] def zcD:D.nil.elems=[]:=rfl
@[go_sem] def TF {k:Nat}:(D.lst k l).cT k'=(k=k'):=rfl
@[go_sem] def zcF:D.nil.cT k'=True:=rfl
@[go_sem] def XD {k:Nat}:(D.lst k l).gA=True:=rfl
@[go_sem] def zcH:D.nil.gA=True:=rfl
@[go_sem] def zcI {k:Nat}:(D.lst k l).isNil=false:=rfl
@[go_sem] def zcJ:D.nil.isNil=true:=rfl
@[go_sem] def SU {cs:List D}:(D.ptr cs).cH=cs:=rfl
@[go_sem] def P8 {cs:List D}:(D.ptr cs).cK=True:=rfl
@[go_sem] def zcM {cs:List D}{j:Nat}:(D.agg cs).cellAt j=cs.getD j .nil:=rfl
@[go_sem] def St {k:IntKind}{n:Int}:(D.int k n).cellAt 0=D.int k n:=rfl
@[go_sem] def R8:(D.bool b).cellAt 0=D.bool b:=rfl
@[go_sem] def Yw {k:Nat}:(D.lst k l).cellAt 0=D.lst k l:=rfl
@[go_sem] def R7:D.nil.cellAt 0=D.nil:=rfl
@[go_sem] def SA {x d : α}{l:List α}:(x::l).getD 0 d=x:=rfl
@[go_sem] def PU {x d : α}{l:List α}:(x::l).getD (n+1) d=l.getD n d:=rfl
@[go_sem] def XA {cs:List D}:(D.agg cs).cells=cs:=rfl
@[go_sem] def YX {k:IntKind}{n:Int}:(D.int k n).cells=[D.int k n]:=rfl
@[go_sem] def Qw:(D.bool b).cells=[D.bool b]:=rfl
@[go_sem] def XH {k:Nat}:(D.lst k l).cells=[D.lst k l]:=rfl
@[go_sem] def Rq:D.nil.cells=[D.nil]:=rfl
@[go_sem] def Uf {k:IntKind}{n:Int}:(D.int k n).one=true:=rfl
@[go_sem] def Xx:(D.bool b).one=true:=rfl
@[go_sem] def zda {k:Nat}:(D.lst k l).one=true:=rfl
@[go_sem] def XT:D.nil.one=true:=rfl
@[go_sem] def UR {cs:List D}:(D.agg cs).one=false:=rfl
@[go_sem] def zdd {k:IntKind}{n:Int}:(D.int k n).scalar=true:=rfl
@[go_sem] def Yk:(D.bool b).scalar=true:=rfl
@[go_sem] def zdf {k:Nat}:(D.lst k l).scalar=false:=rfl
@[go_sem] def Se:D.nil.scalar=true:=rfl
@[go_sem] def Yp:ar (List.replicate n D.nil)=true:=by induction n with|zero=>rfl|succ n ih=>simp[List.replicate_succ,ar,D.cells,D.scalar,ih]
@[go_sem] def Uc {cs:List D}:(D.agg cs).eq=True:=rfl
@[go_sem] def ZV {k:IntKind}{n:Int}:(D.int k n).eq=True:=rfl
@[go_sem] def VN:(D.bool b).eq=True:=rfl
@[go_sem] def Wu {k:Nat}:(D.lst k l).eq=True:=rfl
@[go_sem] def Xj:(D.tup xs).nK n=(xs.length=n):=rfl
@[go_sem] def zdm:(D.tup xs).hY=xs.length:=rfl
@[go_sem] def TZ:(D.tup xs).pF n=xs.getD n .nil:=rfl
@[go_sem] def qq3 {x:D}{j:Nat}:bT x j 0=[]:=rfl
@[go_sem] def qq4 {x:D}{j:Nat}:bT x j (n+1)=x.cellAt j::bT x (j+1) n:=rfl
@[go_sem] def Ue {cs:List D}:(D.agg cs=D.tup xs)=False:=by simp
@[go_sem] def Xy {k:IntKind}{x:D}:bo (.int k) x=.int k x.toInt:=rfl
@[go_sem] def ZX {x:D}:bo .bool x=.bool x.toBool:=rfl
@[go_sem] def zdr {e:Nat}{x:D}:bo (.slice e) x=x:=rfl
@[go_sem] def V5 {k:IntKind}{x:D}:dv (.int k) x=x.isInt k:=rfl
@[go_sem] def PF {x:D}:dv .bool x=x.isBool:=rfl
@[go_sem] def RZ {e:Nat}{x:D}:dv (.slice e) x=(x.one=true):=rfl
@[go_sem] def zdv {t:Ty}{x:D}:cm t (.d x)=.d (bo t x):=rfl
@[go_sem] def TM {t:Ty}{k lo:Nat}:cm t (.sl i g k lo n)=.sl i g k lo n:=rfl
@[go_sem] def zdx {t:Ty}:cm t (.map i)=.map i:=rfl
@[go_sem] def zdy {t:Ty}{x:D}:o6 t (.d x)=dv t x:=rfl
@[go_sem] def Px {t:Ty}{k lo:Nat}:o6 t (.sl i g k lo n)=True:=rfl
@[go_sem] def zdA {t:Ty}:o6 t (.map i)=True:=rfl
@[go_sem] def zdB {k:IntKind}:(Ty.int k).agg=false:=rfl
@[go_sem] def zdC:Ty.bool.agg=false:=rfl
@[go_sem] def Sx {e:Nat}:(Ty.slice e).agg=false:=rfl
@[go_sem] def Yz {k e:Nat}:(Ty.map k e).agg=false:=rfl
@[go_sem] def zdF {fs:List (Nat×Nat)}:(Ty.struct fs).agg=true:=rfl
@[go_sem] def WQ {e:Nat}:(Ty.array n e).agg=true:=rfl
@[go_sem] def ZC:eI []=some []:=rfl
def qe (x:D):Option (List D)->Option (List D)
 | some l=>some (x::l)
 | none=>none
@[go_sem] def zdI {x:D}{r:List I}:eI (.d x::r)=qe x (eI r):=by
 simp only[eI];cases eI r <;> rfl
@[go_sem] def Zf {x:D}:qe x (some l)=some (x::l):=rfl
@[go_sem] def zdK {x:D}:qe x none=none:=rfl
@[go_sem] def zdL {k lo:Nat}{r:List I}:eI (.sl i g k lo n::r)=none:=rfl
@[go_sem] def zdM {o:Nat}{r:List I}:eI (.ptr i o::r)=none:=rfl
def D7 (cs:List I):Option (List D)->I
 | some ds=>.d (.agg ds)
 | none=>.agg cs
@[go_sem] def zdN:bG cs=D7 cs (eI cs):=by
 simp only[bG];cases eI cs <;> rfl
@[go_sem] def Vw:D7 cs (some ds)=.d (.agg ds):=rfl
@[go_sem] def zdP:D7 cs none=.agg cs:=rfl
def uA (g:Nat) (cs:List I):Option (List D)->I
 | some ds=>.d (.fn g ds)
 | none=>.fn g cs
@[go_sem] def zdQ:l7 g cs=uA g cs (eI cs):=by
 simp only[l7];cases eI cs <;> rfl
@[go_sem] def X9:uA g cs none=.fn g cs:=rfl
@[go_sem] def Zv:jF []=True:=rfl
@[go_sem] def zdT {x:I}{r:List I}:jF (x::r)=(oe x/\jF r):=rfl
@[go_sem] def WZ {x:D}:oe (.d x)=(x.one=true):=rfl
@[go_sem] def R1 {k lo:Nat}:oe (.sl i g k lo n)=True:=rfl
@[go_sem] def Xr:oe (.map i)=True:=rfl
def bD:List R->Nat->Option R
 | [],_=>none
 | r::_,0=>some r
 | _::l,n+1=>bD l n
def fD : ∀ (H:List R) (i:Nat),H[i]?=bD H i
 | [],i=>by simp[bD]
 | r::l,0=>by simp[bD]
 | r::l,i+1=>by simpa [bD] using fD l i
def wJ (fr:Fr) (H:List R) (t i g k lo n:Nat):Option R->Option (Prop×Fr×List R)
 | some (.row g' k' dp l)=>some (g=g'/\k=k'/\dp.shut=true,fr.put (some t) (.d (.lst k ((l.drop lo).take n))),H.set i (.dead g'))
 | _=>none
def vB (fr:Fr) (t:Nat):Option (Prop×List D×List R)->Option (Prop×Fr×List R)
 | some (fc,cs',H')=>some (fc,fr.put (some t) (.d (.agg cs')),H')
 | none=>none
def uC (x:D):Option (Prop×List D×List R)->Option (Prop×List D×List R)
 | some (c,xs,H')=>some (c,x::xs,H')
 | none=>none
def pN (c0:Prop) (x:D):Option (Prop×List D×List R)->Option (Prop×List D×List R)
 | some (c,xs,H')=>some (c0/\c,x::xs,H')
 | none=>none
def zw (H:List R) (i g k lo n:Nat) (r:List I):Option R->Option (Prop×List D×List R)
 | some (.row g' k' dp l)=>pN (g=g'/\k=k'/\dp.shut=true) (.lst k ((l.drop lo).take n)) (kf r (H.set i (.dead g')))
 | _=>none
@[go_sem] def zdX:kf [] H=some (True,[],H):=rfl
@[go_sem] def zdY {x:D}{r:List I}:kf (.d x::r) H=uC x (kf r H):=by
 simp only[kf];cases kf r H <;> rfl
@[go_sem] def QK {k lo:Nat}{r:List I}:kf (.sl i g k lo n::r) H=zw H i g k lo n r (bD H i):=by
 simp only[kf];rw[<-fD];cases H[i]? with
 | none=>rfl
 | some y=>
  cases y <;> rfl
@[go_sem] def zea {x:D}{c:Prop}:uC x (some (c,xs,H))=some (c,x::xs,H):=rfl
@[go_sem] def RR {c0:Prop}{x:D}{c:Prop}:pN c0 x (some (c,xs,H))=some (c0/\c,x::xs,H):=rfl
@[go_sem] def XZ {k lo:Nat}{r:List I}:zw H i g k lo n r (some (.row g' k' dp l))=pN (g=g'/\k=k'/\dp.shut=true) (.lst k ((l.drop lo).take n)) (kf r (H.set i (.dead g'))):=rfl
def sA (fr:Fr) (H:List R) (t:Nat):I->Option (Prop×Fr×List R)
 | .sl i g k lo n=>wJ fr H t i g k lo n (bD H i)
 | .agg cs=>vB fr t (kf cs H)
 | _=>none
@[go_sem] def YQ {t:Nat}{c:Prop}{cs:List D}:vB fr t (some (c,cs,H))=some (c,fr.put (some t) (.d (.agg cs)),H):=rfl
@[go_sem] def zee {t:Nat}:sA fr H t (.agg cs)=vB fr t (kf cs H):=rfl
@[go_sem] def Qe {j t:Nat}:pR fr H [(j,.tmp t)]=sA fr H t (fr.get t):=by
 simp only[pR];cases fr.get t <;> simp only[sA]
 ·rename_i cs;cases kf cs H <;> rfl
 ·rename_i i g k lo n;rw[<-fD];cases H[i]? with
  | none=>rfl
  | some r=>cases r <;> rfl
@[go_sem] def SD {t k lo:Nat}:sA fr H t (.sl i g k lo n)=wJ fr H t i g k lo n (bD H i):=rfl
@[go_sem] def ZN {t k lo:Nat}:wJ fr H t i g k lo n (some (.row g' k' dp l))=some (g=g'/\k=k'/\dp.shut=true,fr.put (some t) (.d (.lst k ((l.drop lo).take n))),H.set i (.dead g')):=rfl
@[go_sem] def X7:DP.nL true=.own []:=rfl
@[go_sem] def W6:DP.nL false=.fz:=rfl
@[go_sem] def zek:(DP.own []).shut=true:=rfl
@[go_sem] def Q7:DP.fz.shut=true:=rfl
@[go_sem] def zem {hs:List bQ}:(DP.own hs).o=true:=rfl
@[go_sem] def SK:DP.fz.o=false:=rfl
@[go_sem] def XV {r:R}{l:List R}:bD (r::l) 0=some r:=rfl
@[go_sem] def zep {r:R}{l:List R}:bD (r::l) (n+1)=bD l n:=rfl
attribute [go_sem] cU fm List.cons_append List.nil_append List.set_cons_zero List.set_cons_succ List.drop_succ_cons List.drop_zero List.take_succ_cons List.take_zero List.drop_nil List.take_nil
section draw
variable {K:Fr->Prop}{j:Nat}{want:Bool}
def mJ (E:Env) (all rest:List Oper) (H:List R) (K:Fr->Prop) (fr:Fr) (dst:Option Tmp):Option (Prop×I)->Prop
 | some (vc,x)=>vc/\bg E all H K rest (fr.put dst x)
 | none=>False
def sS (E:Env) (all rest:List Oper) (H:List R) (K:Fr->Prop) (fr:Fr) (dst:Option Tmp):Option (Prop×Bool)->Option (Prop×I)->Prop
 | some (gc,e),some (vc,x)=>gc/\(e=true->vc)/\bg E all H K rest (fr.put dst (.cond e x))
 | _,_=>False
def zj (E:Env) (all rest:List Oper) (H:List R) (K:Fr->Prop) (fr:Fr) (dst:Option Tmp) (c:Prop) (fn:Option (Nat×List I)) (args:List I):Option (Prop×Bool)->Prop
 | some (gc,e)=>gc/\pj E c e fn args H (fun x=>bg E all H K rest (fr.put dst (.cond e (.d x))))
 | none=>False
@[go_sem] def QV {x:I}:mJ E all rest H K fr dst (some (vc,x))=(vc/\bg E all H K rest (fr.put dst x)):=rfl
@[go_sem] def Ru {x:I}:sS E all rest H K fr dst (some (gc,e)) (some (vc,x))=(gc/\(e=true->vc)/\bg E all H K rest (fr.put dst (.cond e x))):=rfl
@[go_sem] def zes {c:Prop}{args:List I}:zj E all rest H K fr dst c fn args (some (gc,e))=(gc/\pj E c e fn args H (fun x=>bg E all H K rest (fr.put dst (.cond e (.d x))))):=rfl
def gk {op:Op}{o:Option (Prop×I)}(h1:fI op=none) (h2:dr E.T fr H op=o):bg E all H K (⟨dst,op,ty,pos,af,none⟩::rest) fr=mJ E all rest H K fr dst o:=by
 simp only[bg,h1,h2];cases o <;> rfl
def nm {op:Op}{o:Option (Prop×I)}(h1:fI op=none) (h2:dr E.T fr H op=o) :
  bg E all H K (⟨dst,op,ty,pos,af,some (j,want)⟩::rest) fr=sS E all rest H K fr dst (guardOf all fr j want) o:=by
 simp only[bg,h1,h2];cases guardOf all fr j want with
 | none=>rfl
 | some g=>cases o <;> rfl
@[go_sem] def zet:bg E all H K [] fr=K fr:=rfl
@[go_sem] def WT {g:Operand}{args:List Operand}:bg E all H K (⟨dst,.call ⟨.value g,args.toArray,ts⟩,ty,pos,af,none⟩::rest) fr =
  pj E (aE fr g/\dJ fr args) true (eE (ap fr g)) (gM fr args) H (fun x=>bg E all H K rest (fr.put dst (.d x))):=by simp only[bg,fI]
@[go_sem] def QC {g:Operand}{args:List Operand}:bg E all H K (⟨dst,.call ⟨.value g,args.toArray,ts⟩,ty,pos,af,some (j,want)⟩::rest) fr =
  zj E all rest H K fr dst (aE fr g/\dJ fr args) (eE (ap fr g)) (gM fr args) (guardOf all fr j want):=by
 simp only[bg,fI];cases guardOf all fr j want <;> rfl
@[go_sem] def X3 {T:Nat->Option TI}{l:List Oper}:quiet T l=(c8 l&&yh T l):=rfl
@[go_sem] def QF {T:Nat->Option TI}:yh T []=true:=rfl
@[go_sem] def zey:xx pf []=true:=rfl
@[go_sem] def ZE {T:Nat->Option TI}{op:Op}:yh T (⟨dst,op,ty,pos,af,gd⟩::rest)=(iO T ty op&&yh T rest):=rfl
@[go_sem] def qtb {op:Op}:xx pf (⟨dst,op,ty,pos,af,gd⟩::rest)=(!iy pf op&&xx pf rest):=rfl
@[go_sem] def zeA {k:IntKind}{a b:Nat}{z:D}:yw (some ⟨.int k,a,b,z⟩)=true:=rfl
@[go_sem] def zeB {a b:Nat}{z:D}:yw (some ⟨.bool,a,b,z⟩)=true:=rfl
@[go_sem] def SF {t:Ty}{a b:Nat}{z:D}(h1 : ∀ k,t=.int k->False) (h2:t=.bool->False):yw (some ⟨t,a,b,z⟩)=false:=by
 cases t with
 | int k=>exact absurd rfl (fun h=>h1 k h)
 | bool=>exact absurd rfl (fun h=>h2 h)
 | _=>rfl
@[go_sem] def SJ {T:Nat->Option TI}{g:Operand}:iO T ty (.call ⟨.value g,args,ts⟩)=yw (T ty):=rfl
@[go_sem] def QM:iy pf (.call ⟨.value (.func g),args,ts⟩)=zx (pf g):=rfl
@[go_sem] def zeF {g:Tmp}:iy pf (.call ⟨.value (.tmp g),args,ts⟩)=false:=rfl
@[go_sem] def zeG:zx .own=false:=rfl
@[go_sem] def X1:zx .fz=false:=rfl
@[go_sem] def qtc:zx .proc=true:=rfl
@[go_sem] def VF {T:Nat->Option TI}{b:Builtin}:iO T ty (.call ⟨.builtin b,args,ts⟩)=true:=rfl
@[go_sem] def qrL {b:Builtin}:iy pf (.call ⟨.builtin b,args,ts⟩)=false:=rfl
@[go_sem] def TA {T:Nat->Option TI}:iO T ty (.move x)=true:=rfl
@[go_sem] def zeJ:iy pf (.move x)=false:=rfl
@[go_sem] def WH {T:Nat->Option TI}:iO T ty (.assign x)=true:=rfl
@[go_sem] def Tb:iy pf (.assign x)=false:=rfl
@[go_sem] def T3 {T:Nat->Option TI}:iO T ty (.pick c x y)=true:=rfl
@[go_sem] def YG:iy pf (.pick c x y)=false:=rfl
@[go_sem] def Ya {T:Nat->Option TI}:iO T ty (.build t p)=true:=rfl
@[go_sem] def PL:iy pf (.build t p)=false:=rfl
@[go_sem] def W1 {T:Nat->Option TI}:iO T ty (.load t x)=true:=rfl
@[go_sem] def QE:iy pf (.load t x)=false:=rfl
@[go_sem] def QS {T:Nat->Option TI}:iO T ty (.nilCheck x)=true:=rfl
@[go_sem] def X6:iy pf (.nilCheck x)=false:=rfl
@[go_sem] def Zo {T:Nat->Option TI}:iO T ty (.binOp op t x y yt)=true:=rfl
@[go_sem] def zeR:iy pf (.binOp op t x y yt)=false:=rfl
@[go_sem] def QU {T:Nat->Option TI}{op:UnOp}:iO T ty (.unOp op t x)=true:=rfl
@[go_sem] def RW {op:UnOp}:iy pf (.unOp op t x)=false:=rfl
@[go_sem] def qrM {T:Nat->Option TI}:iO T ty (.convert t u x)=true:=rfl
@[go_sem] def VY:iy pf (.convert t u x)=false:=rfl
@[go_sem] def WA {T:Nat->Option TI}{c:Fn}{b:Array Operand}:iO T ty (.makeFunc c a b)=true:=rfl
@[go_sem] def ZT {c:Fn}{b:Array Operand}:iy pf (.makeFunc c a b)=false:=rfl
@[go_sem] def TD {T:Nat->Option TI}:iO T ty (.slice t x lo hi mx)=true:=rfl
@[go_sem] def QQ:iy pf (.slice t x lo hi mx)=false:=rfl
@[go_sem] def Qn {T:Nat->Option TI}:iO T ty (.fieldAddr t x i)=true:=rfl
@[go_sem] def Rh:iy pf (.fieldAddr t x i)=false:=rfl
@[go_sem] def qpC {T:Nat->Option TI}:iO T ty (.indexAddr t x y)=true:=rfl
@[go_sem] def VH:iy pf (.indexAddr t x y)=false:=rfl
@[go_sem] def Vy {T:Nat->Option TI}:iO T ty (.index t x y)=true:=rfl
@[go_sem] def Th:iy pf (.index t x y)=false:=rfl
@[go_sem] def Xe {T:Nat->Option TI}:iO T ty (.extract x i)=true:=rfl
@[go_sem] def UC:iy pf (.extract x i)=false:=rfl
@[go_sem] def W4 {T:Nat->Option TI}:iO T ty (.lookup t x y ok)=true:=rfl
@[go_sem] def Ye:iy pf (.lookup t x y ok)=false:=rfl
@[go_sem] def qpE {T:Nat->Option TI}{m:Operand}:iO T ty (.mapUpdate t m x y)=true:=rfl
@[go_sem] def qpF {m:Operand}:iy pf (.mapUpdate t m x y)=false:=rfl
@[go_sem] def zeY {T:Nat->Option TI}:iO T ty (.box t x)=true:=rfl
@[go_sem] def zeZ:iy pf (.box t x)=false:=rfl
@[go_sem] def PO {T:Nat->Option TI}:iO T ty (.alloc t)=true:=rfl
@[go_sem] def zfb:iy pf (.alloc t)=false:=rfl
@[go_sem] def Xs {T:Nat->Option TI}:iO T ty (.buildSlice t n parts)=true:=rfl
@[go_sem] def SH:iy pf (.buildSlice t n parts)=false:=rfl
@[go_sem] def Yl {T:Nat->Option TI}:iO T ty (.store t x y)=true:=rfl
@[go_sem] def zfd:iy pf (.store t x y)=false:=rfl
@[go_sem] def Yu:c8 []=true:=rfl
@[go_sem] def XS {g:Operand}{args:List Operand}:c8 (⟨dst,.call ⟨.value g,args.toArray,ts⟩,ty,pos,af,gd⟩::rest)=c8 rest:=rfl
def Fc (E:Env) (c:Prop) (e:Bool) (f:Nat) (K:D->Prop):Option (Prop×List D)->Prop
 | some (vc,ds)=>(e=true->c/\vc)/\A7 E e f ds K
 | none=>False
@[go_sem] def zfg {c:Prop}{caps args:List I}{K:D->Prop}:pj E c e (some (g,caps)) args H K=Fc E c e g K (mh H (args++caps)):=by
 simp only[pj];cases mh H (args++caps) <;> rfl
@[go_sem] def zfh {c:Prop}{K:D->Prop}:Fc E c e g K (some (vc,ds))=((e=true->c/\vc)/\A7 E e g ds K):=rfl
def nP {K:D->Prop}{x:D}(h:e=true->Pure E.P g ds x/\dR x) (hk:K x):A7 E e g ds K:=⟨x,h,hk⟩
@[go_sem] def PV:bg E all H K (⟨dst,.move x,ty,pos,af,none⟩::rest) fr=mJ E all rest H K fr dst (some (aE fr x,ap fr x)):=gk rfl rfl
@[go_sem] def Ra:bg E all H K (⟨dst,.assign x,ty,pos,af,none⟩::rest) fr=mJ E all rest H K fr dst (some (aE fr x,ap fr x)):=gk rfl rfl
@[go_sem] def XM:bg E all H K (⟨dst,.pick c x y,ty,pos,af,none⟩::rest) fr=mJ E all rest H K fr dst (aN (aE fr c) (wg (ap fr c) (ap fr x) (ap fr y) (aE fr x) (aE fr y))):=gk rfl rfl
@[go_sem] def zfl:bg E all H K (⟨dst,.load t x,ty,pos,af,none⟩::rest) fr=mJ E all rest H K fr dst (aN (aE fr x) (nl E.T H t (ap fr x))):=gk rfl rfl
@[go_sem] def Qg:bg E all H K (⟨dst,.nilCheck x,ty,pos,af,none⟩::rest) fr=mJ E all rest H K fr dst (aN (aE fr x) (jo H (ap fr x))):=gk rfl rfl
@[go_sem] def zfn:bg E all H K (⟨dst,.binOp op t x y yt,ty,pos,af,none⟩::rest) fr=mJ E all rest H K fr dst (aN (aE fr x/\aE fr y) (kE E.T H op t (ap fr x) (ap fr y))):=gk rfl rfl
@[go_sem] def zfo {op:UnOp}:bg E all H K (⟨dst,.unOp op t x,ty,pos,af,none⟩::rest) fr=mJ E all rest H K fr dst (aN (aE fr x) (wu op (ap fr x))):=gk rfl rfl
@[go_sem] def zfp:bg E all H K (⟨dst,.convert s t x,ty,pos,af,none⟩::rest) fr=mJ E all rest H K fr dst (aN (aE fr x) (vZ E.T s t (ap fr x))):=gk rfl rfl
@[go_sem] def zfq:bg E all H K (⟨dst,.slice t x lo hi mx,ty,pos,af,none⟩::rest) fr=mJ E all rest H K fr dst (aN (aE fr x/\pS fr lo/\pS fr hi) (uy E.T H t (ap fr x) (dD fr lo) (dD fr hi) (dD fr mx))):=gk rfl rfl
@[go_sem] def RT:bg E all H K (⟨dst,.fieldAddr t x i,ty,pos,af,none⟩::rest) fr=mJ E all rest H K fr dst (aN (aE fr x) (uU E.T H t (ap fr x) i)):=gk rfl rfl
@[go_sem] def PI:bg E all H K (⟨dst,.indexAddr t x y,ty,pos,af,none⟩::rest) fr=mJ E all rest H K fr dst (aN (aE fr x/\aE fr y) (sd E.T H t (ap fr x) (ap fr y))):=gk rfl rfl
@[go_sem] def WE:bg E all H K (⟨dst,.lookup t x y ok,ty,pos,af,none⟩::rest) fr=mJ E all rest H K fr dst (aN (aE fr x/\aE fr y) (ua E.T H t (ap fr x) (ap fr y) ok)):=gk rfl rfl
@[go_sem] def zfs:bg E all H K (⟨dst,.extract x i,ty,pos,af,none⟩::rest) fr=mJ E all rest H K fr dst (aN (aE fr x) (wv (ap fr x) i)):=gk rfl rfl
@[go_sem] def VP:bg E all H K (⟨dst,.call ⟨.builtin .len,#[x],#[t]⟩,ty,pos,af,none⟩::rest) fr=mJ E all rest H K fr dst (aN (aE fr x) (dc E.T H t (ap fr x))):=gk rfl rfl
@[go_sem] def V8:bg E all H K (⟨dst,.move x,ty,pos,af,some (j,want)⟩::rest) fr=sS E all rest H K fr dst (guardOf all fr j want) (some (aE fr x,ap fr x)):=nm rfl rfl
@[go_sem] def Vf:bg E all H K (⟨dst,.pick c x y,ty,pos,af,some (j,want)⟩::rest) fr=sS E all rest H K fr dst (guardOf all fr j want) (aN (aE fr c) (wg (ap fr c) (ap fr x) (ap fr y) (aE fr x) (aE fr y))):=nm rfl rfl
@[go_sem] def Rw:bg E all H K (⟨dst,.load t x,ty,pos,af,some (j,want)⟩::rest) fr=sS E all rest H K fr dst (guardOf all fr j want) (aN (aE fr x) (nl E.T H t (ap fr x))):=nm rfl rfl
@[go_sem] def zfx:bg E all H K (⟨dst,.binOp op t x y yt,ty,pos,af,some (j,want)⟩::rest) fr=sS E all rest H K fr dst (guardOf all fr j want) (aN (aE fr x/\aE fr y) (kE E.T H op t (ap fr x) (ap fr y))):=nm rfl rfl
@[go_sem] def We:bg E all H K (⟨dst,.slice t x lo hi mx,ty,pos,af,some (j,want)⟩::rest) fr=sS E all rest H K fr dst (guardOf all fr j want) (aN (aE fr x/\pS fr lo/\pS fr hi) (uy E.T H t (ap fr x) (dD fr lo) (dD fr hi) (dD fr mx))):=nm rfl rfl
@[go_sem] def qrQ:bg E all H K (⟨dst,.indexAddr t x y,ty,pos,af,some (j,want)⟩::rest) fr=sS E all rest H K fr dst (guardOf all fr j want) (aN (aE fr x/\aE fr y) (sd E.T H t (ap fr x) (ap fr y))):=nm rfl rfl
@[go_sem] def zfz:bg E all H K (⟨dst,.call ⟨.builtin .len,#[x],#[t]⟩,ty,pos,af,some (j,want)⟩::rest) fr=sS E all rest H K fr dst (guardOf all fr j want) (aN (aE fr x) (dc E.T H t (ap fr x))):=nm rfl rfl
@[go_sem] def QJ:c8 (⟨dst,.move x,ty,pos,af,gd⟩::rest)=c8 rest:=rfl
@[go_sem] def WV:c8 (⟨dst,.assign x,ty,pos,af,gd⟩::rest)=c8 rest:=rfl
@[go_sem] def Su:c8 (⟨dst,.pick c x y,ty,pos,af,gd⟩::rest)=c8 rest:=rfl
@[go_sem] def Wc:c8 (⟨dst,.build t parts,ty,pos,af,gd⟩::rest)=c8 rest:=rfl
@[go_sem] def ZD:c8 (⟨dst,.load t x,ty,pos,af,gd⟩::rest)=c8 rest:=rfl
@[go_sem] def W0:c8 (⟨dst,.nilCheck x,ty,pos,af,gd⟩::rest)=c8 rest:=rfl
@[go_sem] def ZI:c8 (⟨dst,.binOp op t x y yt,ty,pos,af,gd⟩::rest)=c8 rest:=rfl
@[go_sem] def zfD {op:UnOp}:c8 (⟨dst,.unOp op t x,ty,pos,af,gd⟩::rest)=c8 rest:=rfl
@[go_sem] def RB:c8 (⟨dst,.convert s t x,ty,pos,af,gd⟩::rest)=c8 rest:=rfl
@[go_sem] def Wo:c8 (⟨dst,.slice t x lo hi mx,ty,pos,af,gd⟩::rest)=c8 rest:=rfl
@[go_sem] def Sp:c8 (⟨dst,.fieldAddr t x i,ty,pos,af,gd⟩::rest)=c8 rest:=rfl
@[go_sem] def qo0:c8 (⟨dst,.indexAddr t x y,ty,pos,af,gd⟩::rest)=c8 rest:=rfl
@[go_sem] def qtn:c8 (⟨dst,.index t x y,ty,pos,af,gd⟩::rest)=c8 rest:=rfl
@[go_sem] def Wb:c8 (⟨dst,.extract x i,ty,pos,af,gd⟩::rest)=c8 rest:=rfl
@[go_sem] def zfE:c8 (⟨dst,.call ⟨.builtin .len,#[x],#[t]⟩,ty,pos,af,gd⟩::rest)=c8 rest:=rfl
@[go_sem] def zfF:c8 (⟨dst,.call ⟨.builtin .min,#[x,y],ts⟩,ty,pos,af,gd⟩::rest)=c8 rest:=rfl
@[go_sem] def UY:c8 (⟨dst,.call ⟨.builtin .max,#[x,y],ts⟩,ty,pos,af,gd⟩::rest)=c8 rest:=rfl
@[go_sem] def YC:c8 (⟨dst,.lookup t x y ok,ty,pos,af,gd⟩::rest)=c8 rest:=rfl
@[go_sem] def RO {m:Operand}:c8 (⟨dst,.mapUpdate t m x y,ty,pos,af,gd⟩::rest)=false:=rfl
@[go_sem] def zfH:c8 (⟨dst,.box t x,ty,pos,af,gd⟩::rest)=false:=rfl
@[go_sem] def V6:c8 (⟨dst,.alloc t,ty,pos,af,gd⟩::rest)=false:=rfl
@[go_sem] def qox:c8 (⟨dst,.buildSlice t n parts,ty,pos,af,gd⟩::rest)=false:=rfl
@[go_sem] def TR:c8 (⟨dst,.store t x y,ty,pos,af,gd⟩::rest)=false:=rfl
@[go_sem] def Qq:c8 (⟨dst,.call ⟨.builtin .append,#[x,y],#[t,t']⟩,ty,pos,af,gd⟩::rest)=false:=rfl
end draw
end Go.VL
namespace Go.VL
set_option linter.defProp false
variable {o:Option (Prop×I)}{t e n j a g2 f l0:Nat}{p:Nat×Nat}{pd zr iv xd:D}{cs xs:List I}{vc0 vc:Prop}{m:Bool}{os is:List Nat}{h:bQ}{es:List (D×D)}{dp:DP}{ix:I}{lo hi:Option I}{d:Int}{op:BinOp}
variable {E:Env}{Q:aX}{fr:Fr}{H:List R}{T:Nat->Option TI}{ty:Ty}{sz b:Nat}{z:D}
def Bf:Bool->Ty->Nat->D->Option (Prop×I)
 | true,_,sz,pd=>some (pd.cK/\sz<=pd.cH.length,.d (.agg (pd.cH.take sz)))
 | false,ty,_,pd=>some (pd.cK/\0<pd.cH.length/\dv ty (pd.cH.getD 0 .nil),.d (bo ty (pd.cH.getD 0 .nil)))
def AB:Option R->Bool->Ty->Nat->Nat->Option (Prop×I)
 | some (.box cs),true,_,sz,off=>some (off+sz<=cs.length/\jF ((cs.drop off).take sz),bG ((cs.drop off).take sz))
 | some (.box cs),false,ty,_,off=>some (off<cs.length/\o6 ty (cs.getD off .junk),cm ty (cs.getD off .junk))
 | _,_,_,_,_=>none
def po (b:Bool) (o:Option (Prop×I)):Option (Prop×I):=
 match b with
 | true=>none
 | false=>o
@[go_sem] def S3:po true o=none:=rfl
@[go_sem] def Xi:po false o=o:=rfl
def pX:Option R->Bool->Ty->Nat->D->Nat->Nat->Nat->Nat->D->Option (Prop×I)
 | some (.row g' k' .fz l),true,_,sz,_,g,k,idx,off,z=>some (g=g'/\k=k'/\idx<l.length/\off+sz<=k,.d (.agg (bT (l.getD idx z) off sz)))
 | some (.row g' k' .fz l),false,ty,sz,_,g,k,idx,off,z=>some (g=g'/\k=k'/\idx<l.length/\off<k/\dv ty ((l.getD idx z).cellAt off),.d (bo ty ((l.getD idx z).cellAt off)))
 | some (.row g' k' (.own []) l),true,_,sz,zr,g,k,idx,off,z=>po (ug zr) (some (g=g'/\k=k'/\idx<l.length/\off+sz<=k/\∀ c∈bT (l.getD idx z) off sz,c.scalar=true,.d (.agg (bT (l.getD idx z) off sz))))
 | some (.row g' k' (.own hs) l),true,_,sz,zr,g,k,idx,off,z=>po (ug zr)
   (
    match gG k' hs idx (l.getD idx z) zr.cells off with
    | some (vc,xs)=>some (g=g'/\k=k'/\idx<l.length/\off+sz<=k/\zr.cells.length=sz/\vc/\jF xs,bG xs)
    | none=>none)
 | some (.row g' k' (.own _) l),false,ty,sz,_,g,k,idx,off,z=>po (gC ty) (some (g=g'/\k=k'/\idx<l.length/\off<k/\dv ty ((l.getD idx z).cellAt off),.d (bo ty ((l.getD idx z).cellAt off))))
 | _,_,_,_,_,_,_,_,_,_=>none
def we:Option TI->List R->I->Option (Prop×I)
 | some ti,_,.d pd=>Bf ti.ty.agg ti.ty ti.size pd
 | some ti,H,.ptr i off=>AB (bD H i) ti.ty.agg ti.ty ti.size off
 | some ti,H,.eptr i g k idx off z=>pX (bD H i) ti.ty.agg ti.ty ti.size ti.zero g k idx off z
 | _,_,_=>none
@[go_sem] def zfK {p:I}:nl T H t p=we (T t) H p:=by
 unfold nl;cases hT:T t with
 | none=>cases p <;> simp only[lp,hT] <;> rfl
 | some ti=>
  cases p with
  | d pd=>simp only[we,lp,hT];cases ti.ty.agg <;> rfl
  | ptr i off=>
   simp only[we,lp,hT,<-fD];cases H[i]? with
   | none=>rfl
   | some r=>
    cases r <;> first|rfl|(rename_i cs;cases ti.ty.agg <;> rfl)
  | eptr i g k idx off z=>
   simp only[we,<-fD];cases hi:H[i]? with
   | none=>simp only[lp,hT,hi];rfl
   | some r=>
    cases r with
    | row g' k' dp l=>
     cases dp with
     | fz=>
      simp only[lp,hT,hi];cases ti.ty.agg <;> rfl
     | own hs=>
      simp only[Fg];cases ha:ti.ty.agg with
      | true=>
       cases hn:ug ti.zero with
       | true=>cases hs <;> simp only[pX,hn,po]
       | false=>
        cases hs with
        | nil=>simp only[lp,hT,hi,ha,hn,pX,po]
        | cons x r=>
         simp only[lp,hT,hi,ha,hn,pX,po];cases gG k' (x::r) idx (l.getD idx z) ti.zero.cells off <;> rfl
      | false=>
       cases hn:gC ti.ty with
       | true=>cases hs <;> simp only[pX,hn,po]
       | false=>cases hs <;> simp only[lp,hT,hi,ha,hn,pX,po]
    | _=>simp only[lp,hT,hi] <;> rfl
  | _=>simp only[lp,hT] <;> rfl
@[go_sem] def XB:we (some ⟨ty,sz,b,z⟩) H (.d pd)=Bf ty.agg ty sz pd:=rfl
@[go_sem] def VR {i off:Nat}:we (some ⟨ty,sz,b,z⟩) H (.ptr i off)=AB (bD H i) ty.agg ty sz off:=rfl
@[go_sem] def ZS {i g k idx off:Nat}{z':D}:we (some ⟨ty,sz,b,z⟩) H (.eptr i g k idx off z')=pX (bD H i) ty.agg ty sz z g k idx off z':=rfl
@[go_sem] def SX:Bf true ty sz pd=some (pd.cK/\sz<=pd.cH.length,.d (.agg (pd.cH.take sz))):=rfl
@[go_sem] def Vp:Bf false ty sz pd=some (pd.cK/\0<pd.cH.length/\dv ty (pd.cH.getD 0 .nil),.d (bo ty (pd.cH.getD 0 .nil))):=rfl
@[go_sem] def zfP {off:Nat}:AB (some (.box cs)) true ty sz off=some (off+sz<=cs.length/\jF ((cs.drop off).take sz),bG ((cs.drop off).take sz)):=rfl
@[go_sem] def RK {off:Nat}:AB (some (.box cs)) false ty sz off=some (off<cs.length/\o6 ty (cs.getD off .junk),cm ty (cs.getD off .junk)):=rfl
section
variable {g k g' k' idx off:Nat}{l:List D}{z':D}{kk:IntKind}{hs:List bQ}
@[go_sem] def ZL:pX (some (.row g' k' .fz l)) true ty sz z g k idx off z'=some (g=g'/\k=k'/\idx<l.length/\off+sz<=k,.d (.agg (bT (l.getD idx z') off sz))):=rfl
@[go_sem] def Wy:pX (some (.row g' k' (.own []) l)) true ty sz z g k idx off z'=po (ug z) (some (g=g'/\k=k'/\idx<l.length/\off+sz<=k/\∀ c∈bT (l.getD idx z') off sz,c.scalar=true,.d (.agg (bT (l.getD idx z') off sz)))):=rfl
@[go_sem] def zfS:pX (some (.row g' k' .fz l)) false ty sz z g k idx off z'=some (g=g'/\k=k'/\idx<l.length/\off<k/\dv ty ((l.getD idx z').cellAt off),.d (bo ty ((l.getD idx z').cellAt off))):=rfl
@[go_sem] def YS:pX (some (.row g' k' (.own hs) l)) false ty sz z g k idx off z'=po (gC ty) (some (g=g'/\k=k'/\idx<l.length/\off<k/\dv ty ((l.getD idx z').cellAt off),.d (bo ty ((l.getD idx z').cellAt off)))):=by cases hs <;> rfl
@[go_sem] def SO:gC (.int kk)=false:=rfl
@[go_sem] def Ul:gC .bool=false:=rfl
@[go_sem] def zfW:gC (.slice e)=true:=rfl
@[go_sem] def zfX {cs:List D}:ug (.agg cs)=cs.any D.isNil:=rfl
end
attribute [go_sem] List.any_cons List.any_nil Bool.or_false Bool.false_or Bool.or_true Bool.true_or
@[go_sem] def zfY {k:IntKind}{n:Int}:(D.int k n).isNil=false:=rfl
@[go_sem] def RA {x:Bool}:(D.bool x).isNil=false:=rfl
section
variable {g k g' k' idx off i:Nat}{l:List D}{hs:List bQ}{x:I}
def uY (vc0:Prop) (H':List R):Option (Prop×I)->Prop->Option (Prop×I×List R)
 | some (vc',x),vc=>some (vc0/\vc/\vc',x,H')
 | none,_=>none
def rW (T:Nat->Option TI) (t:Nat) (p:I) (vc0:Prop):Option (Prop×List R)->Option (Prop×I×List R)
 | some (vc,H')=>uY vc0 H' (uv T H' t p) vc
 | none=>none
def qk (T:Nat->Option TI) (t:Nat) (p:I) (i idx off:Nat) (z:D) (zr:D) (q:Prop×List R):Option (Prop×I×List R):=rW T t p q.1 (nV z i idx (oI zr.cells off) q.2)
def MC {z':D}(hT:T t=some ⟨ty,sz,b,z⟩):qB T H t (.eptr i g k idx off z')=qk T t (.eptr i g k idx off z') i idx off z' z (shut H):=by
 simp only[qB,hT,qk];cases nV z' i idx (oI z.cells off) (shut H).2 with
 | none=>rfl
 | some p=>
  obtain⟨vc,H'⟩:=p;simp only[rW];cases uv T H' t (.eptr i g k idx off z') <;> rfl
def yq (T:Nat->Option TI) (H:List R) (t:Nat) (p:I):Option TI->Option (Prop×I×List R)
 | some ti=>match p with
  | .eptr i g k idx off z=>qk T t (.eptr i g k idx off z) i idx off z ti.zero (shut H)
  | _=>none
 | none=>none
@[go_sem] def W2 {p:I}:qB T H t p=yq T H t p (T t):=by
 cases hT:T t with
 | none=>simp only[qB,hT];cases p <;> rfl
 | some ti=>
  obtain⟨ty,sz,b,z⟩:=ti;cases p with
  | eptr i g k idx off z'=>exact MC hT
  | _=>simp only[qB,hT];rfl
@[go_sem] def zgb {z':D}:yq T H t (.eptr i g k idx off z') (some ⟨ty,sz,b,z⟩)=qk T t (.eptr i g k idx off z') i idx off z' z (shut H):=rfl
@[go_sem] def zgc {p:I}{z':D}:qk T t p i idx off z' zr (vc0,H)=rW T t p vc0 (nV z' i idx (oI zr.cells off) H):=rfl
@[go_sem] def YH {p:I}:rW T t p vc0 (some (vc,H))=uY vc0 H (uv T H t p) vc:=rfl
@[go_sem] def XF {vc':Prop}:uY vc0 H (some (vc',x)) vc=some (vc0/\vc/\vc',x,H):=rfl
@[go_sem] def zgf:oI [] n=[]:=rfl
@[go_sem] def Xf {r:List D}:oI (.nil::r) n=n::oI r (n+1):=rfl
@[go_sem] def zgh {r:List D}{k:IntKind}{m:Int}:oI (.int k m::r) n=oI r (n+1):=rfl
@[go_sem] def zgi {r:List D}:oI (.bool m::r) n=oI r (n+1):=rfl
@[go_sem] def zgj {z':D}:nV z' i idx [] H=some (True,H):=rfl
def DY (c:Prop):Option (Prop×List R)->Option (Prop×List R)
 | some (vc,H')=>some (c/\vc,H')
 | none=>none
@[go_sem] def zgk {c:Prop}:DY c (some (vc,H))=some (c/\vc,H):=rfl
def DV (z:D) (H:List R) (i idx o:Nat) (os:List Nat):Option R->Option (Prop×List R)
 | some (.row g k (.own hs) l)=>DY (tN ((l.getD idx z).cellAt o)/\apart idx o hs/\o<k/\idx<l.length)
   (nV z i idx os (H.set i (.row g k (.own ((idx,o,.sl H.length 1 (re ((l.getD idx z).cellAt o)) 0 ((l.getD idx z).cellAt o).elems.length)::hs)) l) ++
     [.row 1 (re ((l.getD idx z).cellAt o)) (.own []) ((l.getD idx z).cellAt o).elems]))
 | _=>none
@[go_sem] def X5 {z':D}{o:Nat}:nV z' i idx (o::os) H=DV z' H i idx o os (bD H i):=by
 simp only[nV,fD];cases bD H i with
 | none=>rfl
 | some r=>
  cases r with
  | row g k dp l=>
   cases dp with
   | fz=>rfl
   | own hs=>
    simp only[DV];cases nV z' i idx os (H.set i (.row g k (.own ((idx,o,.sl H.length 1 (re ((l.getD idx z').cellAt o)) 0 ((l.getD idx z').cellAt o).elems.length)::hs)) l) ++
     [.row 1 (re ((l.getD idx z').cellAt o)) (.own []) ((l.getD idx z').cellAt o).elems]) <;> rfl
  | _=>rfl
@[go_sem] def zgm {z':D}{o:Nat}:DV z' H i idx o os (some (.row g k (.own hs) l))=DY (tN ((l.getD idx z').cellAt o)/\apart idx o hs/\o<k/\idx<l.length)
   (nV z' i idx os (H.set i (.row g k (.own ((idx,o,.sl H.length 1 (re ((l.getD idx z').cellAt o)) 0 ((l.getD idx z').cellAt o).elems.length)::hs)) l) ++
     [.row 1 (re ((l.getD idx z').cellAt o)) (.own []) ((l.getD idx z').cellAt o).elems])):=rfl
@[go_sem] def zgn {l:List D}:re (.lst k l)=k:=rfl
@[go_sem] def Um {l:List D}:tN (.lst k l)=True:=rfl
@[go_sem] def zgp:apart idx off []=True:=rfl
@[go_sem] def zgq:apart idx off (h::hs)=((h.1=idx/\h.2.1≠off)/\apart idx off hs):=rfl
@[go_sem] def QY:cu k [] j=none:=rfl
@[go_sem] def zgs {c:Nat}:cu k ((a,c,x)::hs) j=if a*k+c=j then some x else cu k hs j:=rfl
def Ee (ty:Ty) (sz g k g' k' idx off:Nat) (l:List D) (zr:D):Option (Prop×List I)->Option (Prop×I)
 | some (vc,xs)=>some (g=g'/\k=k'/\idx<l.length/\off+sz<=k/\zr.cells.length=sz/\vc/\jF xs,bG xs)
 | none=>none
def BU (ty:Ty) (g k g' k' idx off:Nat) (l:List D):Option I->Option (Prop×I)
 | some x=>some (g=g'/\k=k'/\idx<l.length/\off<k/\o6 ty x,cm ty x)
 | none=>none
def BN (b:Bool) (o:Option (Prop×I)):Option (Prop×I):=
 match b with
 | true=>o
 | false=>none
@[go_sem] def Yt:BN true o=o:=rfl
def xq (ti:TI) (g k idx off:Nat) (z:D):Option R->Bool->Option (Prop×I)
 | some (.row g' k' (.own (h::hs)) l),true=>Ee ti.ty ti.size g k g' k' idx off l ti.zero (gG k' (h::hs) idx (l.getD idx z) ti.zero.cells off)
 | some (.row g' k' (.own (h::hs)) l),false=>BN (gC ti.ty) (BU ti.ty g k g' k' idx off l (cu k' (h::hs) (idx*k'+off)))
 | _,_=>none
def DC (H:List R):Option TI->I->Option (Prop×I)
 | some ti,.eptr i g k idx off z=>xq ti g k idx off z (bD H i) ti.ty.agg
 | _,_=>none
@[go_sem] def Zj {p:I}:uv T H t p=DC H (T t) p:=by
 unfold uv;cases T t with
 | none=>rfl
 | some ti=>
  cases p with
  | eptr i g k idx off z=>
   simp only[DC,<-fD];cases H[i]? with
   | none=>rfl
   | some r=>
    cases r with
    | row g' k' dp l=>
     cases dp with
     | fz=>cases ti.ty.agg <;> rfl
     | own hs=>
      cases hs with
      | nil=>cases ti.ty.agg <;> rfl
      | cons h hs=>
       cases ti.ty.agg with
       | true=>simp only[xq];cases gG k' (h::hs) idx (l.getD idx z) ti.zero.cells off <;> rfl
       | false=>
        simp only[xq];cases gC ti.ty with
        | true=>simp only[BN];cases cu k' (h::hs) (idx*k'+off) <;> rfl
        | false=>rfl
    | _=>cases ti.ty.agg <;> rfl
  | _=>rfl
@[go_sem] def zgv {z':D}:DC H (some ⟨ty,sz,b,z⟩) (.eptr i g k idx off z')=xq ⟨ty,sz,b,z⟩ g k idx off z' (bD H i) ty.agg:=rfl
@[go_sem] def Ys {z':D}:xq ⟨ty,sz,b,z⟩ g k idx off z' (some (.row g' k' (.own (h::hs)) l)) true=Ee ty sz g k g' k' idx off l z (gG k' (h::hs) idx (l.getD idx z') z.cells off):=rfl
@[go_sem] def TJ {z':D}:xq ⟨ty,sz,b,z⟩ g k idx off z' (some (.row g' k' (.own (h::hs)) l)) false=BN (gC ty) (BU ty g k g' k' idx off l (cu k' (h::hs) (idx*k'+off))):=rfl
@[go_sem] def VB:Ee ty sz g k g' k' idx off l zr (some (vc,xs))=some (g=g'/\k=k'/\idx<l.length/\off+sz<=k/\zr.cells.length=sz/\vc/\jF xs,bG xs):=rfl
@[go_sem] def QR:BU ty g k g' k' idx off l (some x)=some (g=g'/\k=k'/\idx<l.length/\off<k/\o6 ty x,cm ty x):=rfl
def zy (x:Option I):Option (Prop×List I)->Option (Prop×List I)
 | some (vc,xs)=>match x with
  | some x=>some (vc,x::xs)
  | none=>none
 | none=>none
def vQ (c:D):Option (Prop×List I)->Option (Prop×List I)
 | some (vc,xs)=>some (c.scalar=true/\vc,.d c::xs)
 | none=>none
@[go_sem] def zgA:zy (some x) (some (vc,xs))=some (vc,x::xs):=rfl
@[go_sem] def zgB {c:D}:vQ c (some (vc,xs))=some (c.scalar=true/\vc,.d c::xs):=rfl
variable {c:D}{r:List D}
@[go_sem] def zgC:gG k hs idx c [] off=some (True,[]):=rfl
@[go_sem] def Yi:gG k hs idx c (.nil::r) off=zy (cu k hs (idx*k+off)) (gG k hs idx c r (off+1)):=by
 simp only[gG];cases cu k hs (idx*k+off) <;> cases gG k hs idx c r (off+1) <;> rfl
@[go_sem] def zgE {kk:IntKind}{m:Int}:gG k hs idx c (.int kk m::r) off=vQ (c.cellAt off) (gG k hs idx c r (off+1)):=by
 simp only[gG];cases gG k hs idx c r (off+1) <;> rfl
@[go_sem] def zgF:gG k hs idx c (.bool m::r) off=vQ (c.cellAt off) (gG k hs idx c r (off+1)):=by
 simp only[gG];cases gG k hs idx c r (off+1) <;> rfl
def sX (H:List R) (i g k idx off r g' k' n:Nat) (hs:List bQ) (l:List D):Option R->Option (Prop×List R)
 | some (.row g2 k2 (.own []) es)=>some (g'=g2/\k'=k2/\r≠i/\apart idx off hs/\off<k/\idx<l.length,
    (H.set i (.row g k (.own hs) (cY k l idx off (.lst k' (es.take n))))).set r (.dead g2))
 | _=>none
def kX (H:List R) (i:Nat):Option R->Option (Prop×List R)
 | some (.row g k (.own ((idx,off,.sl r g' k' 0 n)::hs)) l)=>sX H i g k idx off r g' k' n hs l (bD H r)
 | _=>none
@[go_sem] def Vz:uJ H i=kX H i (bD H i):=by
 unfold uJ;rw[fD];split
 ·rename_i g k idx off r g' k' n hs l hi;rw[hi];simp only[kX,fD];split
  ·rename_i hr;rw[hr];rfl
  ·rename_i hr;generalize bD H r=o at hr;rcases o with _|r
   ·rfl
   ·cases r with
    | row g k dp l=>
     rcases dp with _|hs
     ·rfl
     ·cases hs with
      | nil=>exact absurd rfl (hr _ _ _)
      | cons x y=>rfl
    | _=>rfl
 ·rename_i hi;generalize bD H i=o at hi;unfold kX;split
  ·exact absurd rfl (hi _ _ _ _ _ _ _ _ _ _)
  ·rfl
@[go_sem] def RV {r:Nat}:kX H i (some (.row g k (.own ((idx,off,.sl r g' k' 0 n)::hs)) l))=sX H i g k idx off r g' k' n hs l (bD H r):=rfl
@[go_sem] def Ud:kX H i (some (.row g k (.own []) l))=none:=rfl
@[go_sem] def R3:kX H i (some (.row g k .fz l))=none:=rfl
@[go_sem] def zgK:kX H i (some (.box cs))=none:=rfl
@[go_sem] def SL:kX H i (some (.dead g))=none:=rfl
@[go_sem] def zgM:kX H i (some (.map es))=none:=rfl
@[go_sem] def X2 {r k2:Nat}{es:List D}:sX H i g k idx off r g' k' n hs l (some (.row g2 k2 (.own []) es))=some (g'=g2/\k'=k2/\r≠i/\apart idx off hs/\off<k/\idx<l.length,
    (H.set i (.row g k (.own hs) (cY k l idx off (.lst k' (es.take n))))).set r (.dead g2)):=rfl
@[go_sem] def zgO {r:Nat}:sX H i g k idx off r g' k' n hs l (some (.dead g2))=none:=rfl
def vh (is:List Nat) (H:List R):Option (Prop×List R)->Prop×List R
 | some (vc,H')=>(vc/\(lh is H').1,(lh is H').2)
 | none=>lh is H
@[go_sem] def zgP:lh [] H=(True,H):=rfl
@[go_sem] def Tg:lh (i::is) H=vh is H (uJ H i):=by
 simp only[lh];cases uJ H i <;> rfl
@[go_sem] def Xk:vh is H none=lh is H:=rfl
def um (c:Prop):Prop×List R->Prop×List R
 | (vc,H)=>(c/\vc,H)
@[go_sem] def VM {c:Prop}:um c (vc,H)=(c/\vc,H):=rfl
@[go_sem] def Sh {H':List R}:vh is H (some (vc,H'))=um vc (lh is H'):=rfl
@[go_sem] def To:mG []=false:=rfl
@[go_sem] def zgV {H:List R}:mG (.row g k (.own (h::hs)) l::H)=true:=rfl
@[go_sem] def zgW {H:List R}:mG (.row g k (.own []) l::H)=mG H:=rfl
@[go_sem] def zgX {H:List R}:mG (.row g k .fz l::H)=mG H:=rfl
@[go_sem] def UL {H:List R}:mG (.box cs::H)=mG H:=rfl
@[go_sem] def U6 {H:List R}:mG (.dead g::H)=mG H:=rfl
@[go_sem] def Rf {H:List R}:mG (.map es::H)=mG H:=rfl
@[go_sem] def PP:idxs [] n=[]:=rfl
@[go_sem] def zhc {r:R}{H:List R}:idxs (r::H) n=n::idxs H (n+1):=rfl
def qh (H:List R):Bool->Prop×List R
 | true=>lh (idxs H 0++(idxs H 0++(idxs H 0++(idxs H 0++(idxs H 0++idxs H 0))))) H
 | false=>(True,H)
@[go_sem] def Xp:shut H=qh H (mG H):=rfl
@[go_sem] def X4:qh H true=lh (idxs H 0++(idxs H 0++(idxs H 0++(idxs H 0++(idxs H 0++idxs H 0))))) H:=rfl
@[go_sem] def zhf:qh H false=(True,H):=rfl
end
def lS (off:Nat) (fsz:Nat) (H:List R):I->Option (Prop×I)
 | .d pd=>some (0<fsz/\pd.cK,.d (.ptr (pd.cH.drop off)))
 | .ptr i o=>match bD H i with
  | some (.box _)=>some (0<fsz,.ptr i (o+off))
  | _=>none
 | .eptr i g k idx o z=>match bD H i with
  | some (.row g' k' _ _)=>some (0<fsz/\g=g'/\k=k',.eptr i g k idx (o+off) z)
  | _=>none
 | _=>none
def sY (off:Nat) (H:List R) (x:I):Option TI->Option (Prop×I)
 | some fi=>lS off fi.size H x
 | none=>none
def sg (T:Nat->Option TI) (H:List R) (x:I):Option (Nat×Nat)->Option (Prop×I)
 | some (off,ft)=>sY off H x (T ft)
 | none=>none
def iK:List (Nat×Nat)->Nat->Option (Nat×Nat)
 | [],_=>none
 | p::_,0=>some p
 | _::r,n+1=>iK r n
def AU : ∀ (l:List (Nat×Nat)) (i:Nat),l[i]?=iK l i
 | [],i=>by simp[iK]
 | r::l,0=>by simp[iK]
 | r::l,i+1=>by simpa [iK] using AU l i
def vY (T:Nat->Option TI) (H:List R) (x:I) (f:Nat):Option TI->Option (Prop×I)
 | some ⟨.struct fs,_,_,_⟩=>sg T H x (iK fs f)
 | _=>none
@[go_sem] def Qi {s:Nat}{x:I}:uU T H s x f=vY T H x f (T s):=by
 unfold uU;cases T s with
 | none=>rfl
 | some ti=>
  obtain⟨ty,sz,b,z⟩:=ti;cases ty with
  | struct fs=>
   simp only[vY,<-AU];cases fs[f]? with
   | none=>rfl
   | some p=>
    obtain⟨off,ft⟩:=p;simp only[sg];cases T ft with
    | none=>rfl
    | some fi=>
     simp only[sY];cases x <;> simp only[lS,fD] <;> (first|rfl|(split <;> first|rfl|(simp_all;done)|skip))
     all_goals (rename_i hi;rw[hi])
  | _=>rfl
@[go_sem] def YF {r:List (Nat×Nat)}:iK (p::r) 0=some p:=rfl
@[go_sem] def Sd {r:List (Nat×Nat)}:iK (p::r) (n+1)=iK r n:=rfl
@[go_sem] def zhi {x:I}{fs:List (Nat×Nat)}:vY T H x f (some ⟨.struct fs,sz,b,z⟩)=sg T H x (iK fs f):=rfl
@[go_sem] def Zq {x:I}{off ft:Nat}:sg T H x (some (off,ft))=sY off H x (T ft):=rfl
@[go_sem] def zhk {x:I}{off:Nat}:sY off H x (some ⟨ty,sz,b,z⟩)=lS off sz H x:=rfl
@[go_sem] def zhl {off:Nat}:lS off sz H (.d pd)=some (0<sz/\pd.cK,.d (.ptr (pd.cH.drop off))):=rfl
def z2:Option R->Bool
 | some (.box _)=>true
 | _=>false
@[go_sem] def YA:z2 (some (.box cs))=true:=rfl
@[go_sem] def Rp {off i o:Nat}:lS off sz H (.ptr i o)=if z2 (bD H i)=true then some (0<sz,.ptr i (o+off)) else none:=by
 simp only[lS];cases bD H i with
 | none=>rfl
 | some r=>cases r <;> rfl
def iB:Option R->Option (Nat×Nat)
 | some (.row g k _ _)=>some (g,k)
 | _=>none
def yH (off fsz:Nat) (i g k idx o:Nat) (z:D):Option (Nat×Nat)->Option (Prop×I)
 | some (g',k')=>some (0<fsz/\g=g'/\k=k',.eptr i g k idx (o+off) z)
 | none=>none
@[go_sem] def WO {g k:Nat}{l:List D}:iB (some (.row g k dp l))=some (g,k):=rfl
@[go_sem] def zhp {off i g k idx o:Nat}{z':D}:lS off sz H (.eptr i g k idx o z')=yH off sz i g k idx o z' (iB (bD H i)):=by
 simp only[lS];cases bD H i with
 | none=>rfl
 | some r=>cases r <;> rfl
@[go_sem] def zhq {off i g k idx o g' k':Nat}{z':D}:yH off sz i g k idx o z' (some (g',k'))=some (0<sz/\g=g'/\k=k',.eptr i g k idx (o+off) z'):=rfl
def oZ (esz:Nat) (ez:D) (H:List R) (iv:D):I->Option (Prop×I)
 | .d xd=>some (xd.cT esz/\iv.isInt .i64/\0<=iv.toInt/\iv.toInt<xd.elems.length,.d (.ptr (bT (xd.elems.getD iv.toInt.toNat ez) 0 esz)))
 | .sl i g k lo n=>match iB (bD H i) with
  | some (g',k')=>some (g=g'/\k=k'/\k=esz/\iv.isInt .i64/\0<=iv.toInt/\iv.toInt<n,.eptr i g k (lo+iv.toInt.toNat) 0 ez)
  | none=>none
 | _=>none
def rS (esz n:Nat) (H:List R) (iv:D):I->Option (Prop×I)
 | .d xd=>some (xd.cK/\iv.isInt .i64/\0<=iv.toInt/\iv.toInt<n,.d (.ptr (xd.cH.drop (iv.toInt.toNat*esz))))
 | .ptr i off=>if z2 (bD H i)=true then some (iv.isInt .i64/\0<=iv.toInt/\iv.toInt<n,.ptr i (off+iv.toInt.toNat*esz)) else none
 | .eptr i g k idx o z=>match iB (bD H i) with
  | some (g',k')=>some (g=g'/\k=k'/\iv.isInt .i64/\0<=iv.toInt/\iv.toInt<n,.eptr i g k idx (o+iv.toInt.toNat*esz) z)
  | none=>none
 | _=>none
def rO (H:List R) (iv:D) (x:I):Option TI->Option (Prop×I)
 | some ⟨_,sz,_,z⟩=>oZ sz z H iv x
 | none=>none
def tL (n:Nat) (H:List R) (iv:D) (x:I):Option TI->Option (Prop×I)
 | some ⟨_,sz,_,z⟩=>rS sz n H iv x
 | none=>none
def pD (T:Nat->Option TI) (H:List R) (x:I):Option TI->I->Option (Prop×I)
 | some ⟨.slice e,_,_,_⟩,.d iv=>rO H iv x (T e)
 | some ⟨.array n e,_,_,_⟩,.d iv=>tL n H iv x (T e)
 | _,_=>none
@[go_sem] def qrW {x:I}:sd T H t x ix=pD T H x (T t) ix:=by
 unfold sd;cases T t with
 | none=>cases ix <;> rfl
 | some ti=>
  obtain⟨ty,sz,b,z⟩:=ti;cases ix with
  | d iv=>
   cases ty with
   | slice e=>
    simp only[pD];cases T e with
    | none=>rfl
    | some ei=>
     obtain⟨ety,esz,eb,ez⟩:=ei;simp only[rO];cases x <;> simp only[oZ,<-fD]
     rename_i i g k lo n;cases H[i]? with
     | none=>rfl
     | some r=>cases r <;> rfl
   | array n e=>
    simp only[pD];cases T e with
    | none=>rfl
    | some ei=>
     obtain⟨ety,esz,eb,ez⟩:=ei;simp only[tL];cases x <;> simp only[rS,<-fD]
     ·rename_i i off;cases H[i]? with
      | none=>rfl
      | some r=>cases r <;> rfl
     ·rename_i i g k idx o z';cases H[i]? with
      | none=>rfl
      | some r=>cases r <;> rfl
   | _=>rfl
  | _=>cases ty <;> rfl
@[go_sem] def Z2 {x:I}:pD T H x (some ⟨.slice e,sz,b,z⟩) (.d iv)=rO H iv x (T e):=rfl
@[go_sem] def zhs {x:I}:pD T H x (some ⟨.array n e,sz,b,z⟩) (.d iv)=tL n H iv x (T e):=rfl
@[go_sem] def YB {x:I}:rO H iv x (some ⟨ty,sz,b,z⟩)=oZ sz z H iv x:=rfl
@[go_sem] def Qm {x:I}:tL n H iv x (some ⟨ty,sz,b,z⟩)=rS sz n H iv x:=rfl
@[go_sem] def WI:oZ sz z H iv (.d xd)=some (xd.cT sz/\iv.isInt .i64/\0<=iv.toInt/\iv.toInt<xd.elems.length,.d (.ptr (bT (xd.elems.getD iv.toInt.toNat z) 0 sz))):=rfl
def yY (esz:Nat) (ez:D) (iv:D) (i g k lo n:Nat):Option (Nat×Nat)->Option (Prop×I)
 | some (g',k')=>some (g=g'/\k=k'/\k=esz/\iv.isInt .i64/\0<=iv.toInt/\iv.toInt<n,.eptr i g k (lo+iv.toInt.toNat) 0 ez)
 | none=>none
@[go_sem] def Rj {i g k lo:Nat}:oZ sz z H iv (.sl i g k lo n)=yY sz z iv i g k lo n (iB (bD H i)):=by
 simp only[oZ];cases iB (bD H i) <;> rfl
@[go_sem] def YE {i g k lo g' k':Nat}:yY sz z iv i g k lo n (some (g',k'))=some (g=g'/\k=k'/\k=sz/\iv.isInt .i64/\0<=iv.toInt/\iv.toInt<n,.eptr i g k (lo+iv.toInt.toNat) 0 z):=rfl
@[go_sem] def PT {i off:Nat}:rS sz n H iv (.ptr i off)=if z2 (bD H i)=true then some (iv.isInt .i64/\0<=iv.toInt/\iv.toInt<n,.ptr i (off+iv.toInt.toNat*sz)) else none:=rfl
def xD (agg:Bool) (ty:Ty) (sz off:Nat):I->Option (Prop×I)
 | .d xd=>match agg with
  | true=>some (off+sz<=xd.cells.length/\xd.one=false/\(∀ n,xd≠.tup n),.d (.agg (bT xd off sz)))
  | false=>some (off<xd.cells.length/\xd.one=false/\(∀ n,xd≠.tup n)/\dv ty (xd.cellAt off),.d (bo ty (xd.cellAt off)))
 | .agg cs=>match agg with
  | true=>some (off+sz<=cs.length/\jF ((cs.drop off).take sz),bG ((cs.drop off).take sz))
  | false=>some (off<cs.length/\o6 ty (cs.getD off .junk),cm ty (cs.getD off .junk))
 | _=>none
def N3 {ti:TI}{off:Nat}{x:I}:xP ti off x=xD ti.ty.agg ti.ty ti.size off x:=by
 unfold xP;cases x <;> simp only[xD] <;> cases ti.ty.agg <;> rfl
@[go_sem] def Y1 {off:Nat}:xD false ty sz off (.d xd)=some (off<xd.cells.length/\xd.one=false/\(∀ n,xd≠.tup n)/\dv ty (xd.cellAt off),.d (bo ty (xd.cellAt off))):=rfl
def qc (n:Nat) (iv:D) (x:I):Option TI->Option (Prop×I)
 | some ei=>match xD ei.ty.agg ei.ty ei.size (iv.toInt.toNat*ei.size) x with
  | some (vc,y)=>some (iv.isInt .i64/\0<=iv.toInt/\iv.toInt<n/\vc,y)
  | none=>none
 | none=>none
def vL (iv:D):I->Option (Prop×I)
 | .d (.raw (.string s))=>some (iv.eB/\0<=iv.toInt/\iv.toInt.toNat<s.size,.d (.int .u8 (rt s iv.toInt.toNat)))
 | _=>none
def tH (T:Nat->Option TI) (x:I):Option TI->I->Option (Prop×I)
 | some ⟨.array n e,_,_,_⟩,.d iv=>qc n iv x (T e)
 | some ⟨.string,_,_,_⟩,.d iv=>vL iv x
 | _,_=>none
@[go_sem] def ZQ {s:ByteArray}:vL iv (.d (.raw (.string s)))=some (iv.eB/\0<=iv.toInt/\iv.toInt.toNat<s.size,.d (.int .u8 (rt s iv.toInt.toNat))):=rfl
@[go_sem] def TP {x:I}:tH T x (some ⟨.string,sz,b,z⟩) (.d iv)=vL iv x:=rfl
@[go_sem] def R5 {x:I}:xY T t x ix=tH T x (T t) ix:=by
 unfold xY;cases T t with
 | none=>cases ix <;> rfl
 | some ti=>
  obtain⟨ty,sz,b,z⟩:=ti;cases ix with
  | d iv=>
   cases ty with
   | array n e=>
    simp only[tH];cases T e with
    | none=>rfl
    | some ei=>simp only[qc,N3];rfl
   | string=>cases x <;> first|rfl|(rename_i xd;cases xd <;> first|rfl|(rename_i v;cases v <;> rfl))
   | _=>rfl
  | _=>cases ty <;> rfl
@[go_sem] def Tk {x:I}:tH T x (some ⟨.array n e,sz,b,z⟩) (.d iv)=qc n iv x (T e):=rfl
def zh (iv:D) (n:Nat):Option (Prop×I)->Option (Prop×I)
 | some (vc,y)=>some (iv.isInt .i64/\0<=iv.toInt/\iv.toInt<n/\vc,y)
 | none=>none
@[go_sem] def YV {y:I}:zh iv n (some (vc,y))=some (iv.isInt .i64/\0<=iv.toInt/\iv.toInt<n/\vc,y):=rfl
@[go_sem] def S5 {x:I}:qc n iv x (some ⟨ty,sz,b,z⟩)=zh iv n (xD ty.agg ty sz (iv.toInt.toNat*sz) x):=by
 simp only[qc];cases xD ty.agg ty sz (iv.toInt.toNat*sz) x <;> rfl
@[go_sem] def Zm:c9 none d=some d:=rfl
@[go_sem] def WR {x:D}:c9 (some (.d x)) d=some x.toInt:=rfl
@[go_sem] def zhI:cB none=True:=rfl
@[go_sem] def SM {x:D}:cB (some (.d x))=x.isInt .i64:=rfl
def rY (esz:Nat) (xd:D) (c:Prop):Option Int->Option Int->Option (Prop×I)
 | some l,some h=>some (xd.cT esz/\c/\0<esz/\0<=l/\l<=h/\h<=xd.elems.length,.d (x6 esz xd l h))
 | _,_=>none
def rP (esz:Nat) (i g k l0 n:Nat) (c:Prop):Option (Nat×Nat)->Option Int->Option Int->Option (Prop×I)
 | some (g',k'),some l,some h=>some (g=g'/\k=k'/\k=esz/\c/\0<=l/\l<=h/\h<=n,.sl i g k (l0+l.toNat) (h-l).toNat)
 | _,_,_=>none
def qd (esz:Nat) (H:List R) (lo hi:Option I):I->Option (Prop×I)
 | .d xd=>rY esz xd (cB lo/\cB hi) (c9 lo 0) (c9 hi xd.elems.length)
 | .sl i g k l0 n=>rP esz i g k l0 n (cB lo/\cB hi) (iB (bD H i)) (c9 lo 0) (c9 hi n)
 | _=>none
def rT (H:List R) (lo hi:Option I) (x:I):Option TI->Option (Prop×I)
 | some ei=>qd ei.size H lo hi x
 | none=>none
def wC (T:Nat->Option TI) (H:List R) (lo hi:Option I) (x:I):Option TI->Option I->Option (Prop×I)
 | some ⟨.slice e,_,_,_⟩,none=>rT H lo hi x (T e)
 | _,_=>none
@[go_sem] def QZ {x:I}{mx:Option I}:uy T H t x lo hi mx=wC T H lo hi x (T t) mx:=by
 unfold uy;cases T t with
 | none=>cases mx <;> rfl
 | some ti=>
  obtain⟨ty,sz,b,z⟩:=ti;cases mx with
  | some m=>cases ty <;> rfl
  | none=>
   cases ty with
   | slice e=>
    simp only[wC];cases T e with
    | none=>rfl
    | some ei=>
     simp only[rT];cases x <;> simp only[qd,<-fD]
     ·rename_i xd;cases c9 lo 0 <;> cases c9 hi xd.elems.length <;> simp only[rY,and_assoc]
     ·rename_i i g k l0 n;cases H[i]? with
      | none=>cases c9 lo 0 <;> cases c9 hi n <;> rfl
      | some r=>
       cases r <;> cases c9 lo 0 <;> cases c9 hi n <;> simp only[iB,rP,and_assoc]
   | _=>rfl
@[go_sem] def Y2 {x:I}:wC T H lo hi x (some ⟨.slice e,sz,b,z⟩) none=rT H lo hi x (T e):=rfl
@[go_sem] def Qt {x:I}:rT H lo hi x (some ⟨ty,sz,b,z⟩)=qd sz H lo hi x:=rfl
@[go_sem] def Sz:qd sz H lo hi (.d xd)=rY sz xd (cB lo/\cB hi) (c9 lo 0) (c9 hi xd.elems.length):=rfl
@[go_sem] def zhO {i g k:Nat}:qd sz H lo hi (.sl i g k l0 n)=rP sz i g k l0 n (cB lo/\cB hi) (iB (bD H i)) (c9 lo 0) (c9 hi n):=rfl
@[go_sem] def Ze {k:Nat}{l h:Int}:x6 k .nil l h=.nil:=rfl
@[go_sem] def zhQ {k k':Nat}{L:List D}{l h:Int}:x6 k (.lst k' L) l h=.lst k ((L.drop l.toNat).take (h-l).toNat):=rfl
@[go_sem] def Vi {c:Prop}{l h:Int}:rY sz xd c (some l) (some h)=some (xd.cT sz/\c/\0<sz/\0<=l/\l<=h/\h<=xd.elems.length,.d (x6 sz xd l h)):=rfl
@[go_sem] def Vc {i g k g' k':Nat}{c:Prop}{l h:Int}:rP sz i g k l0 n c (some (g',k')) (some l) (some h)=some (g=g'/\k=k'/\k=sz/\c/\0<=l/\l<=h/\h<=n,.sl i g k (l0+l.toNat) (h-l).toNat):=rfl
def yr (x y:Int):Bool:=decide (x=y)
def zp (x y:Int):Bool:=decide (x<y)
def yE (x y:Int):Bool:=decide (x<=y)
@[go_sem] def S9 {x y:Int}:yr x y=decide (x=y):=rfl
@[go_sem] def zhU {x y:Int}:zp x y=decide (x<y):=rfl
@[go_sem] def PG {x y:Int}:yE x y=decide (x<=y):=rfl
def pU (c x y:Bool):Bool:=if c=true then x else y
@[go_sem] def zhW {c y:Bool}:pU c true y=(c || y):=by cases c <;> rfl
@[go_sem] def zhX {c x:Bool}:pU c x false=(c&&x):=by cases c <;> rfl
def vj (x y:Int):Int:=if y<x then y else x
def wd (x y:Int):Int:=if x<y then y else x
@[go_sem] def zhY {x y:Int}:vj x y=min x y:=by unfold vj;omega
@[go_sem] def UV {x y:Int}:wd x y=max x y:=by unfold wd;omega
def lv (op:BinOp) (k:IntKind) (x y:D):Option (Prop×I):=
 match op with
 | .add=>some (x.isInt k/\y.isInt k/\cp k (x.toInt+y.toInt),.d (.int k (x.toInt+y.toInt)))
 | .sub=>some (x.isInt k/\y.isInt k/\cp k (x.toInt-y.toInt),.d (.int k (x.toInt-y.toInt)))
 | .mul=>some (x.isInt k/\y.isInt k/\cp k (x.toInt*y.toInt),.d (.int k (x.toInt*y.toInt)))
 | .quo=>some (x.isInt k/\y.isInt k/\0<=x.toInt/\0<y.toInt,.d (.int k (x.toInt/y.toInt)))
 | .rem=>some (x.isInt k/\y.isInt k/\0<y.toInt,.d (.int k (iL x.toInt y.toInt)))
 | .and=>some (x.isInt k/\y.isInt k/\0<=x.toInt/\0<=y.toInt,.d (.int k ((x.toInt.toNat &&& y.toInt.toNat:Nat):Int)))
 | .or=>some (x.isInt k/\y.isInt k/\0<=x.toInt/\0<=y.toInt,.d (.int k ((x.toInt.toNat ||| y.toInt.toNat:Nat):Int)))
 | .xor=>some (x.isInt k/\y.isInt k/\0<=x.toInt/\0<=y.toInt,.d (.int k ((x.toInt.toNat ^^^ y.toInt.toNat:Nat):Int)))
 | .shl=>some (x.isInt k/\y.eB/\0<=y.toInt/\y.toInt<=k.bits/\cp k (x.toInt*2 ^ y.toInt.toNat),.d (.int k (x.toInt*2 ^ y.toInt.toNat)))
 | .shr=>some (x.isInt k/\y.eB/\0<=y.toInt/\y.toInt<=k.bits,.d (.int k (x.toInt/2 ^ y.toInt.toNat)))
 | .eql=>some (x.isInt k/\y.isInt k,.d (.bool (yr x.toInt y.toInt)))
 | .neq=>some (x.isInt k/\y.isInt k,.d (.bool (!yr x.toInt y.toInt)))
 | .lss=>some (x.isInt k/\y.isInt k,.d (.bool (zp x.toInt y.toInt)))
 | .leq=>some (x.isInt k/\y.isInt k,.d (.bool (yE x.toInt y.toInt)))
 | .gtr=>some (x.isInt k/\y.isInt k,.d (.bool (zp y.toInt x.toInt)))
 | .geq=>some (x.isInt k/\y.isInt k,.d (.bool (yE y.toInt x.toInt)))
 | _=>none
def Cr (op:BinOp) (x y:D):Option (Prop×I):=
 match op with
 | .eql=>some (x.isBool/\y.isBool,.d (.bool (x.toBool == y.toBool)))
 | .neq=>some (x.isBool/\y.isBool,.d (.bool (!(x.toBool == y.toBool))))
 | _=>none
def CF (op:BinOp) (x:D):Option (Prop×I):=
 match op with
 | .eql=>some (x.gA/\(x=.nil∨x.elems≠[]),.d (.bool x.isNil))
 | .neq=>some (x.gA/\(x=.nil∨x.elems≠[]),.d (.bool (!x.isNil)))
 | _=>none
def OH (op:BinOp) (g k n:Nat):Option (Nat×Nat)->Option (Prop×I)
 | some (g',k')=>match op with
  | .eql=>some (g=g'/\k=k'/\0<n,.d (.bool false))
  | .neq=>some (g=g'/\k=k'/\0<n,.d (.bool true))
  | _=>none
 | none=>none
def NL (T:Nat->Option TI) (fs:List (Nat×Nat)) (cs ds:List D):BinOp->Option (Prop×I)
 | .eql=>some (cs.length=fs.length/\ds.length=fs.length/\pp T 0 fs cs ds,.d (.bool (tU T fs cs ds)))
 | .neq=>some (cs.length=fs.length/\ds.length=fs.length/\pp T 0 fs cs ds,.d (.bool (!(tU T fs cs ds))))
 | _=>none
@[go_sem] def zia {k:IntKind}{n:Int}:(D.int k n).eB=True:=rfl
def Lb (a b:ByteArray):BinOp->Option (Prop×I)
 | .eql=>some (True,.d (.bool (a.toList == b.toList)))
 | .neq=>some (True,.d (.bool (!(a.toList == b.toList))))
 | _=>none
def pO (T:Nat->Option TI) (H:List R) (op:BinOp) (x y:I):Option TI->Option (Prop×I)
 | some ⟨.int k,_,_,_⟩=>match x,y with
  | .d x,.d y=>lv op k x y
  | _,_=>none
 | some ⟨.bool,_,_,_⟩=>match x,y with
  | .d x,.d y=>Cr op x y
  | _,_=>none
 | some ⟨.slice _,_,_,_⟩=>match x,y with
  | .d x,.d .nil=>CF op x
  | .sl i g k lo n,.d .nil=>OH op g k n (iB (bD H i))
  | _,_=>none
 | some ⟨.struct fs,_,_,_⟩=>match x,y with
  | .d (.agg cs),.d (.agg ds)=>NL T fs cs ds op
  | _,_=>none
 | some ⟨.string,_,_,_⟩=>match x,y with
  | .d (.raw (.string a)),.d (.raw (.string b))=>Lb a b op
  | _,_=>none
 | _=>none
@[go_sem] def zib {x y:I}:kE T H op t x y=pO T H op x y (T t):=by
 unfold kE;cases T t with
 | none=>rfl
 | some ti=>
  obtain⟨ty,sz,b,z⟩:=ti;cases ty with
  | int k=>cases x <;> cases y <;> rfl
  | bool=>cases x <;> cases y <;> rfl
  | slice e=>
   cases x <;> cases y <;> first
    | rfl
    | (rename_i yd;cases yd <;> first|rfl|skip)
   rename_i i g k lo n;simp only[pO,<-fD];cases H[i]? with
   | none=>rfl
   | some r=>cases r <;> rfl
  | struct fs=>
   cases x with
   | d xd=>
    cases y with
    | d yd=>cases xd <;> cases yd <;> first|rfl|(cases op <;> rfl)
    | _=>cases xd <;> rfl
   | _=>cases y <;> first|rfl|(rename_i yd;cases yd <;> rfl)
  | string=>
   cases x with
   | d xd=>
    cases y with
    | d yd=>
     cases xd with
     | raw v=>
      cases v with
      | string a=>
       cases yd with
       | raw u=>
        cases u with
        | string c=>cases op <;> rfl
        | _=>rfl
       | _=>rfl
      | _=>rfl
     | _=>rfl
    | _=>
     cases xd with
     | raw v=>cases v <;> rfl
     | _=>rfl
   | _=>cases y <;> rfl
  | _=>rfl
@[go_sem] def zic:rD T j []=True:=rfl
@[go_sem] def Wt {o:Nat}{r:List (Nat×Nat)}:rD T j ((o,t)::r)=(o=j/\qr (T t)=true/\rD T (j+1) r):=rfl
@[go_sem] def Rb {c:Nat}{zz:D}:qr (some ⟨.int .i64,a,c,zz⟩)=true:=rfl
@[go_sem] def So:br []=True:=rfl
@[go_sem] def qrY {x:D}{r:List D}:br (x::r)=(x.isInt .i64/\br r):=rfl
@[go_sem] def zif {k:IntKind}{x y:D}:pO T H op (.d x) (.d y) (some ⟨.int k,sz,b,z⟩)=lv op k x y:=rfl
@[go_sem] def T8 {x y:D}:pO T H op (.d x) (.d y) (some ⟨.bool,sz,b,z⟩)=Cr op x y:=rfl
@[go_sem] def Xn {x:D}:pO T H op (.d x) (.d .nil) (some ⟨.slice e,sz,b,z⟩)=CF op x:=rfl
section
variable {k:IntKind}{x y:D}
@[go_sem] def Qx:lv .add k x y=some (x.isInt k/\y.isInt k/\cp k (x.toInt+y.toInt),.d (.int k (x.toInt+y.toInt))):=rfl
@[go_sem] def zij:lv .sub k x y=some (x.isInt k/\y.isInt k/\cp k (x.toInt-y.toInt),.d (.int k (x.toInt-y.toInt))):=rfl
@[go_sem] def Wp:lv .mul k x y=some (x.isInt k/\y.isInt k/\cp k (x.toInt*y.toInt),.d (.int k (x.toInt*y.toInt))):=rfl
@[go_sem] def PH:lv .quo k x y=some (x.isInt k/\y.isInt k/\0<=x.toInt/\0<y.toInt,.d (.int k (x.toInt/y.toInt))):=rfl
@[go_sem] def Yd:lv .rem k x y=some (x.isInt k/\y.isInt k/\0<y.toInt,.d (.int k (iL x.toInt y.toInt))):=rfl
@[go_sem] def RC:lv .and k x y=some (x.isInt k/\y.isInt k/\0<=x.toInt/\0<=y.toInt,.d (.int k ((x.toInt.toNat &&& y.toInt.toNat:Nat):Int))):=rfl
@[go_sem] def X0:lv .or k x y=some (x.isInt k/\y.isInt k/\0<=x.toInt/\0<=y.toInt,.d (.int k ((x.toInt.toNat ||| y.toInt.toNat:Nat):Int))):=rfl
@[go_sem] def zip:lv .xor k x y=some (x.isInt k/\y.isInt k/\0<=x.toInt/\0<=y.toInt,.d (.int k ((x.toInt.toNat ^^^ y.toInt.toNat:Nat):Int))):=rfl
@[go_sem] def ziq:lv .shl k x y=some (x.isInt k/\y.eB/\0<=y.toInt/\y.toInt<=k.bits/\cp k (x.toInt*2 ^ y.toInt.toNat),.d (.int k (x.toInt*2 ^ y.toInt.toNat))):=rfl
@[go_sem] def VZ:lv .shr k x y=some (x.isInt k/\y.eB/\0<=y.toInt/\y.toInt<=k.bits,.d (.int k (x.toInt/2 ^ y.toInt.toNat))):=rfl
@[go_sem] def Rv:lv .eql k x y=some (x.isInt k/\y.isInt k,.d (.bool (yr x.toInt y.toInt))):=rfl
@[go_sem] def Ta:lv .neq k x y=some (x.isInt k/\y.isInt k,.d (.bool (!yr x.toInt y.toInt))):=rfl
@[go_sem] def ziu:lv .lss k x y=some (x.isInt k/\y.isInt k,.d (.bool (zp x.toInt y.toInt))):=rfl
@[go_sem] def ziv:lv .leq k x y=some (x.isInt k/\y.isInt k,.d (.bool (yE x.toInt y.toInt))):=rfl
@[go_sem] def Tp:lv .gtr k x y=some (x.isInt k/\y.isInt k,.d (.bool (zp y.toInt x.toInt))):=rfl
@[go_sem] def zix:lv .geq k x y=some (x.isInt k/\y.isInt k,.d (.bool (yE y.toInt x.toInt))):=rfl
@[go_sem] def Wn:Cr .neq x y=some (x.isBool/\y.isBool,.d (.bool (!(x.toBool == y.toBool)))):=rfl
@[go_sem] def Xa:CF .eql x=some (x.gA/\(x=.nil∨x.elems≠[]),.d (.bool x.isNil)):=rfl
end
@[go_sem] def XI {x:D}:wu .not (.d x)=some (x.isBool,.d (.bool (!x.toBool))):=rfl
@[go_sem] def PZ {x y:D}:uF .min (.d x) (.d y)=some (x.isInt .i64/\y.isInt .i64,.d (.int .i64 (vj x.toInt y.toInt))):=rfl
@[go_sem] def Qk {x y:D}:uF .max (.d x) (.d y)=some (x.isInt .i64/\y.isInt .i64,.d (.int .i64 (wd x.toInt y.toInt))):=rfl
@[go_sem] def Zb {vs:List I}:wv (.tup vs) j=some (j<vs.length,vs.getD j .junk):=rfl
@[go_sem] def Qa {x:D}:wv (.d x) j=some (x.nK x.hY/\j<x.hY,.d (x.pF j)):=rfl
@[go_sem] def U8 {c x y:D}{ca cb:Prop}:wg (.d c) (.d x) (.d y) ca cb=some (c.isBool/\(c.toBool=true->ca/\x.isBool)/\(c.toBool=false->cb/\y.isBool),.d (.bool (pU c.toBool x.toBool y.toBool))):=rfl
@[go_sem] def Yc {x:D}:jo H (.d x)=some (x.cK,.d x):=rfl
@[go_sem] def ziG {i o:Nat}:jo H (.ptr i o)=if z2 (bD H i)=true then some (True,.ptr i o) else none:=by
 simp only[jo,fD];cases bD H i with
 | none=>rfl
 | some r=>cases r <;> rfl
def uT (x:I) (g k:Nat):Option R->Option (Prop×I)
 | some (.row g' k' _ _)=>some (g'=g/\k'=k,x)
 | _=>none
@[go_sem] def Vl {x:I}{g k g' k':Nat}{l:List D}:uT x g k (some (.row g' k' dp l))=some (g'=g/\k'=k,x):=rfl
@[go_sem] def ziI {i g k idx off:Nat}{z:D}:jo H (.eptr i g k idx off z)=uT (.eptr i g k idx off z) g k (bD H i):=by
 simp only[jo,fD];cases bD H i with
 | none=>rfl
 | some r=>cases r <;> rfl
def KC (x:D):Option TI->Option (Prop×I)
 | some ⟨.int .u8,_,_,_⟩=>some (vO x,.d (.raw (.string (pc (qI x)))))
 | _=>none
def ue (T:Nat->Option TI) (x:I):Option TI->Option TI->Option (Prop×I)
 | some ⟨.int k,_,_,_⟩,some ⟨.int k',_,_,_⟩=>match x with
  | .d xd=>some (xd.isInt k/\tV k' xd.toInt,.d (.int k' (rz k' xd.toInt)))
  | _=>none
 | some ⟨.slice e,_,_,_⟩,some ⟨.string,_,_,_⟩=>match x with
  | .d xd=>KC xd (T e)
  | _=>none
 | _,_=>none
def Nm {x:D}:Bn T e x=KC x (T e):=by
 unfold Bn;cases T e with
 | none=>rfl
 | some ei=>
  obtain⟨ty,sz,b,z⟩:=ei;cases ty with
  | int k=>cases k <;> rfl
  | _=>rfl
@[go_sem] def ziJ {s d:Nat}{x:I}:vZ T s d x=ue T x (T s) (T d):=by
 unfold vZ;cases T s with
 | none=>cases T d <;> cases x <;> rfl
 | some si=>
  obtain⟨ty,sz,b,z⟩:=si;cases T d with
  | none=>cases ty <;> cases x <;> rfl
  | some di=>
   obtain⟨ty',sz',b',z'⟩:=di;cases ty <;> cases ty' <;> cases x <;> first|rfl|exact Nm
@[go_sem] def Zt {k k':IntKind}{sz' b':Nat}{z':D}:ue T (.d xd) (some ⟨.int k,sz,b,z⟩) (some ⟨.int k',sz',b',z'⟩)=some (xd.isInt k/\tV k' xd.toInt,.d (.int k' (rz k' xd.toInt))):=rfl
@[go_sem] def VI {n:Int}:tV .i64 n=cp .i64 n:=rfl
@[go_sem] def XY {n:Int}:rz .i64 n=n:=rfl
@[go_sem] def ziN {n:Int}:tV .u8 n=True:=rfl
@[go_sem] def ziO {n:Int}:rz .u8 n=n%256:=rfl
@[go_sem] def ziP {n:Int}:tV .u64 n=cp .u64 n:=rfl
@[go_sem] def ziQ {n:Int}:rz .u64 n=n:=rfl
def yO (x:I):Option TI->Option (Prop×I)
 | some ⟨.slice _,_,_,_⟩=>match x with
  | .d .nil=>some (True,.d (.int .i64 0))
  | _=>none
 | _=>none
@[go_sem] def ZH {x:I}:gp T t x=yO x (T t):=by
 unfold gp;cases T t with
 | none=>rfl
 | some ti=>
  obtain⟨ty,sz,b,z⟩:=ti;cases ty <;> cases x <;> first|rfl|(rename_i xd;cases xd <;> rfl)
@[go_sem] def Vh:yO (.d .nil) (some ⟨.slice e,sz,b,z⟩)=some (True,.d (.int .i64 0)):=rfl
def qX (g k n:Nat):Option (Nat×Nat)->Option (Prop×I)
 | some (g',k')=>some (g=g'/\k=k',.d (.int .i64 (n:Nat)))
 | none=>none
def tM (H:List R) (x:I):Option TI->Option (Prop×I)
 | some ⟨.slice _,_,_,_⟩=>match x with
  | .d xd=>some (xd.gA,.d (.int .i64 (xd.elems.length:Nat)))
  | .sl i g k lo n=>qX g k n (iB (bD H i))
  | _=>none
 | some ⟨.array n _,_,_,_⟩=>some (cp .i64 n,.d (.int .i64 (n:Nat)))
 | _=>none
@[go_sem] def ziT {x:I}:dc T H t x=tM H x (T t):=by
 unfold dc;cases T t with
 | none=>rfl
 | some ti=>
  obtain⟨ty,sz,b,z⟩:=ti;cases ty with
  | slice e=>
   cases x <;> simp only[tM,<-fD]
   rename_i i g k lo n;cases H[i]? with
   | none=>rfl
   | some r=>cases r <;> rfl
  | _=>rfl
@[go_sem] def ziU:tM H (.d xd) (some ⟨.slice e,sz,b,z⟩)=some (xd.gA,.d (.int .i64 (xd.elems.length:Nat))):=rfl
@[go_sem] def Wx {i g k lo:Nat}:tM H (.sl i g k lo n) (some ⟨.slice e,sz,b,z⟩)=qX g k n (iB (bD H i)):=rfl
@[go_sem] def ZO {g k g' k':Nat}:qX g k n (some (g',k'))=some (g=g'/\k=k',.d (.int .i64 (n:Nat))):=rfl
end Go.VL

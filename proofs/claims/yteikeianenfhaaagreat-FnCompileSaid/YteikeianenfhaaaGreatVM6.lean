/- Part 22: rewriting rules of memory operations, calls and results. Conditions: none; lemmas. -/
import Derived.Test.YteikeianenfhaaaGreatVM5
set_option linter.unusedVariables false
set_option linter.unusedSimpArgs false
set_option maxHeartbeats 2000000
set_option linter.defProp false
namespace Go.VL
variable {ti:TI}{x d:I}{xd z' kd x':D}{cs r caps args:ZE}{i g k lo n off e fsz sz' t size j a len idx g' k' o m kt et b' t' bytes f nt:Nat}{vc vc' c:Prop}{fs:List (Nat×Nat)}{rest parts:List (Nat×I)}{xs l ds ys:ZD}{dp:DP}{o2:Option (Prop×ZF)}{hs:List (Nat×Nat×I)}{ok:Bool}{es:List (D×D)}{ty':Ty}{h:bV}{K:I->ZF->Prop}{fn:Func}{Po:Fr->I->ZF->Prop}{ψ:D->Prop}
variable {E:Env}{Q:aT}{fr:Fr}{H:ZF}{T:Nat->Option TI}{ty:Ty}{sz b:Nat}{z:D}
attribute [go_sem] true_and and_true eq_self if_true if_false true_implies imp_true_iff not_false_eq_true not_true_eq_false eE decide_eq_true_eq decide_eq_false_iff_not Bool.not_true Bool.not_false Bool.not_eq_true' Bool.not_eq_false' ite_true ite_false and_self implies_true false_implies ne_eq
def xZ (ty:Ty) (sz:Nat):Bool->I->Option (Prop×ZE)
 | true,.d xd=>some (xd.cells.length=sz/\xd.one=false/\(∀ n,xd≠.tup n),(bY xd 0 sz).map .d)
 | true,.agg cs=>some (cs.length=sz,cs)
 | false,.d xd=>some (sz=1/\xd.one=true,[.d xd])
 | false,.sl i g k lo n=>some (sz=1,[.sl i g k lo n])
 | false,.ptr i off=>some (sz=1,[.ptr i off])
 | false,.map i=>some (sz=1,[.map i])
 | false,.fn f caps=>some (sz=1,[.fn f caps])
 | _,_=>none
def QO:iN ti x=xZ ti.ty ti.size ti.ty.agg x:=by
 unfold iN;cases ti.ty.agg <;> cases x <;> rfl
@[go_sem] def zjs:iN ⟨ty,sz,b,z⟩ x=xZ ty sz ty.agg x:=QO
@[go_sem] def zjt:xZ ty sz true (.d xd)=some (xd.cells.length=sz/\xd.one=false/\(∀ n,xd≠.tup n),(bY xd 0 sz).map .d):=rfl
@[go_sem] def zju:xZ ty sz true (.agg cs)=some (cs.length=sz,cs):=rfl
@[go_sem] def zjv:xZ ty sz false (.d xd)=some (sz=1/\xd.one=true,[.d xd]):=rfl
@[go_sem] def VE:xZ ty sz false (.sl i g k lo n)=some (sz=1,[.sl i g k lo n]):=rfl
@[go_sem] def Zh:xZ ty sz false (.map i)=some (sz=1,[.map i]):=rfl
@[go_sem] def TZ:setCells cs off []=cs:=rfl
@[go_sem] def TF:setCells cs off (x::r)=setCells (cs.set off x) (off+1) r:=rfl
@[go_sem] def zjz {cs:ZD}:df cs off []=cs:=rfl
@[go_sem] def YU {cs:ZD}{x:D}{r:ZD}:df cs off (x::r)=df (cs.set off x) (off+1) r:=rfl
def q9 (H:ZF):Option (Prop×ZE)->Option (Prop×I×ZF)
 | some (vc,cs)=>some (vc,.ptr H.length 0,H ++ [.box cs])
 | none=>none
def sd (H:ZF) (x:I):Option TI->Option (Prop×I×ZF)
 | some ti=>q9 H (iN ti x)
 | none=>none
@[go_sem] def zjB:oq T H e x=sd H x (T e):=by
 unfold oq;cases T e with
 | none=>rfl
 | some ti=>simp only[sd];cases iN ti x <;> rfl
@[go_sem] def X6:sd H x (some ⟨ty,sz,b,z⟩)=q9 H (iN ⟨ty,sz,b,z⟩ x):=rfl
@[go_sem] def zjD:q9 H (some (vc,cs))=some (vc,.ptr H.length 0,H ++ [.box cs]):=rfl
def GZ (H:ZF):Option TI->Option (Prop×I×ZF)
 | some ti=>some (True,.ptr H.length 0,H ++ [.box ((bY ti.zero 0 ti.size).map .d)])
 | none=>none
@[go_sem] def zjE:yu T H e=GZ H (T e):=by unfold yu;cases T e <;> rfl
@[go_sem] def zjF:GZ H (some ⟨ty,sz,b,z⟩)=some (True,.ptr H.length 0,H ++ [.box ((bY z 0 sz).map .d)]):=rfl
def Fa (vc:Prop) (off fsz:Nat) (cs:ZE):Option (Prop×ZE)->Option (Prop×ZE)
 | some (vc',r)=>some (vc/\off+fsz<=cs.length/\vc',r)
 | none=>none
def CB (T:Nat->Option TI) (fs:List (Nat×Nat)) (cs:ZE) (rest:List (Nat×I)) (off fsz:Nat):Option (Prop×ZE)->Option (Prop×ZE)
 | some (vc,xs)=>Fa vc off fsz cs (l8 T fs (setCells cs off xs) rest)
 | none=>none
def CZ (T:Nat->Option TI) (fs:List (Nat×Nat)) (cs:ZE) (rest:List (Nat×I)) (x:I) (off:Nat):Option TI->Option (Prop×ZE)
 | some fi=>CB T fs cs rest off fi.size (iN fi x)
 | none=>none
def Fy (T:Nat->Option TI) (fs:List (Nat×Nat)) (cs:ZE) (rest:List (Nat×I)) (x:I):Option (Nat×Nat)->Option (Prop×ZE)
 | some (off,ft)=>CZ T fs cs rest x off (T ft)
 | none=>none
@[go_sem] def zjG:l8 T fs cs []=some (True,cs):=rfl
@[go_sem] def T6:l8 T fs cs ((i,x)::rest)=Fy T fs cs rest x (jd fs i):=by
 simp only[l8,<-DB];cases fs[i]? with
 | none=>rfl
 | some p=>
  obtain⟨off,ft⟩:=p;simp only[Fy];cases T ft with
  | none=>rfl
  | some fi=>
   simp only[CZ];cases iN fi x with
   | none=>rfl
   | some q=>
    obtain⟨vc,xs⟩:=q;simp only[CB];cases l8 T fs (setCells cs off xs) rest <;> rfl
@[go_sem] def zjI {ft:Nat}:Fy T fs cs rest x (some (off,ft))=CZ T fs cs rest x off (T ft):=rfl
@[go_sem] def zjJ:CZ T fs cs rest x off (some ⟨ty,sz,b,z⟩)=CB T fs cs rest off sz (iN ⟨ty,sz,b,z⟩ x):=rfl
@[go_sem] def zjK {xs:ZE}:CB T fs cs rest off fsz (some (vc,xs))=Fa vc off fsz cs (l8 T fs (setCells cs off xs) rest):=rfl
@[go_sem] def Xp:Fa vc off fsz cs (some (vc',r))=some (vc/\off+fsz<=cs.length/\vc',r):=rfl
def xT (T:Nat->Option TI) (fs:List (Nat×Nat)):Option (Prop×ZE)->Option (Prop×I)
 | some (vc,cs)=>some (vc/\jA cs/\fs.all (fun f=>(T f.2).isSome)=true,bI cs)
 | none=>none
def yI:Option (Prop×ZE)->Option (Prop×I)
 | some (vc,cs)=>some (vc/\jA cs,bI cs)
 | none=>none
@[go_sem] def zjM:yI (some (vc,cs))=some (vc/\jA cs,bI cs):=rfl
def tD (T:Nat->Option TI) (n e sz:Nat) (z:D) (parts:List (Nat×I)):Option TI->Option (Prop×I)
 | some ei=>yI (l8 T (oh n e ei.size) ((bY z 0 sz).map .d) parts)
 | none=>none
@[go_sem] def TG {ty:Ty}{sz b:Nat}{z:D}:tD T n e sz' z' parts (some ⟨ty,sz,b,z⟩)=yI (l8 T (oh n e sz) ((bY z' 0 sz').map .d) parts):=rfl
@[go_sem] def zjO {sz:Nat}:jd (oh n e sz) i=if i<n then some (i*sz,e) else none:=by rw[<-DB,L9]
def rf (T:Nat->Option TI) (parts:List (Nat×I)):Option TI->Option (Prop×I)
 | some ⟨.struct fs,sz,_,z⟩=>xT T fs (l8 T fs ((bY z 0 sz).map .d) parts)
 | some ⟨.array n e,sz,_,z⟩=>tD T n e sz z parts (T e)
 | _=>none
@[go_sem] def T9:xA T t parts=rf T parts (T t):=by
 unfold xA;cases T t with
 | none=>rfl
 | some ti=>
  obtain⟨ty,sz,b,z⟩:=ti;cases ty with
  | struct fs=>
   simp only[rf];cases l8 T fs ((bY z 0 sz).map .d) parts <;> rfl
  | array n e=>
   simp only[rf];cases T e with
   | none=>rfl
   | some ei=>
    simp only[tD];cases l8 T (oh n e ei.size) ((bY z 0 sz).map .d) parts <;> rfl
  | _=>rfl
@[go_sem] def zjQ:rf T parts (some ⟨.array n e,sz,b,z⟩)=tD T n e sz z parts (T e):=rfl
@[go_sem] def YW:rf T parts (some ⟨.struct fs,sz,b,z⟩)=xT T fs (l8 T fs ((bY z 0 sz).map .d) parts):=rfl
@[go_sem] def Tg:xT T fs (some (vc,cs))=some (vc/\jA cs/\fs.all (fun f=>(T f.2).isSome)=true,bI cs):=rfl
attribute [go_sem] List.all_cons List.all_nil Option.isSome_some
def Ll (i j size:Nat) (x:D):Option (Prop×ZD)->Option (Prop×ZD)
 | some (vc,l)=>some (j=i/\x.cells.length=size/\x.eK/\vc,x::l)
 | none=>none
@[go_sem] def Xt:mo size i []=some (True,[]):=rfl
@[go_sem] def UH {x:D}{r:List (Nat×I)}:mo size i ((j,.d x)::r)=Ll i j size x (mo size (i+1) r):=by
 simp only[mo];cases mo size (i+1) r <;> rfl
@[go_sem] def zjT {r:List (Nat×I)}:mo size i ((j,.sl a g k lo n)::r)=none:=rfl
@[go_sem] def zjU {x:D}:Ll i j size x (some (vc,l))=some (j=i/\x.cells.length=size/\x.eK/\vc,x::l):=rfl
def CL (H:ZF) (len size:Nat):Option (Prop×ZD)->Option (Prop×I×ZF)
 | some (vc,l)=>some (vc/\l.length=len/\0<size/\len*size<=1000,.sl H.length 0 size 0 l.length,H ++ [.row 0 size (ao l) l])
 | none=>none
def Cr (H:ZF) (len:Nat) (parts:List (Nat×I)):Option TI->Option (Prop×I×ZF)
 | some ei=>CL H len ei.size (mo ei.size 0 parts)
 | none=>none
def rD (T:Nat->Option TI) (H:ZF) (len:Nat) (parts:List (Nat×I)):Option TI->Option (Prop×I×ZF)
 | some ⟨.slice e,_,_,_⟩=>Cr H len parts (T e)
 | _=>none
@[go_sem] def zjV:ko T H t len parts=rD T H len parts (T t):=by
 unfold ko;cases T t with
 | none=>rfl
 | some ti=>
  obtain⟨ty,sz,b,z⟩:=ti;cases ty with
  | slice e=>
   simp only[rD];cases T e with
   | none=>rfl
   | some ei=>simp only[Cr];cases mo ei.size 0 parts <;> rfl
  | _=>rfl
@[go_sem] def S5:rD T H len parts (some ⟨.slice e,sz,b,z⟩)=Cr H len parts (T e):=rfl
@[go_sem] def zjX:Cr H len parts (some ⟨ty,sz,b,z⟩)=CL H len sz (mo sz 0 parts):=rfl
@[go_sem] def zjY:CL H len size none=none:=rfl
@[go_sem] def Ui:CL H len size (some (vc,l))=some (vc/\l.length=len/\0<size/\len*size<=1000,.sl H.length 0 size 0 l.length,H ++ [.row 0 size (ao l) l]):=rfl
@[go_sem] def zka:ao []=true:=rfl
@[go_sem] def Ws {x:D}{r:ZD}:ao (x::r)=(x.cells.all D.scalar&&ao r):=rfl
attribute [go_sem] Bool.and_true rR Bool.and_self Bool.false_and Bool.and_false
def yB (H:ZF) (l c:D):Option TI->Option (Prop×I×ZF)
 | some ei=>some (l.isInt .i64/\c.isInt .i64/\0<=l.toInt/\l.toInt<=c.toInt/\(ei.bytes:Int)*c.toInt<=281474976710656/\0<ei.bytes/\0<ei.size,
   .sl H.length 0 ei.size 0 l.toInt.toNat,H ++ [.row 0 ei.size (.own []) (List.replicate l.toInt.toNat ei.zero)])
 | none=>none
def yE (T:Nat->Option TI) (H:ZF):Option TI->I->I->Option (Prop×I×ZF)
 | some ⟨.slice e,_,_,_⟩,.d l,.d c=>yB H l c (T e)
 | _,_,_=>none
@[go_sem] def zkb {l c:I}:wI T H t l c=yE T H (T t) l c:=by
 unfold wI;cases T t with
 | none=>rfl
 | some ti=>
  obtain⟨ty,sz,b,z⟩:=ti;cases ty <;> cases l <;> cases c <;> first
   | rfl
   | (rename_i e _ _;simp only[yE];cases T e <;> rfl)
@[go_sem] def zkc {l c:D}:yE T H (some ⟨.slice e,sz,b,z⟩) (.d l) (.d c)=yB H l c (T e):=rfl
@[go_sem] def zkd {l c:D}:yB H l c (some ⟨ty,sz,b,z⟩)=some (l.isInt .i64/\c.isInt .i64/\0<=l.toInt/\l.toInt<=c.toInt/\(b:Int)*c.toInt<=281474976710656/\0<b/\0<sz,
   .sl H.length 0 sz 0 l.toInt.toNat,H ++ [.row 0 sz (.own []) (List.replicate l.toInt.toNat z)]):=rfl
def Bt:Bool->Nat->I->Option (Prop×ZD)
 | true,sz,.d xd=>some (xd.cells.length=sz/\xd.one=false/\(∀ n,xd≠.tup n),bY xd 0 sz)
 | false,sz,.d xd=>some (sz=1/\xd.one=true,[xd])
 | _,_,_=>none
def Pe:cellsD ti x=Bt ti.ty.agg ti.size x:=by
 unfold cellsD;cases ti.ty.agg <;> cases x <;> rfl
@[go_sem] def zke:Bt true sz (.d xd)=some (xd.cells.length=sz/\xd.one=false/\(∀ n,xd≠.tup n),bY xd 0 sz):=rfl
@[go_sem] def zkf:Bt false sz (.d xd)=some (sz=1/\xd.one=true,[xd]):=rfl
def yj (H:ZF) (i off sz:Nat) (cs:ZE):Option (Prop×ZE)->Option (Prop×ZF)
 | some (vc,xs)=>some (vc/\off+sz<=cs.length,H.set i (.box (setCells cs off xs)))
 | none=>none
def uG (H:ZF) (i off:Nat) (ti:TI) (x:I):Option R->Option (Prop×ZF)
 | some (.box cs)=>yj H i off ti.size cs (iN ti x)
 | _=>none
def pt (H:ZF) (i g k idx off:Nat) (z:D) (sz g' k':Nat) (dp:DP) (l:ZD) (o2:Option (Prop×ZF)):Bool->Option (Prop×ZD)->Option (Prop×ZF)
 | true,some (vc,xs)=>some (vc/\g=g'/\k=k'/\idx<l.length/\off=0/\sz=1/\(dp.o=true->(l.getD idx z).scalar=true/\(xs.getD 0 .nil).scalar=true),H.set i (.row g' k' dp (l.set idx (xs.getD 0 .nil))))
 | false,some (vc,xs)=>some (vc/\g=g'/\k=k'/\idx<l.length/\off+sz<=k/\1<k/\(dp.o=true->(∀ c∈bY (l.getD idx z) off sz,c.scalar=true)/\(∀ c∈xs,c.scalar=true)),
      H.set i (.row g' k' dp (l.set idx (.agg (df (bY (l.getD idx z) 0 k) off xs)))))
 | _,none=>o2
def r8 (H:ZF) (i g k idx off:Nat) (z:D) (sz g' k':Nat) (l:ZD) (hs:List (Nat×Nat×I)):Bool->Option (Prop×ZE)->Option (Prop×ZF)
 | true,some (vc,xs)=>some (vc/\g=g'/\k=k'/\idx<l.length/\off=0/\sz=1/\lZ xs/\pn idx off sz hs,H.set i (.row g' k' (.own (fS idx off xs)) (l.set idx (iY (xs.getD 0 .junk)))))
 | false,some (vc,xs)=>some (vc/\g=g'/\k=k'/\idx<l.length/\off+sz<=k/\1<k/\lZ xs/\pn idx off sz hs,
       H.set i (.row g' k' (.own (fS idx off xs)) (l.set idx (.agg (df (bY (l.getD idx z) 0 k) off (xs.map iY))))))
 | _,none=>none
def rO (H:ZF) (i g k idx off:Nat) (z:D) (ti:TI) (g' k':Nat) (l:ZD) (x:I):DP->Option (Prop×ZF)
 | .own hs=>r8 H i g k idx off z ti.size g' k' l hs (decide (k=1)) (iN ti x)
 | _=>none
def rl (H:ZF) (i g k idx off:Nat) (z:D) (ti:TI) (x:I):Option R->Option (Prop×ZF)
 | some (.row g' k' dp l)=>pt H i g k idx off z ti.size g' k' dp l (rO H i g k idx off z ti g' k' l x dp) (decide (k=1)) (cellsD ti x)
 | _=>none
def tE (H:ZF) (p x:I):Option TI->Option (Prop×ZF)
 | some ti=>match p with
  | .ptr i off=>uG H i off ti x (bE H i)
  | .eptr i g k idx off z=>rl H i g k idx off z ti x (bE H i)
  | _=>none
 | none=>none
@[go_sem] def TT {p:I}:wN T H t p x=tE H p x (T t):=by
 unfold wN;cases T t with
 | none=>cases p <;> rfl
 | some ti=>
  cases p <;> simp only[tE,<-gp]
  ·rename_i i off;cases H[i]? with
   | none=>rfl
   | some r=>
    cases r <;> simp only[uG]
    rename_i cs;cases iN ti x <;> rfl
  ·rename_i i g k idx off z;cases H[i]? with
   | none=>rfl
   | some r=>
    cases r <;> simp only[rl]
    rename_i g' k' dp l;cases cellsD ti x with
    | none=>
     simp only[pt];rcases dp with _|hs
     ·rfl
     ·simp only[rO];cases iN ti x with
      | none=>simp only[r8]
      | some q=>obtain⟨vc,xs⟩:=q;cases decide (k=1) <;> rfl
    | some q=>obtain⟨vc,xs⟩:=q;cases decide (k=1) <;> rfl
@[go_sem] def zkh:tE H (.ptr i off) x (some ⟨ty,sz,b,z⟩)=uG H i off ⟨ty,sz,b,z⟩ x (bE H i):=rfl
@[go_sem] def zki:uG H i off ⟨ty,sz,b,z⟩ x (some (.box cs))=yj H i off sz cs (iN ⟨ty,sz,b,z⟩ x):=rfl
@[go_sem] def VC {xs:ZE}:yj H i off sz cs (some (vc,xs))=some (vc/\off+sz<=cs.length,H.set i (.box (setCells cs off xs))):=rfl
@[go_sem] def Vf:tE H (.eptr i g k idx off z') x (some ⟨ty,sz,b,z⟩)=rl H i g k idx off z' ⟨ty,sz,b,z⟩ x (bE H i):=rfl
@[go_sem] def XC:rl H i g k idx off z' ⟨ty,sz,b,z⟩ x (some (.row g' k' dp l))=pt H i g k idx off z' sz g' k' dp l (rO H i g k idx off z' ⟨ty,sz,b,z⟩ g' k' l x dp) (decide (k=1)) (Bt ty.agg sz x):=by
 simp only[rl,Pe]
@[go_sem] def zkm:pt H i g k idx off z' sz g' k' dp l o2 true (some (vc,xs)) =
  some (vc/\g=g'/\k=k'/\idx<l.length/\off=0/\sz=1/\(dp.o=true->(l.getD idx z').scalar=true/\(xs.getD 0 .nil).scalar=true),H.set i (.row g' k' dp (l.set idx (xs.getD 0 .nil)))):=rfl
@[go_sem] def WW:pt H i g k idx off z' sz g' k' dp l o2 false (some (vc,xs)) =
  some (vc/\g=g'/\k=k'/\idx<l.length/\off+sz<=k/\1<k/\(dp.o=true->(∀ c∈bY (l.getD idx z') off sz,c.scalar=true)/\(∀ c∈xs,c.scalar=true)),
      H.set i (.row g' k' dp (l.set idx (.agg (df (bY (l.getD idx z') 0 k) off xs))))):=rfl
@[go_sem] def Ta {bb:Bool}:pt H i g k idx off z' sz g' k' dp l o2 bb none=o2:=by cases bb <;> rfl
@[go_sem] def VB:rO H i g k idx off z' ⟨ty,sz,b,z⟩ g' k' l x (.own hs)=r8 H i g k idx off z' sz g' k' l hs (decide (k=1)) (iN ⟨ty,sz,b,z⟩ x):=rfl
@[go_sem] def Yg:rO H i g k idx off z' ⟨ty,sz,b,z⟩ g' k' l x .fz=none:=rfl
@[go_sem] def zkr {xs:ZE}:r8 H i g k idx off z' sz g' k' l hs true (some (vc,xs))=some (vc/\g=g'/\k=k'/\idx<l.length/\off=0/\sz=1/\lZ xs/\pn idx off sz hs,H.set i (.row g' k' (.own (fS idx off xs)) (l.set idx (iY (xs.getD 0 .junk))))):=rfl
@[go_sem] def Uq:pn idx off n []=True:=rfl
@[go_sem] def zkt {b:Nat}{r:List (Nat×Nat×I)}:pn idx off n ((a,b,x)::r)=((a=idx/\off<=b/\b<off+n)/\pn idx off n r):=rfl
@[go_sem] def Yx {xs:ZE}:r8 H i g k idx off z' sz g' k' l hs false (some (vc,xs))=some (vc/\g=g'/\k=k'/\idx<l.length/\off+sz<=k/\1<k/\lZ xs/\pn idx off sz hs,
       H.set i (.row g' k' (.own (fS idx off xs)) (l.set idx (.agg (df (bY (l.getD idx z') 0 k) off (xs.map iY)))))):=rfl
@[go_sem] def Y9:Bt true sz (.agg cs)=none:=rfl
@[go_sem] def zkw:lZ []=True:=rfl
@[go_sem] def XD:lZ (x::r)=(we x/\lZ r):=rfl
@[go_sem] def Zs {x:D}:we (.d x)=(x.scalar=true):=rfl
@[go_sem] def zkz:we (.sl i g k lo n)=True:=rfl
@[go_sem] def zkA {x:D}:iY (.d x)=x:=rfl
@[go_sem] def Wz:iY (.sl i g k lo n)=.lst 1 []:=rfl
@[go_sem] def WI:fS idx o []=[]:=rfl
@[go_sem] def ZQ {x:D}:fS idx o (.d x::r)=fS idx (o+1) r:=rfl
@[go_sem] def zkE:fS idx o (.sl i g k lo n::r)=(idx,o,.sl i g k lo n)::fS idx (o+1) r:=rfl
def rz (H:ZF) (i len sz:Nat) (agg:Bool):Option (Prop×ZE)->Option (Prop×I×ZF)
 | some (vc,cs)=>some (vc/\i=0/\len=1/\0<sz/\sz<=1000/\lZ cs,.sl H.length 0 sz 0 1,H ++ [.row 0 sz (.own (fS 0 0 cs)) [mM agg cs]])
 | none=>none
def B1 (H:ZF) (i len:Nat) (x:I):Option TI->Option (Prop×I×ZF)
 | some ei=>rz H i len ei.size ei.ty.agg (iN ei x)
 | none=>none
def qU (T:Nat->Option TI) (H:ZF) (i len:Nat) (x:I):Option TI->Option (Prop×I×ZF)
 | some ⟨.slice e,_,_,_⟩=>B1 H i len x (T e)
 | _=>none
@[go_sem] def YJ:yg T H t len i x=qU T H i len x (T t):=by
 unfold yg;cases T t with
 | none=>rfl
 | some ti=>
  obtain⟨ty,sz,b,z⟩:=ti;cases ty with
  | slice e=>
   simp only[qU];cases T e with
   | none=>rfl
   | some ei=>simp only[B1];cases iN ei x <;> rfl
  | _=>rfl
@[go_sem] def zkG:qU T H i len x (some ⟨.slice e,sz,b,z⟩)=B1 H i len x (T e):=rfl
@[go_sem] def zkH:B1 H i len x (some ⟨ty,sz,b,z⟩)=rz H i len sz ty.agg (iN ⟨ty,sz,b,z⟩ x):=rfl
@[go_sem] def zkI {agg:Bool}:rz H i len sz agg (some (vc,cs))=some (vc/\i=0/\len=1/\0<sz/\sz<=1000/\lZ cs,.sl H.length 0 sz 0 1,H ++ [.row 0 sz (.own (fS 0 0 cs)) [mM agg cs]]):=rfl
@[go_sem] def Zd:mM true cs=.agg (cs.map iY):=rfl
@[go_sem] def Vt:mM false cs=iY (cs.getD 0 .junk):=rfl
@[go_sem] def W1 {r:List (Nat×I)}:mo size i ((j,.agg cs)::r)=none:=rfl
def uH (T:Nat->Option TI) (kd:D) (ok:Bool):Option R->Option TI->Option TI->Option (Prop×I)
 | some (.map es),some kti,some eti=>some (lO T kti.ty/\e8 kti.ty kd/\jN kti.ty es,
    if ok=true then .d (.tup [(fR es kd).getD eti.zero,.bool (fR es kd).isSome]) else .d ((fR es kd).getD eti.zero))
 | _,_,_=>none
def yK (T:Nat->Option TI) (H:ZF) (m k:I) (ok:Bool):Option TI->Option (Prop×I)
 | some ⟨.map kt et,_,_,_⟩=>match m,k with
  | .map i,.d kd=>uH T kd ok (bE H i) (T kt) (T et)
  | _,_=>none
 | _=>none
@[go_sem] def zkL {m k:I}:wb T H t m k ok=yK T H m k ok (T t):=by
 unfold wb;cases T t with
 | none=>rfl
 | some ti=>
  obtain⟨ty,sz,b,z⟩:=ti;cases ty with
  | map kt et=>
   cases m <;> first|rfl|skip
   cases k <;> first|rfl|skip
   rename_i i kd;simp only[yK,gp];cases bE H i with
   | none=>rfl
   | some r=>
    cases r <;> first|rfl|skip
  | _=>cases m <;> rfl
@[go_sem] def UW:yK T H (.map i) (.d kd) ok (some ⟨.map kt et,sz,b,z⟩)=uH T kd ok (bE H i) (T kt) (T et):=rfl
@[go_sem] def Xx:uH T kd true (some (.map es)) (some ⟨ty,sz,b,z⟩) (some ⟨ty',sz',b',z'⟩) =
  some (lO T ty/\e8 ty kd/\jN ty es,.d (.tup [(fR es kd).getD z',.bool (fR es kd).isSome])):=rfl
@[go_sem] def zkO:uH T kd false (some (.map es)) (some ⟨ty,sz,b,z⟩) (some ⟨ty',sz',b',z'⟩) =
  some (lO T ty/\e8 ty kd/\jN ty es,.d ((fR es kd).getD z')):=rfl
def Lc (H:ZF):Option TI->Option (Prop×I×ZF)
 | some ⟨.map _ _,_,_,_⟩=>some (True,.map H.length,H ++ [.map []])
 | _=>none
@[go_sem] def zkP:xp T H t=Lc H (T t):=by
 unfold xp;cases T t with
 | none=>rfl
 | some ti=>obtain⟨ty,sz,b,z⟩:=ti;cases ty <;> rfl
@[go_sem] def XZ:Lc H (some ⟨.map kt et,sz,b,z⟩)=some (True,.map H.length,H ++ [.map []]):=rfl
def xf (T:Nat->Option TI) (H:ZF) (i:Nat) (kd xd:D):Option R->Option TI->Option (Prop×ZF)
 | some (.map es),some kti=>some (lO T kti.ty/\e8 kti.ty kd/\jN kti.ty es/\xO xd=true,H.set i (.map (bU es kd xd)))
 | _,_=>none
def xX (T:Nat->Option TI) (H:ZF) (m k x:I):Option TI->Option (Prop×ZF)
 | some ⟨.map kt _,_,_,_⟩=>match m,k,x with
  | .map i,.d kd,.d xd=>xf T H i kd xd (bE H i) (T kt)
  | _,_,_=>none
 | _=>none
@[go_sem] def qtt {m k:I}:sC T H t m k x=xX T H m k x (T t):=by
 unfold sC;cases T t with
 | none=>rfl
 | some ti=>
  obtain⟨ty,sz,b,z⟩:=ti;cases ty with
  | map kt et=>
   cases m <;> first|rfl|skip
   cases k <;> first|rfl|skip
   cases x <;> first|rfl|skip
   rename_i i kd xd;simp only[xX,gp];cases bE H i with
   | none=>rfl
   | some r=>
    cases r <;> first|rfl|skip
  | _=>cases m <;> rfl
@[go_sem] def zkR:xX T H (.map i) (.d kd) (.d xd) (some ⟨.map kt et,sz,b,z⟩)=xf T H i kd xd (bE H i) (T kt):=rfl
@[go_sem] def zkS:xf T H i kd xd (some (.map es)) (some ⟨ty,sz,b,z⟩)=some (lO T ty/\e8 ty kd/\jN ty es/\xO xd=true,H.set i (.map (bU es kd xd))):=rfl
@[go_sem] def zkT {k:IntKind}:lO T (.int k)=True:=rfl
@[go_sem] def qu3:lO T (.struct fs)=su T 0 fs:=rfl
@[go_sem] def Vi {k:IntKind}{x:D}:e8 (.int k) x=x.isInt k:=rfl
@[go_sem] def qu4 {cs:ZD}:e8 (.struct fs) (.agg cs)=(cs.length=fs.length/\bu cs):=rfl
@[go_sem] def Zq {ty:Ty}:jN ty []=True:=rfl
@[go_sem] def S7 {k v:D}:bU [] k v=[(k,v)]:=rfl
@[go_sem] def U2 {k:IntKind}{n:Int}:xO (.int k n)=true:=rfl
@[go_sem] def Yy {b:Bool}:xO (.bool b)=true:=rfl
attribute [go_sem] cP fH Option.isSome_none Option.isSome_some
def Bs {x:D×D}{r:List (D×D)}{k:D}:fR (x::r) k=if m7 k x.1=true then some x.2 else fR r k:=rfl
def I9 {k v:D} : ∀ {es:List (D×D)},fR es k=none->bU es k v=es ++ [(k,v)]
 | [],_=>rfl
 | x::r,h=>by
  simp only[fR] at h;split at h
  ·simp at h
  ·rename_i hb;simp only[bU,hb,eE,if_false,vI];rw[I9 h]
def zV {k:IntKind}{a b:Int}:m7 (.int k a) (.int k b)=decide (a=b):=rfl
def AD {k:IntKind}{a b c d:Int}:m7 (.agg [.int k a,.int k b]) (.agg [.int k c,.int k d])=decide (a=c/\b=d):=by
 simp only[m7,pH,D.toInt,Bool.and_true];by_cases h1:a=c <;> by_cases h2:b=d <;> simp[h1,h2]
def CG (size g k lo n:Nat):Option R->Option (Prop×ZD)
 | some (.row g' k' dp l)=>some (g=g'/\k=k'/\k=size/\(dp.o=true->ao ((l.drop lo).take n)=true),(l.drop lo).take n)
 | _=>none
@[go_sem] def YK:iD H size (.d xd)=some (xd.dc size/\0<size,xd.elems):=rfl
@[go_sem] def uf:iD H size (.sl i g k lo n)=CG size g k lo n (bE H i):=by
 simp only[iD,gp];cases bE H i with
 | none=>rfl
 | some r=>cases r <;> rfl
def sR (H:ZF) (i g k lo n:Nat) (c:Prop) (size bytes:Nat) (xs:ZD):Option R->Option (Prop×I×ZF)
 | some (.row g' k' dp l)=>some (c/\g=g'/\k=k'/\k=size/\lo=0/\n=l.length/\dp.shut=true/\(dp.o=true->jw l (ao xs))/\(n+xs.length)*bytes<=140737488355328/\0<bytes,
        .sl i (g+1) k 0 (n+xs.length),H.set i (.row (g+1) k (nv dp l (ao xs)) (l++xs)))
 | _=>none
def ua (H:ZF) (i g k lo n:Nat) (c:Prop) (size bytes:Nat) (xs:ZD) (hs:List bV):Option R->Option (Prop×I×ZF)
 | some (.row g' k' (.own []) l)=>some (c/\g=g'/\k=k'/\k=size/\lo=0/\n=l.length/\(n+xs.length)*bytes<=140737488355328/\0<bytes,
        .sl i (g+1) k 0 (n+xs.length),H.set i (.row (g+1) k (.own (pR l.length hs)) (l++xs)))
 | _=>none
def lP (H:ZF) (t t' size bytes:Nat) (d:I):Option (Prop×ZD×List bV)->Option (Prop×I×ZF)
 | some (vc,xs,[])=>match d with
  | .d .nil=>some ((t=t'/\vc)/\0<size/\xs.length*bytes<=140737488355328/\0<bytes,.sl H.length 0 size 0 xs.length,H ++ [.row 0 size (ao xs) xs])
  | .sl i g k lo n=>sR H i g k lo n (t=t'/\vc) size bytes xs (bE H i)
  | _=>none
 | some (vc,xs,h::hs)=>match d with
  | .d .nil=>some ((t=t'/\vc)/\0<size/\xs.length*bytes<=140737488355328/\0<bytes,.sl H.length 0 size 0 xs.length,H ++ [.row 0 size (.own (h::hs)) xs])
  | .sl i g k lo n=>ua H i g k lo n (t=t'/\vc) size bytes xs (h::hs) (bE H i)
  | _=>none
 | none=>none
def s8 (H:ZF) (t t':Nat) (d x:I):Option TI->Option (Prop×I×ZF)
 | some ei=>lP H t t' ei.size ei.bytes d (lI H ei.size x)
 | none=>none
def wU (T:Nat->Option TI) (H:ZF) (t t':Nat) (d x:I):Option TI->Option (Prop×I×ZF)
 | some ⟨.slice e,_,_,_⟩=>s8 H t t' d x (T e)
 | _=>none
def rW (H:ZF) (n:Int):Option TI->Option (Prop×I×ZF)
 | some ei=>some (0<n/\n*(ei.bytes:Int)<=140737488355328/\0<ei.bytes/\ei.size=1/\ei.zero.scalar=true,.sl H.length 0 1 0 n.toNat,H ++ [.row 0 1 (.own []) (List.replicate n.toNat ei.zero)])
 | none=>none
def wM (T:Nat->Option TI) (H:ZF) (e:Nat) (d x:I):Option (Prop×I×ZF):=
 match d,x with
 | .d .nil,.d (.int .i64 n)=>rW H n (T e)
 | _,_=>none
def xl (H:ZF) (i g k lo m:Nat) (n:Int):Option TI->Option R->Option (Prop×I×ZF)
 | some ei,some (.row g' k' (.own []) l)=>some (0<=n/\g=g'/\k'=1/\k=1/\lo=0/\m=l.length/\(m+n)*(ei.bytes:Int)<=140737488355328/\0<ei.bytes/\ei.size=1/\ei.zero.scalar=true,
     .sl i (g+1) 1 0 (m+n.toNat),H.set i (.row (g+1) 1 (.own []) (l++List.replicate n.toNat ei.zero)))
 | _,_=>none
def w6 (T:Nat->Option TI) (H:ZF) (e:Nat) (d x:I):Option (Prop×I×ZF):=
 match d,x with
 | .sl i g k lo m,.d (.int .i64 n)=>xl H i g k lo m n (T e) (bE H i)
 | _,_=>none
def xq (x y:Option (Prop×I×ZF)):Option (Prop×I×ZF):=match x with|some r=>some r|none=>y
def tu (T:Nat->Option TI) (H:ZF) (t t':Nat) (d x:I):Option TI->Option TI->Option (Prop×I×ZF)
 | some ⟨.slice e,_,_,_⟩,some ⟨.int .i64,_,_,_⟩=>xq (wM T H e d x) (xq (w6 T H e d x) (sA T H t t' d x))
 | _,_=>sA T H t t' d x
def LR (T:Nat->Option TI) (H:ZF) (d x:I):Option TI->Option TI->Option (Prop×I×ZF)
 | some ⟨.slice e,_,_,_⟩,some ⟨.int .i64,_,_,_⟩=>wM T H e d x
 | _,_=>none
def IU (T:Nat->Option TI) (H:ZF) (d x:I):Option TI->Option TI->Option (Prop×I×ZF)
 | some ⟨.slice e,_,_,_⟩,some ⟨.int .i64,_,_,_⟩=>w6 T H e d x
 | _,_=>none
def PN:BM T H t t' d x=LR T H d x (T t) (T t'):=by
 unfold BM;cases T t with
 | none=>rfl
 | some ti=>
  obtain⟨ty,sz,b,z⟩:=ti;cases T t' with
  | none=>cases ty <;> rfl
  | some ti'=>
   obtain⟨ty',sz',b',z'⟩:=ti';cases d with
   | d dd=>
    cases dd with
    | nil=>
     cases x with
     | d xd=>
      cases xd with
      | int k n=>
       cases k <;> (cases ty <;> first|rfl|(cases ty' <;> first|rfl|(rename_i e k2;cases k2 <;> first|rfl|(simp only[LR,wM,rW];cases T e <;> rfl))))
      | _=>cases ty <;> first|rfl|(cases ty' <;> first|rfl|(rename_i e k2;cases k2 <;> rfl))
     | _=>cases ty <;> first|rfl|(cases ty' <;> first|rfl|(rename_i e k2;cases k2 <;> rfl))
    | _=>cases ty <;> first|rfl|(cases ty' <;> first|rfl|(rename_i e k2;cases k2 <;> rfl))
   | _=>cases ty <;> first|rfl|(cases ty' <;> first|rfl|(rename_i e k2;cases k2 <;> rfl))
def R7:BH T H t t' d x=IU T H d x (T t) (T t'):=by
 unfold BH;cases T t with
 | none=>rfl
 | some ti=>
  obtain⟨ty,sz,b,z⟩:=ti;cases T t' with
  | none=>cases ty <;> rfl
  | some ti'=>
   obtain⟨ty',sz',b',z'⟩:=ti';cases d with
   | sl i g k lo m=>
    cases x with
    | d xd=>
     cases xd with
     | int kx n=>
      cases kx <;> (cases ty <;> first|rfl|(cases ty' <;> first|rfl|(rename_i e k2;cases k2 <;> first|rfl|(simp only[IU,w6,gp];cases T e <;> first|rfl|(cases H[i]? <;> first|rfl|(rename_i r;cases r <;> first|rfl|(rename_i dp _;cases dp <;> first|rfl|(rename_i hs;cases hs <;> rfl))))))))
     | _=>cases ty <;> first|rfl|(cases ty' <;> first|rfl|(rename_i e k2;cases k2 <;> rfl))
    | _=>cases ty <;> first|rfl|(cases ty' <;> first|rfl|(rename_i e k2;cases k2 <;> rfl))
   | _=>cases ty <;> first|rfl|(cases ty' <;> first|rfl|(rename_i e k2;cases k2 <;> rfl))
@[go_sem] def zla:oc T H t t' d x=tu T H t t' d x (T t) (T t'):=by
 unfold oc;rw[PN,R7];cases T t with
 | none=>rfl
 | some ti=>
  obtain⟨ty,sz,b,z⟩:=ti;cases T t' with
  | none=>cases ty <;> rfl
  | some ti'=>
   obtain⟨ty',sz',b',z'⟩:=ti';cases ty <;> first|rfl|(cases ty' <;> first|rfl|(rename_i e k2;cases k2 <;> rfl))
@[go_sem] def zlb {e':Nat}:tu T H t t' d x (some ⟨.slice e,sz,b,z⟩) (some ⟨.slice e',sz',b',z'⟩)=sA T H t t' d x:=rfl
@[go_sem] def SV {r:Prop×I×ZF}{y:Option (Prop×I×ZF)}:xq (some r) y=some r:=rfl
@[go_sem] def zld {n:Int}{ty:Ty}{sz b:Nat}{z:D}:rW H n (some ⟨ty,sz,b,z⟩)=some (0<n/\n*(b:Int)<=140737488355328/\0<b/\sz=1/\z.scalar=true,.sl H.length 0 1 0 n.toNat,H ++ [.row 0 1 (.own []) (List.replicate n.toNat z)]):=rfl
@[go_sem] def zle {n:Int}:tu T H t t' (.d .nil) (.d (.int .i64 n)) (some ⟨.slice e,sz,b,z⟩) (some ⟨.int .i64,sz',b',z'⟩)=xq (rW H n (T e)) (sA T H t t' (.d .nil) (.d (.int .i64 n))):=by
 show xq (rW H n (T e)) (xq none _)=_
 rfl
@[go_sem] def zlf {n:Int}:tu T H t t' (.sl i g k lo m) (.d (.int .i64 n)) (some ⟨.slice e,sz,b,z⟩) (some ⟨.int .i64,sz',b',z'⟩)=xq (xl H i g k lo m n (T e) (bE H i)) (sA T H t t' (.sl i g k lo m) (.d (.int .i64 n))):=rfl
@[go_sem] def Y1 {n:Int}{ty:Ty}{sz b:Nat}{z:D}:xl H i g k lo m n (some ⟨ty,sz,b,z⟩) (some (.row g' k' (.own []) l))=some (0<=n/\g=g'/\k'=1/\k=1/\lo=0/\m=l.length/\(m+n)*(b:Int)<=140737488355328/\0<b/\sz=1/\z.scalar=true,
     .sl i (g+1) 1 0 (m+n.toNat),H.set i (.row (g+1) 1 (.own []) (l++List.replicate n.toNat z))):=rfl
@[go_sem] def zlh:sA T H t t' d x=wU T H t t' d x (T t):=by
 unfold sA;cases T t with
 | none=>rfl
 | some ti=>
  obtain⟨ty,sz,b,z⟩:=ti;cases ty with
  | slice e=>
   simp only[wU];cases T e with
   | none=>rfl
   | some ei=>
    simp only[s8];cases lI H ei.size x with
    | none=>rfl
    | some q=>
     obtain⟨vc,xs,hs⟩:=q;cases hs with
     | nil=>
      cases d with
      | d dd=>cases dd <;> simp only[lP,and_assoc]
      | sl i g k lo n=>
       simp only[lP,<-gp];cases H[i]? with
       | none=>rfl
       | some r=>cases r <;> simp only[sR,and_assoc]
      | _=>rfl
     | cons h hs=>
      cases d with
      | d dd=>cases dd <;> simp only[lP,and_assoc]
      | sl i g k lo n=>
       simp only[lP,<-gp];cases H[i]? with
       | none=>rfl
       | some r=>
        cases r with
        | row g' k' dp l=>
         rcases dp with _|hs2
         ·rfl
         ·cases hs2 <;> simp only[ua,and_assoc]
        | _=>rfl
      | _=>rfl
  | _=>rfl
@[go_sem] def zli:wU T H t t' d x (some ⟨.slice e,sz,b,z⟩)=s8 H t t' d x (T e):=rfl
@[go_sem] def zlj:s8 H t t' d x (some ⟨ty,sz,b,z⟩)=lP H t t' sz b d (lI H sz x):=rfl
@[go_sem] def Ts:lP H t t' sz bytes (.d .nil) (some (vc,xs,[]))=some ((t=t'/\vc)/\0<sz/\xs.length*bytes<=140737488355328/\0<bytes,.sl H.length 0 sz 0 xs.length,H ++ [.row 0 sz (ao xs) xs]):=rfl
@[go_sem] def zll:lP H t t' sz bytes (.sl i g k lo n) (some (vc,xs,[]))=sR H i g k lo n (t=t'/\vc) sz bytes xs (bE H i):=rfl
@[go_sem] def zlm {hs:List bV}:lP H t t' sz bytes (.sl i g k lo n) (some (vc,xs,h::hs))=ua H i g k lo n (t=t'/\vc) sz bytes xs (h::hs) (bE H i):=rfl
@[go_sem] def zln:sR H i g k lo n c sz bytes xs (some (.row g' k' dp l)) =
  some (c/\g=g'/\k=k'/\k=sz/\lo=0/\n=l.length/\dp.shut=true/\(dp.o=true->jw l (ao xs))/\(n+xs.length)*bytes<=140737488355328/\0<bytes,.sl i (g+1) k 0 (n+xs.length),H.set i (.row (g+1) k (nv dp l (ao xs)) (l++xs))):=rfl
attribute [go_sem] tK Qd uC uK uR xW xH xJ yR
@[go_sem] def TX {hs:List bV}:ua H i g k lo n c sz bytes xs hs (some (.row g' k' (.own []) l)) =
  some (c/\g=g'/\k=k'/\k=sz/\lo=0/\n=l.length/\(n+xs.length)*bytes<=140737488355328/\0<bytes,.sl i (g+1) k 0 (n+xs.length),H.set i (.row (g+1) k (.own (pR l.length hs)) (l++xs))):=rfl
@[go_sem] def zlp:pR n []=[]:=rfl
@[go_sem] def UM {c:Nat}{r:List bV}:pR n ((a,c,x)::r)=(n+a,c,x)::pR n r:=rfl
@[go_sem] def V7 {hs:List bV}:ud k hs j []=True:=rfl
def Fb:Option I->D->Prop
 | some _,_=>True
 | none,c=>c.scalar=true
@[go_sem] def zls {c:D}:Fb (some x) c=True:=rfl
@[go_sem] def Yn {c:D}:Fb none c=(c.scalar=true):=rfl
@[go_sem] def zlu {hs:List bV}{c:D}{r:ZD}:ud k hs j (c::r)=(Fb (cy k hs j) c/\ud k hs (j+1) r):=by
 simp only[ud];cases cy k hs j <;> rfl
@[go_sem] def zlv:lI H size (.d xd)=some (xd.dc size/\0<size,xd.elems,[]):=rfl
def y9 (size g k lo n:Nat):Option R->Option (Prop×ZD×List bV)
 | some (.row g' k' (.own (h::hs)) l)=>some (g=g'/\k=k'/\k=size/\lo=0/\n=l.length/\0<n/\ud k (h::hs) 0 (flat l),l,h::hs)
 | r=>vz (CG size g k lo n r)
@[go_sem] def ZX:lI H size (.sl i g k lo n)=y9 size g k lo n (bE H i):=by
 simp only[lI,uf,gp];cases bE H i with
 | none=>rfl
 | some r=>
  cases r with
  | row g' k' dp l=>
   rcases dp with _|hs
   ·rfl
   ·cases hs <;> rfl
  | _=>rfl
@[go_sem] def zlx {hs:List bV}:y9 size g k lo n (some (.row g' k' (.own (h::hs)) l))=some (g=g'/\k=k'/\k=size/\lo=0/\n=l.length/\0<n/\ud k (h::hs) 0 (flat l),l,h::hs):=rfl
@[go_sem] def Zo:y9 size g k lo n (some (.row g' k' (.own []) l))=some (g=g'/\k=k'/\k=size/\(ao ((l.drop lo).take n)=true),(l.drop lo).take n,[]):=by
 simp only[y9,CG,vz,DP.o,true_implies]
@[go_sem] def zlz:y9 size g k lo n (some (.row g' k' .fz l))=some (g=g'/\k=k'/\k=size,(l.drop lo).take n,[]):=by
 simp[y9,CG,vz,DP.o]
@[go_sem] def zlA {x:D}:flat [x]=x.cells ++ []:=rfl
def xY (H:ZF) (i g k lo n size:Nat) (z:D):Option R->Option (Prop×I×ZF)
 | some (.row g' k' dp l)=>some (g=g'/\k=k'/\k=size/\size=1/\z.scalar=true/\l.all D.scalar=true,.d (.tup []),H.set i (.row g' k' dp (ip l lo (List.replicate n z))))
 | _=>none
def s9 (H:ZF) (size:Nat) (z:D):I->Option (Prop×I×ZF)
 | .sl i g k lo n=>xY H i g k lo n size z (bE H i)
 | _=>none
def tv (H:ZF) (d:I):Option TI->Option (Prop×I×ZF)
 | some ei=>s9 H ei.size ei.zero d
 | none=>none
def yi (T:Nat->Option TI) (H:ZF) (d:I):Option TI->Option (Prop×I×ZF)
 | some ⟨.slice e,_,_,_⟩=>tv H d (T e)
 | _=>none
@[go_sem] def zlB:zx T H t d=yi T H d (T t):=by
 unfold zx;cases T t with
 | none=>rfl
 | some ti=>
  obtain⟨ty,sz,b,z⟩:=ti;cases ty with
  | slice e=>
   simp only[yi];cases T e with
   | none=>rfl
   | some ei=>
    cases d <;> simp only[tv,s9,<-gp]
    rename_i i g k lo n;cases H[i]? with
    | none=>rfl
    | some r=>cases r <;> rfl
  | _=>rfl
@[go_sem] def Z6 {sz b:Nat}{z:D}:yi T H d (some ⟨.slice e,sz,b,z⟩)=tv H d (T e):=rfl
@[go_sem] def zlD {ty:Ty}{sz b:Nat}{z:D}:tv H d (some ⟨ty,sz,b,z⟩)=s9 H sz z d:=rfl
@[go_sem] def zlE {sz:Nat}{z:D}:s9 H sz z (.sl i g k lo n)=xY H i g k lo n sz z (bE H i):=rfl
@[go_sem] def zlF {sz:Nat}{z:D}:xY H i g k lo n sz z (some (.row g' k' dp l))=some (g=g'/\k=k'/\k=sz/\sz=1/\z.scalar=true/\l.all D.scalar=true,.d (.tup []),H.set i (.row g' k' dp (ip l lo (List.replicate n z)))):=rfl
def xE (H:ZF) (i g k lo n:Nat) (vc:Prop) (size:Nat) (xs:ZD):Option R->Option (Prop×I×ZF)
 | some (.row g' k' dp l)=>some (vc/\g=g'/\k=k'/\k=size/\size=1/\xs.length<=n/\lo+n<=l.length/\xs.all D.scalar=true/\l.all D.scalar=true,
       .d (.int .i64 (xs.length:Nat)),H.set i (.row g' k' dp (ip l lo xs)))
 | _=>none
def tG (H:ZF) (size:Nat):Option (Prop×ZD)->I->Option (Prop×I×ZF)
 | some (vc,xs),.sl i g k lo n=>xE H i g k lo n vc size xs (bE H i)
 | _,_=>none
def sX (H:ZF) (d x:I):Option TI->Option (Prop×I×ZF)
 | some ei=>tG H ei.size (iD H ei.size x) d
 | none=>none
def ye (T:Nat->Option TI) (H:ZF) (d x:I):Option TI->Option (Prop×I×ZF)
 | some ⟨.slice e,_,_,_⟩=>sX H d x (T e)
 | _=>none
@[go_sem] def zlG:zH T H t t' d x=ye T H d x (T t):=by
 unfold zH;cases T t with
 | none=>rfl
 | some ti=>
  obtain⟨ty,sz,b,z⟩:=ti;cases ty with
  | slice e=>
   simp only[ye];cases T e with
   | none=>rfl
   | some ei=>
    simp only[sX];cases iD H ei.size x with
    | none=>cases d <;> rfl
    | some q=>
     obtain⟨vc,xs⟩:=q;cases d <;> simp only[tG,<-gp]
     rename_i i g k lo n;cases H[i]? with
     | none=>rfl
     | some r=>cases r <;> rfl
  | _=>rfl
@[go_sem] def XV:ye T H d x (some ⟨.slice e,sz,b,z⟩)=sX H d x (T e):=rfl
@[go_sem] def zlI:sX H d x (some ⟨ty,sz,b,z⟩)=tG H sz (iD H sz x) d:=rfl
@[go_sem] def Tp:tG H sz (some (vc,xs)) (.sl i g k lo n)=xE H i g k lo n vc sz xs (bE H i):=rfl
@[go_sem] def zlK:xE H i g k lo n vc sz xs (some (.row g' k' dp l)) =
  some (vc/\g=g'/\k=k'/\k=sz/\sz=1/\xs.length<=n/\lo+n<=l.length/\xs.all D.scalar=true/\l.all D.scalar=true,.d (.int .i64 (xs.length:Nat)),H.set i (.row g' k' dp (ip l lo xs))):=rfl
@[go_sem] def zlL {cs:ZD}:fe (.d (.fn g cs))=some (g,cs.map .d):=rfl
@[go_sem] def zlM:fe (.fn g cs)=some (g,cs):=rfl
def GF (E:Env) (c:Prop) (f:Nat) (H:ZF) (K:I->ZF->Prop):Option (Prop×ZD)->Prop
 | some (vc,ds)=>c/\vc/\zP E f ds H K
 | none=>False
def AH (E:Env) (c:Prop) (f:Nat) (H:ZF) (K:I->ZF->Prop):Option (Prop×ZD)->Prop
 | some (vc,ds)=>c/\vc/\za E f ds H K
 | none=>False
def y7 (E:Env) (c:Prop) (f:Nat) (args:ZE) (H:ZF) (K:I->ZF->Prop):Kind->Prop
 | .own=>GF E c f H K (mC H args)
 | .fz=>AH E c f H K (qs args)
 | .proc=>c/\aA E.P f args H K
@[go_sem] def XU:oK E c (some (f,caps)) args H K=y7 E c f (args++caps) H K (E.pf f):=by
 simp only[oK];cases E.pf f with
 | own=>simp only[y7];cases mC H (args++caps) <;> rfl
 | fz=>simp only[y7];cases qs (args++caps) <;> rfl
 | proc=>rfl
@[go_sem] def UD:y7 E c f args H K .own=GF E c f H K (mC H args):=rfl
@[go_sem] def zlP:y7 E c f args H K .fz=AH E c f H K (qs args):=rfl
@[go_sem] def W9:y7 E c f args H K .proc=(c/\aA E.P f args H K):=rfl
@[go_sem] def zlR:GF E c f H K (some (vc,ds))=(c/\vc/\zP E f ds H K):=rfl
@[go_sem] def zlS:AH E c f H K (some (vc,ds))=(c/\vc/\za E f ds H K):=rfl
def FT (E:Env) (c:Prop) (e:Bool) (f:Nat) (K:I->Prop):Option (Prop×ZD)->Prop
 | some (vc,ds)=>(e=true->c/\vc)/\Ds E e f ds K
 | none=>False
def zy (E:Env) (c:Prop) (e:Bool) (f:Nat) (args:ZE) (H:ZF) (K:ZF->I->Prop):Kind->Prop
 | .own=>FT E c e f (K H) (mC H args)
 | .proc=>(e=false->∃ x,K H (.cond e x))/\(e=true->c/\aA E.P f args H (fun r H'=>K H' (.cond e r)))
 | .fz=>(e=false->∃ x,K H (.cond e x))/\(e=true->AH E c f H (fun r H'=>K H' (.cond e r)) (qs args))
@[go_sem] def zlT {e:Bool}{K:ZF->I->Prop}:xC E c e (some (f,caps)) args H K=zy E c e f (args++caps) H K (E.pf f):=by
 simp only[xC];cases E.pf f with
 | own=>simp only[zy];cases mC H (args++caps) <;> rfl
 | fz=>simp only[zy];cases qs (args++caps) <;> rfl
 | proc=>rfl
@[go_sem] def zlU {e:Bool}{K:ZF->I->Prop}:zy E c e f args H K .proc=((e=false->∃ x,K H (.cond e x))/\(e=true->c/\aA E.P f args H (fun r H'=>K H' (.cond e r)))):=rfl
@[go_sem] def Yr {e:Bool}{K:ZF->I->Prop}:zy E c e f args H K .fz=((e=false->∃ x,K H (.cond e x))/\(e=true->AH E c f H (fun r H'=>K H' (.cond e r)) (qs args))):=rfl
@[go_sem] def zlW {e:Bool}{K:ZF->I->Prop}:zy E c e f args H K .own=FT E c e f (K H) (mC H args):=rfl
@[go_sem] def VU {e:Bool}{K:I->Prop}:FT E c e f K (some (vc,ds))=((e=true->c/\vc)/\Ds E e f ds K):=rfl
def CM:Option (Prop×D)->Option (Prop×ZD)->Option (Prop×ZD)
 | some (vc,d),some (vc',ds)=>some (vc/\vc',d::ds)
 | _,_=>none
def vT:Option (Prop×D)->Option (Prop×ZD)->Option (Prop×ZD)
 | some (vc,d),some (vc',ds)=>some (vc/\d.one=true/\vc',d::ds)
 | _,_=>none
@[go_sem] def Wp {d:D}:CM (some (vc,d)) (some (vc',ds))=some (vc/\vc',d::ds):=rfl
@[go_sem] def zlZ {d:D}:vT (some (vc,d)) (some (vc',ds))=some (vc/\d.one=true/\vc',d::ds):=rfl
@[go_sem] def zma:mC H []=some (True,[]):=rfl
@[go_sem] def SG:mC H (x::r)=CM (view H 3 x) (mC H r):=by
 simp only[mC,kH];cases view H 3 x with
 | none=>rfl
 | some p=>obtain⟨vc,d⟩:=p;cases kH (view H 3) r <;> rfl
@[go_sem] def zmb:qs []=some (True,[]):=rfl
@[go_sem] def VO {x:D}:qs (.d x::r)=CM (some (True,x)) (qs r):=by
 simp only[qs,kH,view];cases kH (view [] 0) r <;> rfl
@[go_sem] def zmd {f:I->Option (Prop×D)}:na f []=some (True,[]):=rfl
@[go_sem] def Wo {f:I->Option (Prop×D)}:na f (x::r)=vT (f x) (na f r):=by
 simp only[na];cases f x with
 | none=>rfl
 | some p=>obtain⟨vc,d⟩:=p;cases na f r <;> rfl
@[go_sem] def zmf {f:I->Option (Prop×D)}:kH f []=some (True,[]):=rfl
@[go_sem] def zmg {f:I->Option (Prop×D)}:kH f (x::r)=CM (f x) (kH f r):=by
 simp only[kH];cases f x with
 | none=>rfl
 | some p=>obtain⟨vc,d⟩:=p;cases kH f r <;> rfl
def MD (g k lo n:Nat):Option R->Option (Prop×D)
 | some (.row g' k' dp l)=>some (g=g'/\k=k'/\dp.shut=true,.lst k ((l.drop lo).take n))
 | _=>none
def wG:Option (Prop×ZD)->Option (Prop×D)
 | some (vc,ds)=>some (vc,.ptr ds)
 | none=>none
def w8 (H:ZF) (f off:Nat):Option R->Option (Prop×D)
 | some (.box cs)=>wG (na (view H f) (cs.drop off))
 | _=>none
def AE:Option (Prop×ZD)->Option (Prop×D)
 | some (vc,ds)=>some (vc,.agg ds)
 | none=>none
def Bw:Option (Prop×ZD)->Option (Prop×D)
 | some (vc,ds)=>some (vc,.tup ds)
 | none=>none
def J4 (g:Nat):Option (Prop×ZD)->Option (Prop×D)
 | some (vc,ds)=>some (vc,.fn g ds)
 | none=>none
@[go_sem] def Y8 {x:D}:view H (f+1) (.d x)=some (True,x):=rfl
@[go_sem] def zmi:view H (f+1) (.sl i g k lo n)=MD g k lo n (bE H i):=by
 simp only[view,gp];cases bE H i with
 | none=>rfl
 | some r=>cases r <;> rfl
@[go_sem] def zmj:view H (f+1) (.ptr i off)=w8 H f off (bE H i):=by
 simp only[view,gp];cases bE H i with
 | none=>rfl
 | some r=>
  cases r <;> simp only[w8]
  rename_i cs;cases na (view H f) (cs.drop off) <;> rfl
@[go_sem] def VF:view H (f+1) (.agg cs)=AE (na (view H f) cs):=by
 simp only[view];cases na (view H f) cs <;> rfl
@[go_sem] def Y4:view H (f+1) (.fn g cs)=J4 g (kH (view H f) cs):=by
 simp only[view];cases kH (view H f) cs <;> rfl
@[go_sem] def Wl:view H (f+1) (.tup cs)=Bw (kH (view H f) cs):=by
 simp only[view];cases kH (view H f) cs <;> rfl
@[go_sem] def To:Bw (some (vc,ds))=some (vc,.tup ds):=rfl
@[go_sem] def VQ:MD g k lo n (some (.row g' k' dp l))=some (g=g'/\k=k'/\dp.shut=true,.lst k ((l.drop lo).take n)):=rfl
@[go_sem] def TB:w8 H f off (some (.box cs))=wG (na (view H f) (cs.drop off)):=rfl
@[go_sem] def zmq:wG (some (vc,ds))=some (vc,.ptr ds):=rfl
@[go_sem] def Ug:AE (some (vc,ds))=some (vc,.agg ds):=rfl
@[go_sem] def WC:J4 g (some (vc,ds))=some (vc,.fn g ds):=rfl
def w7 (Po:I->ZF->Prop) (H:ZF):Option (Prop×I)->Prop
 | some (vc,r)=>vc/\Po r H
 | none=>False
def sW:Option (Prop×ZE)->Option (Prop×I)
 | some (vc,[x])=>some (vc,x)
 | some (vc,l)=>some (vc,.tup l)
 | none=>none
def wh (x:I):Option (Prop×ZE)->Option (Prop×ZE)
 | some (vc,l)=>some (vc,x::l)
 | none=>none
def vQ:Option (Prop×I)->Option (Prop×ZE)->Option (Prop×ZE)
 | some (c,x),some (vc,l)=>some (c/\vc,x::l)
 | _,_=>none
@[go_sem] def Xd:endsWith T fn Po .normal fr H=w7 (Po fr) H (fl T H fr fn.results.toList):=by
 simp only[endsWith];cases fl T H fr fn.results.toList <;> rfl
@[go_sem] def qu5:endsWith T fn Po .ret fr H=w7 (Po fr) H (fl T H fr fn.results.toList):=by
 simp only[endsWith];cases fl T H fr fn.results.toList <;> rfl
@[go_sem] def Tt {Po:I->ZF->Prop}{r:I}:w7 Po H (some (vc,r))=(vc/\Po r H):=rfl
@[go_sem] def W2 {rs:List ResultVar}:fl T H fr rs=sW (eY T H fr rs):=by
 simp only[fl];cases eY T H fr rs with
 | none=>rfl
 | some p=>obtain⟨vc,l⟩:=p;match l with|[]=>rfl|[x]=>rfl|x::y::r=>rfl
@[go_sem] def U6:eY T H fr []=some (True,[]):=rfl
@[go_sem] def Yv {r:List ResultVar}:eY T H fr (.tmp t::r)=wh (fr.get t) (eY T H fr r):=by
 simp only[eY];cases eY T H fr r <;> rfl
@[go_sem] def Zu {x:Nat}{r:List ResultVar}:eY T H fr (.cell x t::r)=vQ (nE T H t (fr.get x)) (eY T H fr r):=by
 simp only[eY];cases nE T H t (fr.get x) with
 | none=>rfl
 | some p=>cases eY T H fr r <;> rfl
@[go_sem] def zmy {l:ZE}:wh x (some (vc,l))=some (vc,x::l):=rfl
@[go_sem] def SY {l:ZE}:vQ (some (c,x)) (some (vc,l))=some (c/\vc,x::l):=rfl
@[go_sem] def Wt:sW (some (vc,[x]))=some (vc,x):=rfl
@[go_sem] def ZL:sW (some (vc,[]))=some (vc,.tup []):=rfl
@[go_sem] def WB {y:I}:sW (some (vc,x::y::r))=some (vc,.tup (x::y::r)):=rfl
@[go_sem] def V9 {x:D}{ids:ZC}:qG x (some (vc,x',ids))=(vc/\ids.Nodup/\wk x' x):=rfl
@[go_sem] def zmE {x:D}:yU x (some (vc,x'))=(vc/\wk x' x):=rfl
def I7 (i g k lo m:Nat):Option R->Option (Prop×D×ZC)
 | some (.row g' k' (.own []) l)=>some (g=g'/\k=k'/\lo=0/\m=l.length,.lst k l,[i])
 | _=>none
@[go_sem] def UJ:I7 i g k lo m (some (.row g' k' (.own []) l))=some (g=g'/\k=k'/\lo=0/\m=l.length,.lst k l,[i]):=rfl
@[go_sem] def zmG {x:D}:pk H f (.d x)=some (uX x=true,x,[]):=by cases f <;> rfl
@[go_sem] def Xb:pk H f (.sl i g k lo m)=I7 i g k lo m (bE H i):=by
 rw[<-gp];cases f <;> simp only[pk] <;> (cases H[i]? with
  | none=>rfl
  | some r=>cases r <;> first|rfl|(rename_i dp _;rcases dp with _|hs;rfl;cases hs <;> rfl))
def Kv:Option (Prop×ZD×ZC)->Option (Prop×D×ZC)
 | some (vc,ds,l)=>some (vc/\mB ds,.agg ds,l)
 | none=>none
def Jl:Option (Prop×ZD×ZC)->Option (Prop×D×ZC)
 | some (vc,ds,l)=>some (vc,.tup ds,l)
 | none=>none
def HN:Option (Prop×D×ZC)->Option (Prop×ZD×ZC)->Option (Prop×ZD×ZC)
 | some (vc,d,l),some (vc',ds,l')=>some (vc/\vc',d::ds,l++l')
 | _,_=>none
@[go_sem] def zmI:pk H (f+1) (.agg cs)=Kv (oo (pk H f) cs):=by simp only[pk];cases oo (pk H f) cs <;> rfl
@[go_sem] def zmJ:pk H (f+1) (.tup cs)=Jl (oo (pk H f) cs):=by simp only[pk];cases oo (pk H f) cs <;> rfl
@[go_sem] def zmK {l:ZC}:Kv (some (vc,ds,l))=some (vc/\mB ds,.agg ds,l):=rfl
@[go_sem] def TJ {l:ZC}:Jl (some (vc,ds,l))=some (vc,.tup ds,l):=rfl
@[go_sem] def Xj {d:D}{l l':ZC}:HN (some (vc,d,l)) (some (vc',ds,l'))=some (vc/\vc',d::ds,l++l'):=rfl
@[go_sem] def zmN {f:I->Option (Prop×D×ZC)}:oo f []=some (True,[],[]):=rfl
@[go_sem] def WF {f:I->Option (Prop×D×ZC)}:oo f (x::r)=HN (f x) (oo f r):=by
 simp only[oo];cases f x with
 | none=>rfl
 | some p=>obtain⟨vc,d,l⟩:=p;cases oo f r <;> rfl
@[go_sem] def zmP:mB []=True:=rfl
@[go_sem] def ZK {x:D}{r:ZD}:mB (x::r)=(x.one=true/\mB r):=rfl
@[go_sem] def zmR {k:IntKind}{n:Int}:uX (.int k n)=true:=rfl
@[go_sem] def zmS {b:Bool}:uX (.bool b)=true:=rfl
@[go_sem] def zmT:uX .nil=true:=rfl
@[go_sem] def Xm {cs:ZD}:uX (.agg cs)=cs.all yN:=rfl
@[go_sem] def Z4 {k:IntKind}{n:Int}:yN (.int k n)=true:=rfl
@[go_sem] def Vv:yN .nil=true:=rfl
@[go_sem] def zmX {k:IntKind}{n:Int}{y:D}:wk (.int k n) y=(D.int k n=y):=by cases y <;> rfl
@[go_sem] def Ze {b:Bool}{y:D}:wk (.bool b) y=(D.bool b=y):=by cases y <;> rfl
@[go_sem] def zmZ {y:D}:wk (.lst k l) y=(D.lst k l=y):=by cases y <;> rfl
@[go_sem] def zna:wk .nil (.lst k l)=(0<k/\l=[]):=rfl
@[go_sem] def Tv:wk (.agg xs) (.agg ys)=jM xs ys:=rfl
@[go_sem] def znc:wk (.tup xs) (.tup ys)=pi xs ys:=rfl
@[go_sem] def znd:jM [] []=True:=rfl
@[go_sem] def zne {x y:D}:jM (x::xs) (y::ys)=(gF x y/\jM xs ys):=rfl
@[go_sem] def Up:pi [] []=True:=rfl
@[go_sem] def zng {x y:D}:pi (x::xs) (y::ys)=(gP x y/\pi xs ys):=rfl
@[go_sem] def znh {k:IntKind}{n:Int}{y:D}:gF (.int k n) y=(D.int k n=y):=by cases y <;> rfl
@[go_sem] def zni {b:Bool}{y:D}:gF (.bool b) y=(D.bool b=y):=by cases y <;> rfl
@[go_sem] def znj {y:D}:gF (.lst k l) y=(D.lst k l=y):=by cases y <;> rfl
@[go_sem] def Ut:gF .nil (.lst k l)=(0<k/\l=[]):=rfl
@[go_sem] def znl {k:IntKind}{n:Int}{y:D}:gP (.int k n) y=(D.int k n=y):=by cases y <;> rfl
@[go_sem] def znm {b:Bool}{y:D}:gP (.bool b) y=(D.bool b=y):=by cases y <;> rfl
@[go_sem] def UZ {y:D}:gP (.lst k l) y=(D.lst k l=y):=by cases y <;> rfl
@[go_sem] def Vd:gP .nil (.lst k l)=(0<k/\l=[]):=rfl
@[go_sem] def znp:gP (.agg xs) (.agg ys)=jM xs ys:=rfl
def tI {E : Env} (hT : bQ E.P E.T) (hn : E.n = 0)   {c : Code}   {x : D} (fuel : Nat) (hf : E.P.funcs[f]? = some fn) (hb : fn.body = some c) (hnm : (fn.name == "runtime.NumGoroutine") = false) (hnt : fn.ntmps = nt) (hl : ds.length <= nt)
  (h:cw E fuel c [] (endsWith E.T fn (fun fr r H'=>qG x (pk H' 3 r))) ⟨nt,jF 0 (ds.map .d)⟩ []):Pure E.P f ds x:=by
 subst hnt;refine Lz hT hf hb hnm hl ?_;have:=rp hT fuel h;rw[hn] at this;exact this
def Qh {E : Env} (hT : bQ E.P E.T) (hn : E.n = 0)   {c : Code}   {x : D} (fuel : Nat) (hf : E.P.funcs[f]? = some fn) (hb : fn.body = some c) (hnm : (fn.name == "runtime.NumGoroutine") = false) (hnt : fn.ntmps = nt) (hl : ds.length <= nt)
  (h:cw E fuel c [] (endsWith E.T fn (fun fr r H'=>yU x (view H' 3 r))) ⟨nt,jF 0 (ds.map .d)⟩ []):bk E.P f ds x:=by
 subst hnt;refine PX hT hf hb hnm hl ?_;have:=rp hT fuel h;rw[hn] at this;exact this
def az {k:I->ZF->Prop}{x:D}(h:Pure E.P f ds x) (hk:k (.d x) H):zP E f ds H k:=⟨_,h.zv,fun y hy=>by rw[hy];exact .inl hk⟩
def Ca {k:I->ZF->Prop}(h:ep E.P f ds ψ) (hk : ∀ x,ψ x->k (.d x) H):zP E f ds H k:=⟨_,h,fun y hy=>.inl (hk y hy)⟩
def kN {k:I->ZF->Prop}{x:D}(h:bk E.P f ds x) (hk:k (.d x) H):za E f ds H k:=⟨_,h.zv,fun y hy=>by rw[hy];exact hk⟩
def RW {k:I->ZF->Prop}(h:dX E.P f ds ψ) (hk : ∀ x,ψ x->k (.d x) H):za E f ds H k:=⟨ψ,h,hk⟩
def iu {e:Bool}{k:I->Prop}{x:D}(h:e=true->Pure E.P f ds x) (hk:k (.cond e (.d x))):Ds E e f ds k:=⟨x,h,hk⟩
end Go.VL
namespace Go.VL
variable {r:List (Nat×Nat×Bool)}{cs:ZE}{g k m t i lo off g' k':Nat}{dp:Bool}{l l':ZD}{es:List (D×D)}{x y:I}{v:Value}{H' K:ZF}{b:D}
variable {E:Env}{Q:aT}{fr:Fr}{H:ZF}{n:Nat}
variable {S:Nat->Prop}{φ : List ZC}{w:World}
def fD:Nat->ZF->ZF
 | _,[]=>[]
 | 0,H=>H
 | n+1,r::H=>.dead r.gen::fD n H
@[go_sem] def Zx {H:ZF}:fD 0 H=H:=by cases H <;> rfl
@[go_sem] def znr {n:Nat}:fD n []=[]:=by cases n <;> rfl
@[go_sem] def zns {n:Nat}{r:R}{H:ZF}:fD (n+1) (r::H)=.dead r.gen::fD n H:=rfl
@[go_sem] def X1:(R.box cs).gen=0:=rfl
@[go_sem] def znu {dp:DP}:(R.row g k dp l).gen=g:=rfl
@[go_sem] def znv:(R.map es).gen=0:=rfl
@[go_sem] def XR:(R.dead g).gen=g:=rfl
def Br : ∀ (n:Nat) (H:ZF),(fD n H).length=H.length
 | 0,H=>by simp[go_sem]
 | n+1,[]=>rfl
 | n+1,r::H=>by simp[fD,Br n H]
def F0 : ∀ (n:Nat) (H:ZF) (i:Nat),i<n->i<H.length->∃ g,(fD n H)[i]?=some (.dead g)/\g=(H.getD i (.dead 0)).gen
 | 0,H,i,h,_=>by omega
 | n+1,[],i,_,h=>by simp at h
 | n+1,r::H,0,_,_=>⟨_,rfl,rfl⟩
 | n+1,r::H,i+1,h1,h2=>by simpa [fD] using F0 n H i (by omega) (by simpa using h2)
def D7 : ∀ (n:Nat) (H:ZF) (i:Nat),n<=i->(fD n H)[i]?=H[i]?
 | 0,H,i,_=>by simp[go_sem]
 | n+1,[],i,_=>rfl
 | n+1,r::H,0,h=>by omega
 | n+1,r::H,i+1,h=>by simpa [fD] using D7 n H i (by omega)
def jP (n:Nat) (φ : List ZC):List ZC:=(List.range φ.length).map fun i=>if i<n then [] else φ.getD i []
def qH (n:Nat) (φ : List ZC) (i:Nat):(jP n φ).getD i []=if i<n then [] else φ.getD i []:=by
 simp only[jP,List.getD,List.getElem?_map];by_cases h:i < φ.length
 ·simp[h]
 ·simp[h]
def aQ.kill (s:aQ S φ H w) (n:Nat):aQ S (jP n φ) (fD n H) w/\Tr H.length S φ H w S (jP n φ) (fD n H) w:=by
 have hfoot : ∀ b,aU (jP n φ) b->aU φ b:=by
  rintro b ⟨i,hi⟩;rw[qH] at hi;split at hi
  ·simp at hi
  ·exact⟨i,hi⟩
 have hsome : ∀ i r,(fD n H)[i]?=some r->(∃ g,r=.dead g)∨n<=i/\H[i]?=some r:=by
  intro i r hr;by_cases h:i<n
  ·have hl:=(List.getElem?_eq_some_iff.1 hr).1;rw[Br] at hl;obtain⟨g,hg,_⟩:=F0 n H i h hl;rw[hg] at hr;simp at hr;exact .inl ⟨g,hr.symm⟩
  ·rw[D7 n H i (by omega)] at hr;exact .inr ⟨by omega,hr⟩
 have htr:Tr H.length S φ H w S (jP n φ) (fD n H) w:=by
  refine⟨fun _ h=>h,fun _ _=>rfl,aD _,by rw[Br];exact aD _,?_,?_,?_,?_,?_⟩
  ·intro i hi;by_cases h:i<n
   ·obtain⟨g,hg,e⟩:=F0 n H i h hi;have:(fD n H).getD i (.dead 0)=.dead g:=by simp[List.getD,hg]
    rw[this,e];exact aD _
   ·have:(fD n H).getD i (.dead 0)=H.getD i (.dead 0):=by simp only[List.getD,D7 n H i (by omega)]
    rw[this];exact aD _
  ·intro i g k dp' l' hi hl';rcases hsome i _ hl' with⟨_,h⟩|⟨h,h2⟩
   ·cases h
   ·exact .inr ⟨dp',l',h2,by rw[qH,if_neg (by omega)],aD _,fun b rest arr ty e1 e2=>⟨arr,ty,e2,aD _⟩⟩
  ·intro i cs hi hl';rcases hsome i _ hl' with⟨_,h⟩|⟨h,h2⟩
   ·cases h
   ·exact⟨cs,h2,by rw[qH,if_neg (by omega)]⟩
  ·intro i cs hi hl';rcases hsome i _ hl' with⟨_,h⟩|⟨h,h2⟩
   ·cases h
   ·exact⟨cs,h2,by rw[qH,if_neg (by omega)]⟩
  ·intro i x hi hl';rcases hsome i _ hl' with⟨_,h⟩|⟨h,h2⟩
   ·cases h
   ·exact⟨h2,by rw[qH,if_neg (by omega)],fun _ _=>rfl⟩
 refine⟨⟨?_,?_,?_,fun b hb=>s.lt b (hfoot b hb),fun b hb=>s.off b (hfoot b hb),s.slt,?_⟩,htr⟩
 ·simp[jP,Br,s.len]
 ·intro i;rw[qH];split
  ·simp
  ·exact s.nd i
 ·intro i j b hb hb';rw[qH] at hb hb';split at hb
  ·simp at hb
  ·split at hb'
   ·simp at hb'
   ·exact s.dj i j b hb hb'
 ·intro i r hr;rcases hsome i r hr with⟨g,rfl⟩|⟨h,h2⟩
  ·trivial
  ·rw[qH,if_neg (by omega)];exact(s.rel i r h2).tr htr fun _ _=>rfl
def Gj (s:aQ S φ H w) {n:Nat}(hn:n<=H.length) (hH:jO n (H.take n)) :
  aQ (fun b=>S b∨aU (jP n φ) b) (φ.take n) (H.take n) w/\Tr n S φ H w (fun b=>S b∨aU (jP n φ) b) (φ.take n) (H.take n) w/\Ext S φ w (fun b=>S b∨aU (jP n φ) b) (φ.take n) w:=by
 obtain⟨S1,φ1,s1,hf1,he1,ht1⟩:=a8.drop (n:=n) n (fr:=⟨0,[]⟩) (H:=H) (aD _) hn trivial hH S φ w { tmps:=#[],defers:=[] } hn s ⟨rfl,rfl,fun t=>.junk⟩;have hget : ∀ i,(φ.take n).getD i []=if i<n then φ.getD i [] else []:=by
  intro i;by_cases h:i<n
  ·rw[if_pos h,aM _ _ _ _ h]
  ·rw[if_neg h];simp[List.getD,List.getElem?_take,h]
 have hfoot : ∀ b,aU (φ.take n) b->aU φ b/\¬ aU (jP n φ) b:=by
  rintro b ⟨i,hi⟩;rw[hget] at hi;split at hi
  ·refine⟨⟨i,hi⟩,?_⟩;rintro⟨j,hj⟩;rw[qH] at hj;split at hj
   ·simp at hj
   ·have:=s.dj i j b hi hj;omega
  ·simp at hi
 have hkill : ∀ b,aU (jP n φ) b->aU φ b:=by
  rintro b ⟨i,hi⟩;rw[qH] at hi;split at hi
  ·simp at hi
  ·exact⟨i,hi⟩
 have hsub:Tr n S φ H w (fun b=>S b∨aU (jP n φ) b) (φ.take n) (H.take n) w:=by
  refine⟨fun _ h=>.inl h,fun _ _=>rfl,hn,by simp;omega,fun i hi=>by rw[aM _ _ _ _ hi];exact aD _,?_,?_,?_,?_⟩
  ·intro i g k dp' l' hi hl';rw[kY _ _ _ hi] at hl';exact .inr ⟨dp',l',hl',by rw[aM _ _ _ _ hi],aD _,fun b rest arr ty e1 e2=>⟨arr,ty,e2,aD _⟩⟩
  ·intro i cs hi hl';rw[kY _ _ _ hi] at hl';exact⟨cs,hl',aM _ _ _ _ hi⟩
  ·intro i cs hi hl';rw[kY _ _ _ hi] at hl';exact⟨cs,hl',aM _ _ _ _ hi⟩
  ·intro i x hi hl';rw[kY _ _ _ hi] at hl';exact⟨hl',aM _ _ _ _ hi,fun _ _=>rfl⟩
 refine⟨⟨by simp[s.len],?_,?_,fun b hb=>s.lt b (hfoot b hb).1,?_,?_,?_⟩,hsub,⟨rfl,rfl,rfl,aD _,fun _ _ _=>rfl,fun b hb=>.inl (hfoot b hb).1,fun _ h=>.inl h,?_⟩⟩
 ·intro i;rw[hget];split
  ·exact s.nd i
  ·simp
 ·intro i j b hb hb';rw[hget] at hb hb';split at hb
  ·split at hb'
   ·exact s.dj i j b hb hb'
   ·simp at hb'
  ·simp at hb
 ·intro b hb h;rcases h with h|h
  ·exact s.off b (hfoot b hb).1 h
  ·exact(hfoot b hb).2 h
 ·intro b h;rcases h with h|h
  ·exact s.slt b h
  ·exact s.lt b (hkill b h)
 ·intro i r hr;have hlt:i<n:=by
   have:=(List.getElem?_eq_some_iff.1 hr).1;simp at this;omega
  rw[hget,if_pos hlt];have hb:=AL hH i r hr;rw[kY _ _ _ hlt] at hr;have h1:=(s.rel i r hr).take hn s.len hb;have htr2:Tr (H.take n).length S (φ.take n) (H.take n) w (fun b=>S b∨aU (jP n φ) b) (φ.take n) (H.take n) w:=by
   refine⟨fun _ h=>.inl h,fun _ _=>rfl,aD _,aD _,fun _ _=>aD _,fun i g k dp' l' hi hl=>.inr ⟨dp',l',hl,rfl,aD _,fun b rest arr ty e1 e2=>⟨arr,ty,e2,aD _⟩⟩,
    fun i cs hi h=>⟨cs,h,rfl⟩,fun i es hi h=>⟨es,h,rfl⟩,fun i x hi h=>⟨h,rfl,fun _ _=>rfl⟩⟩
  exact h1.tr htr2 fun _ _=>rfl
 ·intro b h;rcases h with h|h
  ·exact .inl h
  ·exact .inr (.inl (hkill b h))
def cZ (K:ZF) (x y:I):Prop:=
 match y with
 | .d b=>(match x with
  | .d a=>wk a b
  | _=>(match view K 3 x with|some (vc,a)=>vc/\wk a b|none=>False))
 | _=>x=y
def lz (K:ZF) (fr:Fr):List (Nat×I)->Prop
 | []=>True
 | (t,x)::r=>cZ K (fr.get t) x/\lz K fr r
def dx:R->R->Prop
 | .row g k (.own []) l,.row g' k' .fz l'=>g=g'/\k=k'/\l=l'/\ao l=true
 | x,y=>x=y
def lU:ZF->ZF->Prop
 | _,[]=>True
 | x::r,y::s=>dx x y/\lU r s
 | [],_::_=>False
def fit (n nt:Nat) (fr:Fr) (H:ZF) (m:List (Nat×I)) (H':ZF):Prop:=
 fr.n=nt/\n<=H'.length/\lz (fD H'.length H) fr m/\lU H H'/\pb H'.length m/\jO H'.length H'
def qt {x y:R}(h:dx x y):x=y∨∃ g k l,x=.row g k (.own []) l/\y=.row g k .fz l/\ao l=true:=by
 unfold dx at h;split at h
 ·obtain⟨rfl,rfl,rfl,h⟩:=h;exact .inr ⟨_,_,_,rfl,rfl,h⟩
 ·exact .inl h
def My : ∀ {H H':ZF},lU H H'->H'.length<=H.length/\∀ (i:Nat) (y:R),H'[i]?=some y->∃ x:R,H[i]?=some x/\dx x y
 | H,[],_=>by simp
 | x::r,y::s,h=>by
  obtain⟨h1,h2⟩:=My h.2;refine⟨by simp;omega,fun i z hz=>?_⟩;cases i with
  | zero=>simp at hz;subst hz;exact⟨x,rfl,h.1⟩
  | succ i=>simpa using h2 i z (by simpa using hz)
 | [],_::_,h=>h.elim
def Ed : ∀ {l:ZD},ao l=true->∀ c∈flat l,c.scalar=true
 | [],_,c,hc=>by simp[flat] at hc
 | x::r,h,c,hc=>by
  simp only[ao,gO,l6] at h;simp only[flat,l7,gM] at hc;rcases hc with hc|hc
  ·exact h.1 c hc
  ·exact Ed h.2 c (by simpa [flat] using hc)
def Jq {w:World}{x:D}{fp:ZC}(h:OW w x v fp) (hx:x.scalar=true):fp=[]:=by
 cases h <;> simp[D.scalar] at hx <;> rfl
def aQ.dx (s:aQ S φ H w) (hl:H'.length=H.length) (h : ∀ (i:Nat) (y:R),H'[i]?=some y->∃ x:R,H[i]?=some x/\dx x y):aQ S φ H' w/\Tr H.length S φ H w S φ H' w:=by
 have htr:Tr H.length S φ H w S φ H' w:=by
  refine⟨fun _ h=>h,fun _ _=>rfl,aD _,by omega,?_,?_,?_,?_,?_⟩
  ·intro i hi;obtain⟨x,hx,hxy⟩:=h i (H'.getD i (.dead 0)) (by simp[List.getD,show i<H'.length by omega]);have e:H.getD i (.dead 0)=x:=by simp[List.getD,hx]
   rw[e];rcases qt hxy with h1|⟨g,k,l,h1,h2,_⟩
   ·rw[h1];exact aD _
   ·rw[h1,h2];exact aD _
  ·intro i g k dp' l' hi hl';obtain⟨x,hx,hxy⟩:=h i _ hl';rcases qt hxy with rfl|⟨g,k,l,rfl,h2,_⟩
   ·exact .inr ⟨dp',l',hx,rfl,aD _,fun b rest arr ty e1 e2=>⟨arr,ty,e2,aD _⟩⟩
   ·cases h2;exact .inr ⟨true,_,hx,rfl,aD _,fun b rest arr ty e1 e2=>⟨arr,ty,e2,aD _⟩⟩
  ·intro i cs hi hl';obtain⟨x,hx,hxy⟩:=h i _ hl';rcases qt hxy with rfl|⟨g,k,l,rfl,h2,_⟩
   ·exact⟨cs,hx,rfl⟩
   ·cases h2
  ·intro i cs hi hl';obtain⟨x,hx,hxy⟩:=h i _ hl';rcases qt hxy with rfl|⟨g,k,l,rfl,h2,_⟩
   ·exact⟨cs,hx,rfl⟩
   ·cases h2
  ·intro i z hi hl';obtain⟨x,hx,hxy⟩:=h i _ hl';rcases qt hxy with rfl|⟨g,k,l,rfl,h2,_⟩
   ·exact⟨hx,rfl,fun _ _=>rfl⟩
   ·cases h2
 refine⟨⟨by rw[s.len,hl],s.nd,s.dj,s.lt,s.off,s.slt,fun i y hy=>?_⟩,htr⟩;obtain⟨x,hx,hxy⟩:=h i y hy;rcases qt hxy with rfl|⟨g,k,l,rfl,rfl,hsc⟩
 ·exact(s.rel i _ hx).tr htr fun _ _=>rfl
 ·obtain⟨h1,h2,h3,h4,h5⟩:=s.rel i _ hx;refine⟨h1,h2,h3,h4,?_⟩;rcases h5 with h5|⟨b,rest,arr,ty,e1,e2,e3,F,hF,_,hr⟩
  ·exact .inl h5
  ·have hall:=Ed hsc;have hz : ∀ j,j<(flat l).length->F j=[]:=fun j hj=>Jq (hr j hj) (hall _ (av hj))
   refine .inr ⟨b,rest,arr,ty,e1,e2,e3,?_,fun j hj=>FX (hr j hj) (hall _ (av hj)) S⟩;rw[hF];refine List.flatMap_eq_nil_iff.2 fun j hj=>hz j (List.mem_range.1 hj)
def B7 (s:aQ S φ H w) (hm:m<=H.length) (h:cZ (fD m H) x y) (hy:y.aJ m) (hv:V S φ H w x v) :
  V (fun b=>S b∨aU (jP m φ) b) (φ.take m) (H.take m) w y v:=by
 have stay : ∀ {y:I},V S φ H w y v->y.aJ m->V (fun b=>S b∨aU (jP m φ) b) (φ.take m) (H.take m) w y v:=by
  intro y hv hy;refine(hv.take hm s.len hy).tr ?_;exact⟨fun _ h=>.inl h,fun _ _=>rfl,aD _,aD _,fun _ _=>aD _,fun i g k dp' l' hi hl=>.inr ⟨dp',l',hl,rfl,aD _,fun b rest arr ty e1 e2=>⟨arr,ty,e2,aD _⟩⟩,
    fun i cs hi h=>⟨cs,h,rfl⟩,fun i es hi h=>⟨es,h,rfl⟩,fun i x hi h=>⟨h,rfl,fun _ _=>rfl⟩⟩
 unfold cZ at h;split at h
 ·rename_i b;split at h
  ·rename_i a;exact .d (Ct h (hv.fz.mono (fun b hb=>.inl hb) fun _ _=>rfl))
  ·split at h
   ·rename_i vc a hvw;obtain⟨s1,t1⟩:=s.kill m;exact .d (Ct h.2 (xB s1 3 (hv.tr t1) hvw h.1))
   ·exact h.elim
 ·rw[h] at hv;exact stay hv hy
def Gi {m:Nat}(s:aQ S φ H w) (hm:m<=H.length) {fr:Fr}{a:Act}(hf:de S φ H w fr a) : ∀ (l:List (Nat×I)),lz (fD m H) fr l->pb m l->∀ t,V (fun b=>S b∨aU (jP m φ) b) (φ.take m) (H.take m) w (look t l) (a.tmps.getD t undef)
 | [],_,_,t=>.junk
 | (u,x)::r,h,hi,t=>by
  simp only[look];split
  ·rename_i hst;subst hst;exact B7 s hm h.1 hi.1 (hf.val u)
  ·exact Gi s hm hf r h.2 hi.2 t
def QJ {H:ZF}(h : ∀ (i:Nat) (y:R),H'[i]?=some y->∃ x:R,H[i]?=some x/\Go.VL.dx x y) : ∀ (i:Nat) (y:R),H'[i]?=some y->∃ x:R,(H.take H'.length)[i]?=some x/\Go.VL.dx x y:=by
 intro i y hy;obtain⟨x,hx,hxy⟩:=h i y hy;exact⟨x,by rw[kY _ _ _ (List.getElem?_eq_some_iff.1 hy).1];exact hx,hxy⟩
def R0 (m:Nat) : ∀ {K:ZF},K.length=H'.length->(∀ (i:Nat) (y:R),H'[i]?=some y->∃ x:R,K[i]?=some x/\Go.VL.dx x y)->jO m H'->jO m K:=by
 intro K;induction K generalizing H' with
 | nil=>intro _ _ _;trivial
 | cons x r ih=>
  intro hl h hi;cases H' with
  | nil=>simp at hl
  | cons y s=>
   obtain⟨x',hx,hxy⟩:=h 0 y rfl;simp at hx;subst hx;refine⟨?_,ih (by simpa using hl) (fun i z hz=>by simpa using h (i+1) z (by simpa using hz)) hi.2⟩;rcases qt hxy with rfl|⟨g,k,l,rfl,rfl,_⟩
   ·exact hi.1
   ·trivial
def CP {nt:Nat}{m:List (Nat×I)}(h:fit n nt fr H m H'):a8 n fr H ⟨nt,m⟩ H':=by
 obtain⟨h1,h2,h3,h4,h5,h6⟩:=h;obtain⟨e2,e1⟩:=My h4;have hl:(H.take H'.length).length=H'.length:=by simp;omega
 have e3:=QJ e1;intro S φ w a hn s hf;obtain⟨s2,t2,x2⟩:=Gj s e2 (R0 _ hl e3 h6);obtain⟨s3,t3⟩:=s2.dx hl.symm e3;rw[hl] at t3;refine⟨_,_,s3,⟨hf.defers,hf.size.trans h1,fun t=>?_⟩,x2,(t2.trans t3).weaken h2⟩;have:=Gi s e2 hf m h3 h5 t;exact this.tr (by rw[hl];exact t3)
def oO:List (Nat×Nat×Bool)->Fr->ZF->Fr×ZF
 | [],fr,H=>(fr,H)
 | (t,k,dp)::r,fr,H=>oO r (fr.put (some t) (.sl H.length 0 k 0 0)) (H ++ [.row 0 k dp []])
def tk:List (Nat×Nat×Bool)->Fr->ZF->Prop
 | [],_,_=>True
 | (t,k,dp)::r,fr,H=>fr.get t=.d .nil/\t<fr.n/\0<k/\tk r (fr.put (some t) (.sl H.length 0 k 0 0)) (H ++ [.row 0 k dp []])
def Aj : ∀ (l:List (Nat×Nat×Bool)) {fr:Fr}{H:ZF},tk l fr H->a8 n fr H (oO l fr H).1 (oO l fr H).2
 | [],fr,H,_=>a8.refl n fr H
 | (t,k,dp)::r,fr,H,h=>(a8.own t k dp h.1 h.2.1 h.2.2.1).trans (Aj r h.2.2.2)
def zD (E:Env) (ks:List Item) (Q:aT) (f:Nat) {σ : Type}(nt:Nat) (F : σ->List (Nat×I)) (Hp : σ->ZF) (inv : σ->Prop) (mu : σ->Nat) (s : σ):aT
 | .normal,fr,H=>∃ s',inv s'/\mu s'<mu s/\fit E.n nt fr H (F s') (Hp s')
 | .exit id,fr,H=>gZ E f (jJ id ks) id ks Q fr H
 | e,fr,H=>dZ E ks Q e fr H
def B5 (hT:bQ E.P E.T) {σ : Type}(F : σ->List (Nat×I)) (Hp : σ->ZF) (inv : σ->Prop) (mu : σ->Nat) (own:List (Nat×Nat×Bool)) (f1 f2:Nat) {ks:List Item}{c:Code}
  (hvc:tk own fr H) (h0 : ∃ s,inv s/\fit E.n fr.n (oO own fr H).1 (oO own fr H).2 (F s) (Hp s))
  (hr : ∀ s,inv s->cw E f1 c [] (zD E ks Q f2 fr.n F Hp inv mu s) ⟨fr.n,F s⟩ (Hp s)):cK E.P E.n (.loop c) (dZ E ks Q) fr H:=by
 obtain⟨s0,hi0,hf0⟩:=h0;refine E8 (fun m fr' H'=>∃ s,inv s/\mu s=m/\fr'=⟨fr.n,F s⟩/\H'=Hp s) (mu s0) ⟨_,_,(Aj own hvc).trans (CP hf0),s0,hi0,rfl,rfl,rfl⟩ ?_;rintro m fr' H' ⟨s,hi,rfl,rfl,rfl⟩;refine Ab (rp hT f1 (hr s hi)) ?_;intro e fr' H' hq;cases e with
 | normal=>
  obtain⟨s',hi',hmu,hfit⟩:=hq;exact⟨_,_,CP hfit,mu s',hmu,s',hi',rfl,rfl,rfl⟩
 | exit id=>
  simp only[zD] at hq;refine yL id ks ?_;generalize jJ id ks=o at hq;match f2,o with
  | 0,_=>simp only[gZ] at hq
  | f+1,some ks'=>
   simp only[gZ] at hq;exact yZ hT f hq
  | f+1,none=>
   simp only[gZ] at hq;exact hq
 | goto l=>exact hq
 | ret=>exact hq
 | panic ch=>exact hq
 | outgrown=>exact hq
section rules
variable {σ : Type}{F : σ->List (Nat×I)}{Hp : σ->ZF}{inv : σ->Prop}{mu : σ->Nat}{s : σ}{ks:List Item}{f nt:Nat}
@[go_sem] def qu6:zD E ks Q f nt F Hp inv mu s .normal fr H = ∃ s',inv s'/\mu s'<mu s/\fit E.n nt fr H (F s') (Hp s'):=rfl
@[go_sem] def Y5 {id:Nat}:zD E ks Q f nt F Hp inv mu s (.exit id) fr H=gZ E f (jJ id ks) id ks Q fr H:=rfl
@[go_sem] def zny:zD E ks Q f nt F Hp inv mu s .ret fr H=dZ E ks Q .ret fr H:=rfl
@[go_sem] def znz {m:List (Nat×I)}:fit n nt fr H m H'=(fr.n=nt/\n<=H'.length/\lz (fD H'.length H) fr m/\lU H H'/\pb H'.length m/\jO H'.length H'):=rfl
@[go_sem] def znA:lz K fr []=True:=rfl
@[go_sem] def znB {r:List (Nat×I)}:lz K fr ((t,x)::r)=(cZ K (fr.get t) x/\lz K fr r):=rfl
def ui (b:D):Option (Prop×D)->Prop
 | some (vc,a)=>vc/\wk a b
 | none=>False
@[go_sem] def Xf {a:D}{vc:Prop}:ui b (some (vc,a))=(vc/\wk a b):=rfl
def fK (K:ZF) (x:I):I->Prop
 | .d b=>ui b (view K 3 x)
 | y=>x=y
@[go_sem] def Th:fK K x (.d b)=ui b (view K 3 x):=rfl
@[go_sem] def UG {n:Nat}:fK K x (.sl i g k lo n)=(x=.sl i g k lo n):=rfl
@[go_sem] def znF {o:Nat}:fK K x (.ptr i o)=(x=.ptr i o):=rfl
@[go_sem] def znG:fK K x (.agg cs)=(x=.agg cs):=rfl
@[go_sem] def znH:fK K x (.tup cs)=(x=.tup cs):=rfl
@[go_sem] def Xq:fK K x (.map i)=(x=.map i):=rfl
@[go_sem] def znJ {f:Nat}:fK K x (.fn f cs)=(x=.fn f cs):=rfl
def xm (hx : ∀ a,x≠.d a):cZ K x y=fK K x y:=by
 cases y <;> simp only[cZ,fK,ui]
@[go_sem] def znK {x y:D}:cZ K (.d x) (.d y)=wk x y:=rfl
@[go_sem] def znL {n:Nat}:cZ K (.sl i g k lo n) y=fK K (.sl i g k lo n) y:=xm nofun
@[go_sem] def znM:cZ K (.ptr i off) y=fK K (.ptr i off) y:=xm nofun
@[go_sem] def znN:cZ K (.agg cs) y=fK K (.agg cs) y:=xm nofun
@[go_sem] def Tz:lU H []=True:=by cases H <;> rfl
@[go_sem] def znP {x y:R}{r q:ZF}:lU (x::r) (y::q)=(dx x y/\lU r q):=rfl
@[go_sem] def znQ {dp:DP}:dx (.row g k dp l) (.row g' k' dp l')=(g=g'/\k=k'/\l=l'):=by cases dp <;> simp[dx]
@[go_sem] def UR:dx (.row g k (.own []) l) (.row g' k' .fz l')=(g=g'/\k=k'/\l=l'/\ao l=true):=rfl
@[go_sem] def X4 {y:R}:dx (.box cs) y=(.box cs=y):=by cases y <;> rfl
@[go_sem] def znT {y:R}:dx (.map es) y=(.map es=y):=by cases y <;> rfl
@[go_sem] def Yb:pb m []=True:=rfl
@[go_sem] def ZN {r:List (Nat×I)}:pb m ((t,x)::r)=(x.aJ m/\pb m r):=rfl
@[go_sem] def Z7:jO m []=True:=rfl
@[go_sem] def WR {x:R}{r:ZF}:jO m (x::r)=(x.aJ m/\jO m r):=rfl
@[go_sem] def znY:mD m []=True:=rfl
@[go_sem] def znZ {r:ZE}:mD m (x::r)=(x.aJ m/\mD m r):=rfl
@[go_sem] def W8 {x:D}:(I.d x).aJ m=True:=by simp only[I.aJ]
@[go_sem] def Vc {n:Nat}:(I.sl i g k lo n).aJ m=(i<m):=by simp only[I.aJ]
@[go_sem] def zoc:(I.ptr i off).aJ m=(i<m):=by simp only[I.aJ]
@[go_sem] def Un {idx:Nat}{z:D}:(I.eptr i g k idx off z).aJ m=(i<m):=by simp only[I.aJ]
@[go_sem] def zoe:(I.agg cs).aJ m=mD m cs:=by simp only[I.aJ]
@[go_sem] def zof:(I.map i).aJ m=(i<m):=by simp only[I.aJ]
@[go_sem] def zog {f:Nat}:(I.fn f cs).aJ m=mD m cs:=by simp only[I.aJ]
@[go_sem] def zoh:(R.box cs).aJ m=mD m cs:=by simp only[R.aJ]
@[go_sem] def zoi:(R.row g k (.own []) l).aJ m=True:=rfl
@[go_sem] def zoj:(R.row g k .fz l).aJ m=True:=rfl
@[go_sem] def Vh {l:List (D×D)}:(R.map l).aJ m=True:=by simp only[R.aJ]
@[go_sem] def zol:(R.dead g).aJ m=True:=by simp only[R.aJ]
@[go_sem] def zom:oO [] fr H=(fr,H):=rfl
@[go_sem] def zon:oO ((t,k,dp)::r) fr H=oO r (fr.put (some t) (.sl H.length 0 k 0 0)) (H ++ [.row 0 k dp []]):=rfl
@[go_sem] def zoo:tk [] fr H=True:=rfl
@[go_sem] def Wk:tk ((t,k,dp)::r) fr H=(fr.get t=.d .nil/\t<fr.n/\0<k/\tk r (fr.put (some t) (.sl H.length 0 k 0 0)) (H ++ [.row 0 k dp []])):=rfl
end rules
attribute [go_sem] I.d.injEq I.sl.injEq I.ptr.injEq I.agg.injEq R.row.injEq R.box.injEq R.map.injEq D.int.injEq D.bool.injEq D.lst.injEq D.agg.injEq D.tup.injEq
def ae {n:Int}:cp .i64 n↔-9223372036854775808<=n/\n<=9223372036854775807:=Iff.rfl
def wF {n:Int}:cp .u8 n↔0<=n/\n<=255:=Iff.rfl
def uc {n:Int}:cp .u64 n↔0<=n/\n<=18446744073709551615:=Iff.rfl
end Go.VL
namespace Go.VL
variable {k:IntKind}{l:ZA}{α β:Type}{i a b n:Nat}{l':ZB}{x:Bool}
abbrev dI (n:Int):D:=.int .i64 n
abbrev dB (b:Bool):D:=.bool b
abbrev aj (l:ZA):D:=.lst 1 (l.map (D.int .i64))
abbrev lk (l:ZA):D:=.lst 1 (l.map (D.int .u8))
abbrev cf (l:ZB):D:=.lst 1 (l.map D.bool)
abbrev eZ (l:List ZB):D:=.lst 1 (l.map fun x=>cf x)
abbrev cg (l:List ZA):D:=.lst 1 (l.map fun x=>aj x)
@[go_sem] def sP {k:Nat}:mS (.lst k (l.map (D.int .u8)))=l:=by
 simp only[mS,List.map_map];exact(sH fun x _=>rfl).trans (List.map_id _)
@[go_sem] def zoq:rL (.lst 1 (l.map (D.int .u8)))=True:=by
 refine propext ⟨fun _=>trivial,fun _=>⟨rfl,?_⟩⟩;rw[show(l.map (D.int .u8)).map D.toInt=l from sP (k:=1)]
def Ar (f : α->β) (l:List α) (i:Nat) (z : α):(l.map f).getD i (f z)=f (l.getD i z):=by
 simp[List.getD_eq_getElem?_getD,List.getElem?_map]
@[go_sem] def Zm {z:Int}:(l.map (D.int k)).getD i (D.int k z)=D.int k (l.getD i z):=Ar _ _ _ _
@[go_sem] def zos {l:ZB}{z:Bool}:(l.map D.bool).getD i (D.bool z)=D.bool (l.getD i z):=Ar _ _ _ _
def cn (f : α->β) (l:List α) (i:Nat) (z : β) (y : α) (h:i<l.length):(l.map f).getD i z=f (l.getD i y):=by
 simp[List.getD_eq_getElem?_getD,h]
attribute [go_sem] gQ wc List.nodup_nil b8 gh
@[go_sem] def WA:((a:Int)<(b:Int))=(a<b):=by simp
@[go_sem] def Vo:((a:Int)<=(b:Int))=(a<=b):=by simp
@[go_sem] def zov:((a:Int)=(b:Int))=(a=b):=propext Int.ofNat_inj
@[go_sem] def zow:((0:Int)<=(a:Int))=True:=by simp
@[go_sem] def zox:((a:Int)<0)=False:=by simp
@[go_sem] def Z3:((a:Int)+1)=((a+1:Nat):Int):=by simp
attribute [go_sem] aD Int.le_refl and_false false_and not_false_eq_true ge_iff_le gt_iff_lt
def Cn {f : α->β}(hf : ∀ x y,f x=f y->x=y) {l l':List α}:(l.map f=l'.map f)=(l=l'):=by
 refine propext ⟨fun h=>?_,fun h=>by rw[h]⟩;induction l generalizing l' with
 | nil=>cases l' with
  | nil=>rfl
  | cons y r=>simp at h
 | cons x r ih=>cases l' with
  | nil=>simp at h
  | cons y r'=>
   simp only[js,List.cons.injEq] at h;rw[hf _ _ h.1,ih h.2]
@[go_sem] def zoz {l':ZA}:(l.map (D.int k)=l'.map (D.int k))=(l=l'):=Cn fun x y h=>by simpa using h
@[go_sem] def SN {l:ZB}:(l.map D.bool=l'.map D.bool)=(l=l'):=Cn fun x y h=>by simpa using h
@[go_sem] def zoB {x:Int}:(l.map (D.int k)).set i (D.int k x)=(l.set i x).map (D.int k):=List.map_set.symm
@[go_sem] def zoC {l:ZB}:(l.map D.bool).set i (D.bool x)=(l.set i x).map D.bool:=List.map_set.symm
@[go_sem] def zoD {x:Int}:l.map (D.int k) ++ [D.int k x]=(l ++ [x]).map (D.int k):=by simp
@[go_sem] def zoE {l:ZB}:l.map D.bool ++ [D.bool x]=(l ++ [x]).map D.bool:=by simp
@[go_sem] def Zj {l':ZA}:l.map (D.int k)++l'.map (D.int k)=(l++l').map (D.int k):=by simp
@[go_sem] def zoG {l:ZB}:l.map D.bool++l'.map D.bool=(l++l').map D.bool:=by simp
@[go_sem] def SP {x:Int}:List.replicate n (D.int k x)=(List.replicate n x).map (D.int k):=by simp
@[go_sem] def T5:List.replicate n (D.bool x)=(List.replicate n x).map D.bool:=by simp
@[go_sem] def TL:(l.map (D.int k)).take n=(l.take n).map (D.int k):=by simp
@[go_sem] def Vn {l:ZB}:(l.map D.bool).take n=(l.take n).map D.bool:=by simp
def Q4:(([]:ZD)=l.map (D.int k))=(l=[]):=propext ⟨fun h=>by cases l with|nil=>rfl|cons x r=>simp at h,fun h=>by rw[h];rfl⟩
def RE {l:ZB}:(([]:ZD)=l.map D.bool)=(l=[]):=propext ⟨fun h=>by cases l with|nil=>rfl|cons x r=>simp at h,fun h=>by rw[h];rfl⟩
attribute [go_sem] Q4 RE
def wq {l l':List α}(z : α) (hl:l.length=l'.length) (h : ∀ j,j<l.length->l.getD j z=l'.getD j z):l=l':=by
 refine List.ext_getElem hl fun j h3 h4=>?_
 have:=h j h3;simpa [List.getD,h3,h4] using this
attribute [go_sem] beq_self_eq_true beq_iff_eq beq_eq_false_iff_ne Bool.true_eq_false not_false_eq_true imp_self ig List.drop_length List.nodup_cons List.not_mem_nil decide_true decide_false nM gO Bool.or_eq_false_iff Bool.and_eq_false_iff Int.one_mul Int.cast_ofNat_Int Int.add_zero Int.zero_add Int.sub_zero lL Nat.sub_zero Bool.or_false Bool.false_or Bool.or_true Bool.true_or Bool.not_not
attribute [go_sem] List.forall_mem_cons
end Go.VL

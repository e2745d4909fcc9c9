/- Part 22: rewriting rules of memory operations, calls and results. Conditions: none; lemmas. -/
import Derived.Test.YteikeianenfhaaaGreatVM5
set_option linter.unusedVariables false
set_option linter.unusedSimpArgs false
set_option maxHeartbeats 2000000
namespace Go.VL
set_option linter.defProp false
variable {ti:TI}{x d:I}{xd z' kd x':D}{cs r caps args:List I}{i g k lo n off e fsz sz' t size j a len idx g' k' o m kt et b' t' bytes f nt:Nat}{vc vc' c:Prop}{fs:List (Nat×Nat)}{rest parts:List (Nat×I)}{xs l ds ys:List D}{dp:DP}{o2:Option (Prop×List R)}{hs:List (Nat×Nat×I)}{ok:Bool}{es:List (D×D)}{ty':Ty}{h:bQ}{K:I->List R->Prop}{fn:Func}{Po:Fr->I->List R->Prop}
variable {E:Env}{Q:aX}{fr:Fr}{H:List R}{T:Nat->Option TI}{ty:Ty}{sz b:Nat}{z:D}
attribute [go_sem] true_and and_true eq_self if_true if_false true_implies imp_true_iff not_false_eq_true not_true_eq_false eV decide_eq_true_eq decide_eq_false_iff_not Bool.not_true Bool.not_false Bool.not_eq_true' Bool.not_eq_false' ite_true ite_false and_self implies_true false_implies ne_eq
def vq (ty:Ty) (sz:Nat):Bool->I->Option (Prop×List I)
 | true,.d xd=>some (xd.cells.length=sz/\xd.one=false/\(∀ n,xd≠.tup n),(bT xd 0 sz).map .d)
 | true,.agg cs=>some (cs.length=sz,cs)
 | false,.d xd=>some (sz=1/\xd.one=true,[.d xd])
 | false,.sl i g k lo n=>some (sz=1,[.sl i g k lo n])
 | false,.ptr i off=>some (sz=1,[.ptr i off])
 | false,.map i=>some (sz=1,[.map i])
 | false,.fn f caps=>some (sz=1,[.fn f caps])
 | _,_=>none
def N5:g9 ti x=vq ti.ty ti.size ti.ty.agg x:=by
 unfold g9;cases ti.ty.agg <;> cases x <;> rfl
@[go_sem] def QX:g9 ⟨ty,sz,b,z⟩ x=vq ty sz ty.agg x:=N5
@[go_sem] def Ww:vq ty sz true (.d xd)=some (xd.cells.length=sz/\xd.one=false/\(∀ n,xd≠.tup n),(bT xd 0 sz).map .d):=rfl
@[go_sem] def Vq:vq ty sz true (.agg cs)=some (cs.length=sz,cs):=rfl
@[go_sem] def zja:vq ty sz false (.d xd)=some (sz=1/\xd.one=true,[.d xd]):=rfl
@[go_sem] def W7:vq ty sz false (.sl i g k lo n)=some (sz=1,[.sl i g k lo n]):=rfl
@[go_sem] def zjc:vq ty sz false (.map i)=some (sz=1,[.map i]):=rfl
@[go_sem] def Sv:setCells cs off []=cs:=rfl
@[go_sem] def XK:setCells cs off (x::r)=setCells (cs.set off x) (off+1) r:=rfl
@[go_sem] def Y4 {cs:List D}:cX cs off []=cs:=rfl
@[go_sem] def Sj {cs:List D}{x:D}{r:List D}:cX cs off (x::r)=cX (cs.set off x) (off+1) r:=rfl
def pG (H:List R):Option (Prop×List I)->Option (Prop×I×List R)
 | some (vc,cs)=>some (vc,.ptr H.length 0,H ++ [.box cs])
 | none=>none
def qZ (H:List R) (x:I):Option TI->Option (Prop×I×List R)
 | some ti=>pG H (g9 ti x)
 | none=>none
@[go_sem] def VW:nj T H e x=qZ H x (T e):=by
 unfold nj;cases T e with
 | none=>rfl
 | some ti=>simp only[qZ];cases g9 ti x <;> rfl
@[go_sem] def zjh:qZ H x (some ⟨ty,sz,b,z⟩)=pG H (g9 ⟨ty,sz,b,z⟩ x):=rfl
@[go_sem] def Y3:pG H (some (vc,cs))=some (vc,.ptr H.length 0,H ++ [.box cs]):=rfl
def HI (H:List R):Option TI->Option (Prop×I×List R)
 | some ti=>some (True,.ptr H.length 0,H ++ [.box ((bT ti.zero 0 ti.size).map .d)])
 | none=>none
@[go_sem] def zjj:vK T H e=HI H (T e):=by unfold vK;cases T e <;> rfl
@[go_sem] def Xv:HI H (some ⟨ty,sz,b,z⟩)=some (True,.ptr H.length 0,H ++ [.box ((bT z 0 sz).map .d)]):=rfl
def Dt (vc:Prop) (off fsz:Nat) (cs:List I):Option (Prop×List I)->Option (Prop×List I)
 | some (vc',r)=>some (vc/\off+fsz<=cs.length/\vc',r)
 | none=>none
def Bh (T:Nat->Option TI) (fs:List (Nat×Nat)) (cs:List I) (rest:List (Nat×I)) (off fsz:Nat):Option (Prop×List I)->Option (Prop×List I)
 | some (vc,xs)=>Dt vc off fsz cs (ll T fs (setCells cs off xs) rest)
 | none=>none
def A4 (T:Nat->Option TI) (fs:List (Nat×Nat)) (cs:List I) (rest:List (Nat×I)) (x:I) (off:Nat):Option TI->Option (Prop×List I)
 | some fi=>Bh T fs cs rest off fi.size (g9 fi x)
 | none=>none
def D8 (T:Nat->Option TI) (fs:List (Nat×Nat)) (cs:List I) (rest:List (Nat×I)) (x:I):Option (Nat×Nat)->Option (Prop×List I)
 | some (off,ft)=>A4 T fs cs rest x off (T ft)
 | none=>none
@[go_sem] def Uo:ll T fs cs []=some (True,cs):=rfl
@[go_sem] def zjm:ll T fs cs ((i,x)::rest)=D8 T fs cs rest x (iK fs i):=by
 simp only[ll,<-AU];cases fs[i]? with
 | none=>rfl
 | some p=>
  obtain⟨off,ft⟩:=p;simp only[D8];cases T ft with
  | none=>rfl
  | some fi=>
   simp only[A4];cases g9 fi x with
   | none=>rfl
   | some q=>
    obtain⟨vc,xs⟩:=q;simp only[Bh];cases ll T fs (setCells cs off xs) rest <;> rfl
@[go_sem] def VV {ft:Nat}:D8 T fs cs rest x (some (off,ft))=A4 T fs cs rest x off (T ft):=rfl
@[go_sem] def Yj:A4 T fs cs rest x off (some ⟨ty,sz,b,z⟩)=Bh T fs cs rest off sz (g9 ⟨ty,sz,b,z⟩ x):=rfl
@[go_sem] def zjp {xs:List I}:Bh T fs cs rest off fsz (some (vc,xs))=Dt vc off fsz cs (ll T fs (setCells cs off xs) rest):=rfl
@[go_sem] def QT:Dt vc off fsz cs (some (vc',r))=some (vc/\off+fsz<=cs.length/\vc',r):=rfl
def vF (T:Nat->Option TI) (fs:List (Nat×Nat)):Option (Prop×List I)->Option (Prop×I)
 | some (vc,cs)=>some (vc/\jF cs/\fs.all (fun f=>(T f.2).isSome)=true,bG cs)
 | none=>none
def wH:Option (Prop×List I)->Option (Prop×I)
 | some (vc,cs)=>some (vc/\jF cs,bG cs)
 | none=>none
@[go_sem] def zjr:wH (some (vc,cs))=some (vc/\jF cs,bG cs):=rfl
def sI (T:Nat->Option TI) (n e sz:Nat) (z:D) (parts:List (Nat×I)):Option TI->Option (Prop×I)
 | some ei=>wH (ll T (mS n e ei.size) ((bT z 0 sz).map .d) parts)
 | none=>none
@[go_sem] def Uu {ty:Ty}{sz b:Nat}{z:D}:sI T n e sz' z' parts (some ⟨ty,sz,b,z⟩)=wH (ll T (mS n e sz) ((bT z' 0 sz').map .d) parts):=rfl
@[go_sem] def zjt {sz:Nat}:iK (mS n e sz) i=if i<n then some (i*sz,e) else none:=by rw[<-AU,JY]
def p7 (T:Nat->Option TI) (parts:List (Nat×I)):Option TI->Option (Prop×I)
 | some ⟨.struct fs,sz,_,z⟩=>vF T fs (ll T fs ((bT z 0 sz).map .d) parts)
 | some ⟨.array n e,sz,_,z⟩=>sI T n e sz z parts (T e)
 | _=>none
@[go_sem] def XU:xw T t parts=p7 T parts (T t):=by
 unfold xw;cases T t with
 | none=>rfl
 | some ti=>
  obtain⟨ty,sz,b,z⟩:=ti;cases ty with
  | struct fs=>
   simp only[p7];cases ll T fs ((bT z 0 sz).map .d) parts <;> rfl
  | array n e=>
   simp only[p7];cases T e with
   | none=>rfl
   | some ei=>
    simp only[sI];cases ll T (mS n e ei.size) ((bT z 0 sz).map .d) parts <;> rfl
  | _=>rfl
@[go_sem] def TE:p7 T parts (some ⟨.array n e,sz,b,z⟩)=sI T n e sz z parts (T e):=rfl
@[go_sem] def YY:p7 T parts (some ⟨.struct fs,sz,b,z⟩)=vF T fs (ll T fs ((bT z 0 sz).map .d) parts):=rfl
@[go_sem] def Zl:vF T fs (some (vc,cs))=some (vc/\jF cs/\fs.all (fun f=>(T f.2).isSome)=true,bG cs):=rfl
attribute [go_sem] List.all_cons List.all_nil Option.isSome_some
def Jx (i j size:Nat) (x:D):Option (Prop×List D)->Option (Prop×List D)
 | some (vc,l)=>some (j=i/\x.cells.length=size/\x.eq/\vc,x::l)
 | none=>none
@[go_sem] def UH:mi size i []=some (True,[]):=rfl
@[go_sem] def qr1 {x:D}{r:List (Nat×I)}:mi size i ((j,.d x)::r)=Jx i j size x (mi size (i+1) r):=by
 simp only[mi];cases mi size (i+1) r <;> rfl
@[go_sem] def zjy {r:List (Nat×I)}:mi size i ((j,.sl a g k lo n)::r)=none:=rfl
@[go_sem] def zjz {x:D}:Jx i j size x (some (vc,l))=some (j=i/\x.cells.length=size/\x.eq/\vc,x::l):=rfl
def Bk (H:List R) (len size:Nat):Option (Prop×List D)->Option (Prop×I×List R)
 | some (vc,l)=>some (vc/\l.length=len/\0<size/\len*size<=1000,.sl H.length 0 size 0 l.length,H ++ [.row 0 size (ar l) l])
 | none=>none
def Be (H:List R) (len:Nat) (parts:List (Nat×I)):Option TI->Option (Prop×I×List R)
 | some ei=>Bk H len ei.size (mi ei.size 0 parts)
 | none=>none
def pH (T:Nat->Option TI) (H:List R) (len:Nat) (parts:List (Nat×I)):Option TI->Option (Prop×I×List R)
 | some ⟨.slice e,_,_,_⟩=>Be H len parts (T e)
 | _=>none
@[go_sem] def Zc:jg T H t len parts=pH T H len parts (T t):=by
 unfold jg;cases T t with
 | none=>rfl
 | some ti=>
  obtain⟨ty,sz,b,z⟩:=ti;cases ty with
  | slice e=>
   simp only[pH];cases T e with
   | none=>rfl
   | some ei=>simp only[Be];cases mi ei.size 0 parts <;> rfl
  | _=>rfl
@[go_sem] def QG:pH T H len parts (some ⟨.slice e,sz,b,z⟩)=Be H len parts (T e):=rfl
@[go_sem] def UG:Be H len parts (some ⟨ty,sz,b,z⟩)=Bk H len sz (mi sz 0 parts):=rfl
@[go_sem] def zjD:Bk H len size none=none:=rfl
@[go_sem] def zjE:Bk H len size (some (vc,l))=some (vc/\l.length=len/\0<size/\len*size<=1000,.sl H.length 0 size 0 l.length,H ++ [.row 0 size (ar l) l]):=rfl
@[go_sem] def zjF:ar []=true:=rfl
@[go_sem] def qtw {x:D}{r:List D}:ar (x::r)=(x.cells.all D.scalar&&ar r):=rfl
attribute [go_sem] Bool.and_true rp Bool.and_self Bool.false_and Bool.and_false
def u9 (H:List R) (l c:D):Option TI->Option (Prop×I×List R)
 | some ei=>some (l.isInt .i64/\c.isInt .i64/\0<=l.toInt/\l.toInt<=c.toInt/\(ei.bytes:Int)*c.toInt<=281474976710656/\0<ei.bytes/\0<ei.size,
   .sl H.length 0 ei.size 0 l.toInt.toNat,H ++ [.row 0 ei.size (.own []) (List.replicate l.toInt.toNat ei.zero)])
 | none=>none
def wX (T:Nat->Option TI) (H:List R):Option TI->I->I->Option (Prop×I×List R)
 | some ⟨.slice e,_,_,_⟩,.d l,.d c=>u9 H l c (T e)
 | _,_,_=>none
@[go_sem] def Sw {l c:I}:wY T H t l c=wX T H (T t) l c:=by
 unfold wY;cases T t with
 | none=>rfl
 | some ti=>
  obtain⟨ty,sz,b,z⟩:=ti;cases ty <;> cases l <;> cases c <;> first
   | rfl
   | (rename_i e _ _;simp only[wX];cases T e <;> rfl)
@[go_sem] def Z6 {l c:D}:wX T H (some ⟨.slice e,sz,b,z⟩) (.d l) (.d c)=u9 H l c (T e):=rfl
@[go_sem] def PM {l c:D}:u9 H l c (some ⟨ty,sz,b,z⟩)=some (l.isInt .i64/\c.isInt .i64/\0<=l.toInt/\l.toInt<=c.toInt/\(b:Int)*c.toInt<=281474976710656/\0<b/\0<sz,
   .sl H.length 0 sz 0 l.toInt.toNat,H ++ [.row 0 sz (.own []) (List.replicate l.toInt.toNat z)]):=rfl
def yC:Bool->Nat->I->Option (Prop×List D)
 | true,sz,.d xd=>some (xd.cells.length=sz/\xd.one=false/\(∀ n,xd≠.tup n),bT xd 0 sz)
 | false,sz,.d xd=>some (sz=1/\xd.one=true,[xd])
 | _,_,_=>none
def ME:cellsD ti x=yC ti.ty.agg ti.size x:=by
 unfold cellsD;cases ti.ty.agg <;> cases x <;> rfl
@[go_sem] def Xh:yC true sz (.d xd)=some (xd.cells.length=sz/\xd.one=false/\(∀ n,xd≠.tup n),bT xd 0 sz):=rfl
@[go_sem] def YN:yC false sz (.d xd)=some (sz=1/\xd.one=true,[xd]):=rfl
def wq (H:List R) (i off sz:Nat) (cs:List I):Option (Prop×List I)->Option (Prop×List R)
 | some (vc,xs)=>some (vc/\off+sz<=cs.length,H.set i (.box (setCells cs off xs)))
 | none=>none
def sL (H:List R) (i off:Nat) (ti:TI) (x:I):Option R->Option (Prop×List R)
 | some (.box cs)=>wq H i off ti.size cs (g9 ti x)
 | _=>none
def oY (H:List R) (i g k idx off:Nat) (z:D) (sz g' k':Nat) (dp:DP) (l:List D) (o2:Option (Prop×List R)):Bool->Option (Prop×List D)->Option (Prop×List R)
 | true,some (vc,xs)=>some (vc/\g=g'/\k=k'/\idx<l.length/\off=0/\sz=1/\(dp.o=true->(l.getD idx z).scalar=true/\(xs.getD 0 .nil).scalar=true),H.set i (.row g' k' dp (l.set idx (xs.getD 0 .nil))))
 | false,some (vc,xs)=>some (vc/\g=g'/\k=k'/\idx<l.length/\off+sz<=k/\1<k/\(dp.o=true->(∀ c∈bT (l.getD idx z) off sz,c.scalar=true)/\(∀ c∈xs,c.scalar=true)),
      H.set i (.row g' k' dp (l.set idx (.agg (cX (bT (l.getD idx z) 0 k) off xs)))))
 | _,none=>o2
def qO (H:List R) (i g k idx off:Nat) (z:D) (sz g' k':Nat) (l:List D) (hs:List (Nat×Nat×I)):Bool->Option (Prop×List I)->Option (Prop×List R)
 | true,some (vc,xs)=>some (vc/\g=g'/\k=k'/\idx<l.length/\off=0/\sz=1/\lq xs/\pb idx off sz hs,H.set i (.row g' k' (.own (fb idx off xs)) (l.set idx (ij (xs.getD 0 .junk)))))
 | false,some (vc,xs)=>some (vc/\g=g'/\k=k'/\idx<l.length/\off+sz<=k/\1<k/\lq xs/\pb idx off sz hs,
       H.set i (.row g' k' (.own (fb idx off xs)) (l.set idx (.agg (cX (bT (l.getD idx z) 0 k) off (xs.map ij))))))
 | _,none=>none
def pY (H:List R) (i g k idx off:Nat) (z:D) (ti:TI) (g' k':Nat) (l:List D) (x:I):DP->Option (Prop×List R)
 | .own hs=>qO H i g k idx off z ti.size g' k' l hs (decide (k=1)) (g9 ti x)
 | _=>none
def qY (H:List R) (i g k idx off:Nat) (z:D) (ti:TI) (x:I):Option R->Option (Prop×List R)
 | some (.row g' k' dp l)=>oY H i g k idx off z ti.size g' k' dp l (pY H i g k idx off z ti g' k' l x dp) (decide (k=1)) (cellsD ti x)
 | _=>none
def sf (H:List R) (p x:I):Option TI->Option (Prop×List R)
 | some ti=>match p with
  | .ptr i off=>sL H i off ti x (bD H i)
  | .eptr i g k idx off z=>qY H i g k idx off z ti x (bD H i)
  | _=>none
 | none=>none
@[go_sem] def Za {p:I}:wZ T H t p x=sf H p x (T t):=by
 unfold wZ;cases T t with
 | none=>cases p <;> rfl
 | some ti=>
  cases p <;> simp only[sf,<-fD]
  ·rename_i i off;cases H[i]? with
   | none=>rfl
   | some r=>
    cases r <;> simp only[sL]
    rename_i cs;cases g9 ti x <;> rfl
  ·rename_i i g k idx off z;cases H[i]? with
   | none=>rfl
   | some r=>
    cases r <;> simp only[qY]
    rename_i g' k' dp l;cases cellsD ti x with
    | none=>
     simp only[oY];rcases dp with _|hs
     ·rfl
     ·simp only[pY];cases g9 ti x with
      | none=>simp only[qO]
      | some q=>obtain⟨vc,xs⟩:=q;cases decide (k=1) <;> rfl
    | some q=>obtain⟨vc,xs⟩:=q;cases decide (k=1) <;> rfl
@[go_sem] def Sr:sf H (.ptr i off) x (some ⟨ty,sz,b,z⟩)=sL H i off ⟨ty,sz,b,z⟩ x (bD H i):=rfl
@[go_sem] def RY:sL H i off ⟨ty,sz,b,z⟩ x (some (.box cs))=wq H i off sz cs (g9 ⟨ty,sz,b,z⟩ x):=rfl
@[go_sem] def Yv {xs:List I}:wq H i off sz cs (some (vc,xs))=some (vc/\off+sz<=cs.length,H.set i (.box (setCells cs off xs))):=rfl
@[go_sem] def R9:sf H (.eptr i g k idx off z') x (some ⟨ty,sz,b,z⟩)=qY H i g k idx off z' ⟨ty,sz,b,z⟩ x (bD H i):=rfl
@[go_sem] def U4:qY H i g k idx off z' ⟨ty,sz,b,z⟩ x (some (.row g' k' dp l))=oY H i g k idx off z' sz g' k' dp l (pY H i g k idx off z' ⟨ty,sz,b,z⟩ g' k' l x dp) (decide (k=1)) (yC ty.agg sz x):=by
 simp only[qY,ME]
@[go_sem] def RF:oY H i g k idx off z' sz g' k' dp l o2 true (some (vc,xs)) =
  some (vc/\g=g'/\k=k'/\idx<l.length/\off=0/\sz=1/\(dp.o=true->(l.getD idx z').scalar=true/\(xs.getD 0 .nil).scalar=true),H.set i (.row g' k' dp (l.set idx (xs.getD 0 .nil)))):=rfl
@[go_sem] def Py:oY H i g k idx off z' sz g' k' dp l o2 false (some (vc,xs)) =
  some (vc/\g=g'/\k=k'/\idx<l.length/\off+sz<=k/\1<k/\(dp.o=true->(∀ c∈bT (l.getD idx z') off sz,c.scalar=true)/\(∀ c∈xs,c.scalar=true)),
      H.set i (.row g' k' dp (l.set idx (.agg (cX (bT (l.getD idx z') 0 k) off xs))))):=rfl
@[go_sem] def Tu {bb:Bool}:oY H i g k idx off z' sz g' k' dp l o2 bb none=o2:=by cases bb <;> rfl
@[go_sem] def Zr:pY H i g k idx off z' ⟨ty,sz,b,z⟩ g' k' l x (.own hs)=qO H i g k idx off z' sz g' k' l hs (decide (k=1)) (g9 ⟨ty,sz,b,z⟩ x):=rfl
@[go_sem] def WB:pY H i g k idx off z' ⟨ty,sz,b,z⟩ g' k' l x .fz=none:=rfl
@[go_sem] def zjW {xs:List I}:qO H i g k idx off z' sz g' k' l hs true (some (vc,xs))=some (vc/\g=g'/\k=k'/\idx<l.length/\off=0/\sz=1/\lq xs/\pb idx off sz hs,H.set i (.row g' k' (.own (fb idx off xs)) (l.set idx (ij (xs.getD 0 .junk))))):=rfl
@[go_sem] def zjX:pb idx off n []=True:=rfl
@[go_sem] def zjY {b:Nat}{r:List (Nat×Nat×I)}:pb idx off n ((a,b,x)::r)=((a=idx/\off<=b/\b<off+n)/\pb idx off n r):=rfl
@[go_sem] def SV {xs:List I}:qO H i g k idx off z' sz g' k' l hs false (some (vc,xs))=some (vc/\g=g'/\k=k'/\idx<l.length/\off+sz<=k/\1<k/\lq xs/\pb idx off sz hs,
       H.set i (.row g' k' (.own (fb idx off xs)) (l.set idx (.agg (cX (bT (l.getD idx z') 0 k) off (xs.map ij)))))):=rfl
@[go_sem] def Up:yC true sz (.agg cs)=none:=rfl
@[go_sem] def zkb:lq []=True:=rfl
@[go_sem] def T4:lq (x::r)=(uz x/\lq r):=rfl
@[go_sem] def zkd {x:D}:uz (.d x)=(x.scalar=true):=rfl
@[go_sem] def zke:uz (.sl i g k lo n)=True:=rfl
@[go_sem] def UK {x:D}:ij (.d x)=x:=rfl
@[go_sem] def W9:ij (.sl i g k lo n)=.lst 1 []:=rfl
@[go_sem] def WM:fb idx o []=[]:=rfl
@[go_sem] def zki {x:D}:fb idx o (.d x::r)=fb idx (o+1) r:=rfl
@[go_sem] def zkj:fb idx o (.sl i g k lo n::r)=(idx,o,.sl i g k lo n)::fb idx (o+1) r:=rfl
def pL (H:List R) (i len sz:Nat) (agg:Bool):Option (Prop×List I)->Option (Prop×I×List R)
 | some (vc,cs)=>some (vc/\i=0/\len=1/\0<sz/\sz<=1000/\lq cs,.sl H.length 0 sz 0 1,H ++ [.row 0 sz (.own (fb 0 0 cs)) [lK agg cs]])
 | none=>none
def AL (H:List R) (i len:Nat) (x:I):Option TI->Option (Prop×I×List R)
 | some ei=>pL H i len ei.size ei.ty.agg (g9 ei x)
 | none=>none
def pT (T:Nat->Option TI) (H:List R) (i len:Nat) (x:I):Option TI->Option (Prop×I×List R)
 | some ⟨.slice e,_,_,_⟩=>AL H i len x (T e)
 | _=>none
@[go_sem] def Pz:wt T H t len i x=pT T H i len x (T t):=by
 unfold wt;cases T t with
 | none=>rfl
 | some ti=>
  obtain⟨ty,sz,b,z⟩:=ti;cases ty with
  | slice e=>
   simp only[pT];cases T e with
   | none=>rfl
   | some ei=>simp only[AL];cases g9 ei x <;> rfl
  | _=>rfl
@[go_sem] def UZ:pT T H i len x (some ⟨.slice e,sz,b,z⟩)=AL H i len x (T e):=rfl
@[go_sem] def T2:AL H i len x (some ⟨ty,sz,b,z⟩)=pL H i len sz ty.agg (g9 ⟨ty,sz,b,z⟩ x):=rfl
@[go_sem] def ZF {agg:Bool}:pL H i len sz agg (some (vc,cs))=some (vc/\i=0/\len=1/\0<sz/\sz<=1000/\lq cs,.sl H.length 0 sz 0 1,H ++ [.row 0 sz (.own (fb 0 0 cs)) [lK agg cs]]):=rfl
@[go_sem] def PX:lK true cs=.agg (cs.map ij):=rfl
@[go_sem] def WS:lK false cs=ij (cs.getD 0 .junk):=rfl
@[go_sem] def Vu {r:List (Nat×I)}:mi size i ((j,.agg cs)::r)=none:=rfl
def rX (T:Nat->Option TI) (kd:D) (ok:Bool):Option R->Option TI->Option TI->Option (Prop×I)
 | some (.map es),some kti,some eti=>some (kY T kti.ty/\eD kti.ty kd/\jL kti.ty es,
    if ok=true then .d (.tup [(fX es kd).getD eti.zero,.bool (fX es kd).isSome]) else .d ((fX es kd).getD eti.zero))
 | _,_,_=>none
def ww (T:Nat->Option TI) (H:List R) (m k:I) (ok:Bool):Option TI->Option (Prop×I)
 | some ⟨.map kt et,_,_,_⟩=>match m,k with
  | .map i,.d kd=>rX T kd ok (bD H i) (T kt) (T et)
  | _,_=>none
 | _=>none
@[go_sem] def zkq {m k:I}:ua T H t m k ok=ww T H m k ok (T t):=by
 unfold ua;cases T t with
 | none=>rfl
 | some ti=>
  obtain⟨ty,sz,b,z⟩:=ti;cases ty with
  | map kt et=>
   cases m <;> first|rfl|skip
   cases k <;> first|rfl|skip
   rename_i i kd;simp only[ww,fD];cases bD H i with
   | none=>rfl
   | some r=>
    cases r <;> first|rfl|skip
  | _=>cases m <;> rfl
@[go_sem] def zkr:ww T H (.map i) (.d kd) ok (some ⟨.map kt et,sz,b,z⟩)=rX T kd ok (bD H i) (T kt) (T et):=rfl
@[go_sem] def Q8:rX T kd true (some (.map es)) (some ⟨ty,sz,b,z⟩) (some ⟨ty',sz',b',z'⟩) =
  some (kY T ty/\eD ty kd/\jL ty es,.d (.tup [(fX es kd).getD z',.bool (fX es kd).isSome])):=rfl
@[go_sem] def Q4:rX T kd false (some (.map es)) (some ⟨ty,sz,b,z⟩) (some ⟨ty',sz',b',z'⟩) =
  some (kY T ty/\eD ty kd/\jL ty es,.d ((fX es kd).getD z')):=rfl
def KF (H:List R):Option TI->Option (Prop×I×List R)
 | some ⟨.map _ _,_,_,_⟩=>some (True,.map H.length,H ++ [.map []])
 | _=>none
@[go_sem] def Yy:wy T H t=KF H (T t):=by
 unfold wy;cases T t with
 | none=>rfl
 | some ti=>obtain⟨ty,sz,b,z⟩:=ti;cases ty <;> rfl
@[go_sem] def Y7:KF H (some ⟨.map kt et,sz,b,z⟩)=some (True,.map H.length,H ++ [.map []]):=rfl
def wT (T:Nat->Option TI) (H:List R) (i:Nat) (kd xd:D):Option R->Option TI->Option (Prop×List R)
 | some (.map es),some kti=>some (kY T kti.ty/\eD kti.ty kd/\jL kti.ty es/\wj xd=true,H.set i (.map (cw es kd xd)))
 | _,_=>none
def wm (T:Nat->Option TI) (H:List R) (m k x:I):Option TI->Option (Prop×List R)
 | some ⟨.map kt _,_,_,_⟩=>match m,k,x with
  | .map i,.d kd,.d xd=>wT T H i kd xd (bD H i) (T kt)
  | _,_,_=>none
 | _=>none
@[go_sem] def Zd {m k:I}:rf T H t m k x=wm T H m k x (T t):=by
 unfold rf;cases T t with
 | none=>rfl
 | some ti=>
  obtain⟨ty,sz,b,z⟩:=ti;cases ty with
  | map kt et=>
   cases m <;> first|rfl|skip
   cases k <;> first|rfl|skip
   cases x <;> first|rfl|skip
   rename_i i kd xd;simp only[wm,fD];cases bD H i with
   | none=>rfl
   | some r=>
    cases r <;> first|rfl|skip
  | _=>cases m <;> rfl
@[go_sem] def VK:wm T H (.map i) (.d kd) (.d xd) (some ⟨.map kt et,sz,b,z⟩)=wT T H i kd xd (bD H i) (T kt):=rfl
@[go_sem] def Vk:wT T H i kd xd (some (.map es)) (some ⟨ty,sz,b,z⟩)=some (kY T ty/\eD ty kd/\jL ty es/\wj xd=true,H.set i (.map (cw es kd xd))):=rfl
@[go_sem] def Wh {k:IntKind}:kY T (.int k)=True:=rfl
@[go_sem] def PR:kY T (.struct fs)=rD T 0 fs:=rfl
@[go_sem] def VQ {k:IntKind}{x:D}:eD (.int k) x=x.isInt k:=rfl
@[go_sem] def S4 {cs:List D}:eD (.struct fs) (.agg cs)=(cs.length=fs.length/\br cs):=rfl
@[go_sem] def zkA {ty:Ty}:jL ty []=True:=rfl
@[go_sem] def Qb {k v:D}:cw [] k v=[(k,v)]:=rfl
@[go_sem] def YT {k:IntKind}{n:Int}:wj (.int k n)=true:=rfl
@[go_sem] def P7 {b:Bool}:wj (.bool b)=true:=rfl
attribute [go_sem] i9 Option.getD_none Option.isSome_none Option.isSome_some
def Ch {x:D×D}{r:List (D×D)}{k:D}:fX (x::r) k=if mq k x.1=true then some x.2 else fX r k:=rfl
def KB {k v:D} : ∀ {es:List (D×D)},fX es k=none->cw es k v=es ++ [(k,v)]
 | [],_=>rfl
 | x::r,h=>by
  simp only[fX] at h;split at h
  ·simp at h
  ·rename_i hb;simp only[cw,hb,eV,if_false,List.cons_append];rw[KB h]
def x3 {k:IntKind}{a b:Int}:mq (.int k a) (.int k b)=decide (a=b):=rfl
def Mv {k:IntKind}{a b c d:Int}:mq (.agg [.int k a,.int k b]) (.agg [.int k c,.int k d])=decide (a=c/\b=d):=by
 simp only[mq,oE,D.toInt,Bool.and_true];by_cases h1:a=c <;> by_cases h2:b=d <;> simp[h1,h2]
def AF (size g k lo n:Nat):Option R->Option (Prop×List D)
 | some (.row g' k' dp l)=>some (g=g'/\k=k'/\k=size/\(dp.o=true->ar ((l.drop lo).take n)=true),(l.drop lo).take n)
 | _=>none
@[go_sem] def Si:gV H size (.d xd)=some (xd.cT size/\0<size,xd.elems):=rfl
@[go_sem] def tc:gV H size (.sl i g k lo n)=AF size g k lo n (bD H i):=by
 simp only[gV,fD];cases bD H i with
 | none=>rfl
 | some r=>cases r <;> rfl
def sB (H:List R) (i g k lo n:Nat) (c:Prop) (size bytes:Nat) (xs:List D):Option R->Option (Prop×I×List R)
 | some (.row g' k' dp l)=>some (c/\g=g'/\k=k'/\k=size/\lo=0/\n=l.length/\dp.shut=true/\(dp.o=true->iD l (ar xs))/\(n+xs.length)*bytes<=140737488355328/\0<bytes,
        .sl i (g+1) k 0 (n+xs.length),H.set i (.row (g+1) k (mT dp l (ar xs)) (l++xs)))
 | _=>none
def so (H:List R) (i g k lo n:Nat) (c:Prop) (size bytes:Nat) (xs:List D) (hs:List bQ):Option R->Option (Prop×I×List R)
 | some (.row g' k' (.own []) l)=>some (c/\g=g'/\k=k'/\k=size/\lo=0/\n=l.length/\(n+xs.length)*bytes<=140737488355328/\0<bytes,
        .sl i (g+1) k 0 (n+xs.length),H.set i (.row (g+1) k (.own (oW l.length hs)) (l++xs)))
 | _=>none
def kH (H:List R) (t t' size bytes:Nat) (d:I):Option (Prop×List D×List bQ)->Option (Prop×I×List R)
 | some (vc,xs,[])=>match d with
  | .d .nil=>some ((t=t'/\vc)/\0<size/\xs.length*bytes<=140737488355328/\0<bytes,.sl H.length 0 size 0 xs.length,H ++ [.row 0 size (ar xs) xs])
  | .sl i g k lo n=>sB H i g k lo n (t=t'/\vc) size bytes xs (bD H i)
  | _=>none
 | some (vc,xs,h::hs)=>match d with
  | .d .nil=>some ((t=t'/\vc)/\0<size/\xs.length*bytes<=140737488355328/\0<bytes,.sl H.length 0 size 0 xs.length,H ++ [.row 0 size (.own (h::hs)) xs])
  | .sl i g k lo n=>so H i g k lo n (t=t'/\vc) size bytes xs (h::hs) (bD H i)
  | _=>none
 | none=>none
def tu (H:List R) (t t':Nat) (d x:I):Option TI->Option (Prop×I×List R)
 | some ei=>kH H t t' ei.size ei.bytes d (kL H ei.size x)
 | none=>none
def vb (T:Nat->Option TI) (H:List R) (t t':Nat) (d x:I):Option TI->Option (Prop×I×List R)
 | some ⟨.slice e,_,_,_⟩=>tu H t t' d x (T e)
 | _=>none
def pW (H:List R) (n:Int):Option TI->Option (Prop×I×List R)
 | some ei=>some (0<n/\n*(ei.bytes:Int)<=140737488355328/\0<ei.bytes/\ei.size=1/\ei.zero.scalar=true,.sl H.length 0 1 0 n.toNat,H ++ [.row 0 1 (.own []) (List.replicate n.toNat ei.zero)])
 | none=>none
def wl (T:Nat->Option TI) (H:List R) (e:Nat) (d x:I):Option (Prop×I×List R):=
 match d,x with
 | .d .nil,.d (.int .i64 n)=>pW H n (T e)
 | _,_=>none
def DN (H:List R) (i g k lo m:Nat) (n:Int):Option TI->Option R->Option (Prop×I×List R)
 | some ei,some (.row g' k' (.own []) l)=>some (0<=n/\g=g'/\k'=1/\k=1/\lo=0/\m=l.length/\(m+n)*(ei.bytes:Int)<=140737488355328/\0<ei.bytes/\ei.size=1/\ei.zero.scalar=true,
     .sl i (g+1) 1 0 (m+n.toNat),H.set i (.row (g+1) 1 (.own []) (l++List.replicate n.toNat ei.zero)))
 | _,_=>none
def v4 (T:Nat->Option TI) (H:List R) (e:Nat) (d x:I):Option (Prop×I×List R):=
 match d,x with
 | .sl i g k lo m,.d (.int .i64 n)=>DN H i g k lo m n (T e) (bD H i)
 | _,_=>none
def w6 (x y:Option (Prop×I×List R)):Option (Prop×I×List R):=match x with|some r=>some r|none=>y
def wD (T:Nat->Option TI) (H:List R) (t t':Nat) (d x:I):Option TI->Option TI->Option (Prop×I×List R)
 | some ⟨.slice e,_,_,_⟩,some ⟨.int .i64,_,_,_⟩=>w6 (wl T H e d x) (w6 (v4 T H e d x) (rE T H t t' d x))
 | _,_=>rE T H t t' d x
def FY (T:Nat->Option TI) (H:List R) (d x:I):Option TI->Option TI->Option (Prop×I×List R)
 | some ⟨.slice e,_,_,_⟩,some ⟨.int .i64,_,_,_⟩=>wl T H e d x
 | _,_=>none
def E1 (T:Nat->Option TI) (H:List R) (d x:I):Option TI->Option TI->Option (Prop×I×List R)
 | some ⟨.slice e,_,_,_⟩,some ⟨.int .i64,_,_,_⟩=>v4 T H e d x
 | _,_=>none
def OV:z4 T H t t' d x=FY T H d x (T t) (T t'):=by
 unfold z4;cases T t with
 | none=>rfl
 | some ti=>
  obtain⟨ty,sz,b,z⟩:=ti;cases T t' with
  | none=>cases ty <;> rfl
  | some ti'=>
   obtain⟨ty',sz',b',z'⟩:=ti';cases d with
   | d dd=>
    cases dd with
    | nil=>
     cases x with
     | d xd=>
      cases xd with
      | int k n=>
       cases k <;> (cases ty <;> first|rfl|(cases ty' <;> first|rfl|(rename_i e k2;cases k2 <;> first|rfl|(simp only[FY,wl,pW];cases T e <;> rfl))))
      | _=>cases ty <;> first|rfl|(cases ty' <;> first|rfl|(rename_i e k2;cases k2 <;> rfl))
     | _=>cases ty <;> first|rfl|(cases ty' <;> first|rfl|(rename_i e k2;cases k2 <;> rfl))
    | _=>cases ty <;> first|rfl|(cases ty' <;> first|rfl|(rename_i e k2;cases k2 <;> rfl))
   | _=>cases ty <;> first|rfl|(cases ty' <;> first|rfl|(rename_i e k2;cases k2 <;> rfl))
def On:Ab T H t t' d x=E1 T H d x (T t) (T t'):=by
 unfold Ab;cases T t with
 | none=>rfl
 | some ti=>
  obtain⟨ty,sz,b,z⟩:=ti;cases T t' with
  | none=>cases ty <;> rfl
  | some ti'=>
   obtain⟨ty',sz',b',z'⟩:=ti';cases d with
   | sl i g k lo m=>
    cases x with
    | d xd=>
     cases xd with
     | int kx n=>
      cases kx <;> (cases ty <;> first|rfl|(cases ty' <;> first|rfl|(rename_i e k2;cases k2 <;> first|rfl|(simp only[E1,v4,fD];cases T e <;> first|rfl|(cases H[i]? <;> first|rfl|(rename_i r;cases r <;> first|rfl|(rename_i dp _;cases dp <;> first|rfl|(rename_i hs;cases hs <;> rfl))))))))
     | _=>cases ty <;> first|rfl|(cases ty' <;> first|rfl|(rename_i e k2;cases k2 <;> rfl))
    | _=>cases ty <;> first|rfl|(cases ty' <;> first|rfl|(rename_i e k2;cases k2 <;> rfl))
   | _=>cases ty <;> first|rfl|(cases ty' <;> first|rfl|(rename_i e k2;cases k2 <;> rfl))
@[go_sem] def Z8:nu T H t t' d x=wD T H t t' d x (T t) (T t'):=by
 unfold nu;rw[OV,On];cases T t with
 | none=>rfl
 | some ti=>
  obtain⟨ty,sz,b,z⟩:=ti;cases T t' with
  | none=>cases ty <;> rfl
  | some ti'=>
   obtain⟨ty',sz',b',z'⟩:=ti';cases ty <;> first|rfl|(cases ty' <;> first|rfl|(rename_i e k2;cases k2 <;> rfl))
@[go_sem] def zkG {e':Nat}:wD T H t t' d x (some ⟨.slice e,sz,b,z⟩) (some ⟨.slice e',sz',b',z'⟩)=rE T H t t' d x:=rfl
@[go_sem] def U1 {r:Prop×I×List R}{y:Option (Prop×I×List R)}:w6 (some r) y=some r:=rfl
@[go_sem] def Rk {n:Int}{ty:Ty}{sz b:Nat}{z:D}:pW H n (some ⟨ty,sz,b,z⟩)=some (0<n/\n*(b:Int)<=140737488355328/\0<b/\sz=1/\z.scalar=true,.sl H.length 0 1 0 n.toNat,H ++ [.row 0 1 (.own []) (List.replicate n.toNat z)]):=rfl
@[go_sem] def XX {n:Int}:wD T H t t' (.d .nil) (.d (.int .i64 n)) (some ⟨.slice e,sz,b,z⟩) (some ⟨.int .i64,sz',b',z'⟩)=w6 (pW H n (T e)) (rE T H t t' (.d .nil) (.d (.int .i64 n))):=by
 show w6 (pW H n (T e)) (w6 none _)=_
 rfl
@[go_sem] def zkK:rE T H t t' d x=vb T H t t' d x (T t):=by
 unfold rE;cases T t with
 | none=>rfl
 | some ti=>
  obtain⟨ty,sz,b,z⟩:=ti;cases ty with
  | slice e=>
   simp only[vb];cases T e with
   | none=>rfl
   | some ei=>
    simp only[tu];cases kL H ei.size x with
    | none=>rfl
    | some q=>
     obtain⟨vc,xs,hs⟩:=q;cases hs with
     | nil=>
      cases d with
      | d dd=>cases dd <;> simp only[kH,and_assoc]
      | sl i g k lo n=>
       simp only[kH,<-fD];cases H[i]? with
       | none=>rfl
       | some r=>cases r <;> simp only[sB,and_assoc]
      | _=>rfl
     | cons h hs=>
      cases d with
      | d dd=>cases dd <;> simp only[kH,and_assoc]
      | sl i g k lo n=>
       simp only[kH,<-fD];cases H[i]? with
       | none=>rfl
       | some r=>
        cases r with
        | row g' k' dp l=>
         rcases dp with _|hs2
         ·rfl
         ·cases hs2 <;> simp only[so,and_assoc]
        | _=>rfl
      | _=>rfl
  | _=>rfl
@[go_sem] def Vg:vb T H t t' d x (some ⟨.slice e,sz,b,z⟩)=tu H t t' d x (T e):=rfl
@[go_sem] def zkM:tu H t t' d x (some ⟨ty,sz,b,z⟩)=kH H t t' sz b d (kL H sz x):=rfl
@[go_sem] def Rd:kH H t t' sz bytes (.d .nil) (some (vc,xs,[]))=some ((t=t'/\vc)/\0<sz/\xs.length*bytes<=140737488355328/\0<bytes,.sl H.length 0 sz 0 xs.length,H ++ [.row 0 sz (ar xs) xs]):=rfl
@[go_sem] def zkO:kH H t t' sz bytes (.sl i g k lo n) (some (vc,xs,[]))=sB H i g k lo n (t=t'/\vc) sz bytes xs (bD H i):=rfl
@[go_sem] def P6 {hs:List bQ}:kH H t t' sz bytes (.sl i g k lo n) (some (vc,xs,h::hs))=so H i g k lo n (t=t'/\vc) sz bytes xs (h::hs) (bD H i):=rfl
@[go_sem] def Ua:sB H i g k lo n c sz bytes xs (some (.row g' k' dp l)) =
  some (c/\g=g'/\k=k'/\k=sz/\lo=0/\n=l.length/\dp.shut=true/\(dp.o=true->iD l (ar xs))/\(n+xs.length)*bytes<=140737488355328/\0<bytes,.sl i (g+1) k 0 (n+xs.length),H.set i (.row (g+1) k (mT dp l (ar xs)) (l++xs))):=rfl
attribute [go_sem] sK K0 sO sj sn vU v9 vg vI
@[go_sem] def T9 {hs:List bQ}:so H i g k lo n c sz bytes xs hs (some (.row g' k' (.own []) l)) =
  some (c/\g=g'/\k=k'/\k=sz/\lo=0/\n=l.length/\(n+xs.length)*bytes<=140737488355328/\0<bytes,.sl i (g+1) k 0 (n+xs.length),H.set i (.row (g+1) k (.own (oW l.length hs)) (l++xs))):=rfl
@[go_sem] def Wi:oW n []=[]:=rfl
@[go_sem] def Z9 {c:Nat}{r:List bQ}:oW n ((a,c,x)::r)=(n+a,c,x)::oW n r:=rfl
@[go_sem] def zkU {hs:List bQ}:rH k hs j []=True:=rfl
def Dn:Option I->D->Prop
 | some _,_=>True
 | none,c=>c.scalar=true
@[go_sem] def Uy {c:D}:Dn (some x) c=True:=rfl
@[go_sem] def T5 {c:D}:Dn none c=(c.scalar=true):=rfl
@[go_sem] def Y5 {hs:List bQ}{c:D}{r:List D}:rH k hs j (c::r)=(Dn (cu k hs j) c/\rH k hs (j+1) r):=by
 simp only[rH];cases cu k hs j <;> rfl
@[go_sem] def Yo:kL H size (.d xd)=some (xd.cT size/\0<size,xd.elems,[]):=rfl
def xh (size g k lo n:Nat):Option R->Option (Prop×List D×List bQ)
 | some (.row g' k' (.own (h::hs)) l)=>some (g=g'/\k=k'/\k=size/\lo=0/\n=l.length/\0<n/\rH k (h::hs) 0 (flat l),l,h::hs)
 | r=>uq (AF size g k lo n r)
@[go_sem] def Wj:kL H size (.sl i g k lo n)=xh size g k lo n (bD H i):=by
 simp only[kL,tc,fD];cases bD H i with
 | none=>rfl
 | some r=>
  cases r with
  | row g' k' dp l=>
   rcases dp with _|hs
   ·rfl
   ·cases hs <;> rfl
  | _=>rfl
@[go_sem] def zla {hs:List bQ}:xh size g k lo n (some (.row g' k' (.own (h::hs)) l))=some (g=g'/\k=k'/\k=size/\lo=0/\n=l.length/\0<n/\rH k (h::hs) 0 (flat l),l,h::hs):=rfl
@[go_sem] def zlb:xh size g k lo n (some (.row g' k' (.own []) l))=some (g=g'/\k=k'/\k=size/\(ar ((l.drop lo).take n)=true),(l.drop lo).take n,[]):=by
 simp only[xh,AF,uq,DP.o,true_implies]
@[go_sem] def UM:xh size g k lo n (some (.row g' k' .fz l))=some (g=g'/\k=k'/\k=size,(l.drop lo).take n,[]):=by
 simp[xh,AF,uq,DP.o]
@[go_sem] def YM {x:D}:flat [x]=x.cells ++ []:=rfl
def vf (H:List R) (i g k lo n size:Nat) (z:D):Option R->Option (Prop×I×List R)
 | some (.row g' k' dp l)=>some (g=g'/\k=k'/\k=size/\size=1/\z.scalar=true/\l.all D.scalar=true,.d (.tup []),H.set i (.row g' k' dp (gF l lo (List.replicate n z))))
 | _=>none
def ta (H:List R) (size:Nat) (z:D):I->Option (Prop×I×List R)
 | .sl i g k lo n=>vf H i g k lo n size z (bD H i)
 | _=>none
def rU (H:List R) (d:I):Option TI->Option (Prop×I×List R)
 | some ei=>ta H ei.size ei.zero d
 | none=>none
def wE (T:Nat->Option TI) (H:List R) (d:I):Option TI->Option (Prop×I×List R)
 | some ⟨.slice e,_,_,_⟩=>rU H d (T e)
 | _=>none
@[go_sem] def SC:w5 T H t d=wE T H d (T t):=by
 unfold w5;cases T t with
 | none=>rfl
 | some ti=>
  obtain⟨ty,sz,b,z⟩:=ti;cases ty with
  | slice e=>
   simp only[wE];cases T e with
   | none=>rfl
   | some ei=>
    cases d <;> simp only[rU,ta,<-fD]
    rename_i i g k lo n;cases H[i]? with
    | none=>rfl
    | some r=>cases r <;> rfl
  | _=>rfl
@[go_sem] def VT {sz b:Nat}{z:D}:wE T H d (some ⟨.slice e,sz,b,z⟩)=rU H d (T e):=rfl
@[go_sem] def TO {ty:Ty}{sz b:Nat}{z:D}:rU H d (some ⟨ty,sz,b,z⟩)=ta H sz z d:=rfl
@[go_sem] def Zk {sz:Nat}{z:D}:ta H sz z (.sl i g k lo n)=vf H i g k lo n sz z (bD H i):=rfl
@[go_sem] def Sn {sz:Nat}{z:D}:vf H i g k lo n sz z (some (.row g' k' dp l))=some (g=g'/\k=k'/\k=sz/\sz=1/\z.scalar=true/\l.all D.scalar=true,.d (.tup []),H.set i (.row g' k' dp (gF l lo (List.replicate n z)))):=rfl
def vo (H:List R) (i g k lo n:Nat) (vc:Prop) (size:Nat) (xs:List D):Option R->Option (Prop×I×List R)
 | some (.row g' k' dp l)=>some (vc/\g=g'/\k=k'/\k=size/\size=1/\xs.length<=n/\lo+n<=l.length/\xs.all D.scalar=true/\l.all D.scalar=true,
       .d (.int .i64 (xs.length:Nat)),H.set i (.row g' k' dp (gF l lo xs)))
 | _=>none
def rZ (H:List R) (size:Nat):Option (Prop×List D)->I->Option (Prop×I×List R)
 | some (vc,xs),.sl i g k lo n=>vo H i g k lo n vc size xs (bD H i)
 | _,_=>none
def tg (H:List R) (d x:I):Option TI->Option (Prop×I×List R)
 | some ei=>rZ H ei.size (gV H ei.size x) d
 | none=>none
def vn (T:Nat->Option TI) (H:List R) (d x:I):Option TI->Option (Prop×I×List R)
 | some ⟨.slice e,_,_,_⟩=>tg H d x (T e)
 | _=>none
@[go_sem] def zlj:xm T H t t' d x=vn T H d x (T t):=by
 unfold xm;cases T t with
 | none=>rfl
 | some ti=>
  obtain⟨ty,sz,b,z⟩:=ti;cases ty with
  | slice e=>
   simp only[vn];cases T e with
   | none=>rfl
   | some ei=>
    simp only[tg];cases gV H ei.size x with
    | none=>cases d <;> rfl
    | some q=>
     obtain⟨vc,xs⟩:=q;cases d <;> simp only[rZ,<-fD]
     rename_i i g k lo n;cases H[i]? with
     | none=>rfl
     | some r=>cases r <;> rfl
  | _=>rfl
@[go_sem] def zlk:vn T H d x (some ⟨.slice e,sz,b,z⟩)=tg H d x (T e):=rfl
@[go_sem] def Yf:tg H d x (some ⟨ty,sz,b,z⟩)=rZ H sz (gV H sz x) d:=rfl
@[go_sem] def Qs:rZ H sz (some (vc,xs)) (.sl i g k lo n)=vo H i g k lo n vc sz xs (bD H i):=rfl
@[go_sem] def zln:vo H i g k lo n vc sz xs (some (.row g' k' dp l)) =
  some (vc/\g=g'/\k=k'/\k=sz/\sz=1/\xs.length<=n/\lo+n<=l.length/\xs.all D.scalar=true/\l.all D.scalar=true,.d (.int .i64 (xs.length:Nat)),H.set i (.row g' k' dp (gF l lo xs))):=rfl
@[go_sem] def zlo {cs:List D}:eE (.d (.fn g cs))=some (g,cs.map .d):=rfl
@[go_sem] def zlp:eE (.fn g cs)=some (g,cs):=rfl
def DB (E:Env) (c:Prop) (f:Nat) (H:List R) (K:I->List R->Prop):Option (Prop×List D)->Prop
 | some (vc,ds)=>c/\vc/\w9 E f ds H K
 | none=>False
def zE (E:Env) (c:Prop) (f:Nat) (H:List R) (K:I->List R->Prop):Option (Prop×List D)->Prop
 | some (vc,ds)=>c/\vc/\yU E f ds H K
 | none=>False
def yb (E:Env) (c:Prop) (f:Nat) (args:List I) (H:List R) (K:I->List R->Prop):Kind->Prop
 | .own=>DB E c f H K (mh H args)
 | .fz=>zE E c f H K (pz args)
 | .proc=>c/\aQ E.P f args H K
@[go_sem] def Tc:nE E c (some (f,caps)) args H K=yb E c f (args++caps) H K (E.pf f):=by
 simp only[nE];cases E.pf f with
 | own=>simp only[yb];cases mh H (args++caps) <;> rfl
 | fz=>simp only[yb];cases pz (args++caps) <;> rfl
 | proc=>rfl
@[go_sem] def YK:yb E c f args H K .own=DB E c f H K (mh H args):=rfl
@[go_sem] def zls:yb E c f args H K .fz=zE E c f H K (pz args):=rfl
@[go_sem] def SQ:yb E c f args H K .proc=(c/\aQ E.P f args H K):=rfl
@[go_sem] def RM:DB E c f H K (some (vc,ds))=(c/\vc/\w9 E f ds H K):=rfl
@[go_sem] def zlv:zE E c f H K (some (vc,ds))=(c/\vc/\yU E f ds H K):=rfl
def B5 (E:Env) (c:Prop) (e:Bool) (f:Nat) (K:I->Prop):Option (Prop×List D)->Prop
 | some (vc,ds)=>(e=true->c/\vc)/\Bm E e f ds K
 | none=>False
def xf (E:Env) (c:Prop) (e:Bool) (f:Nat) (args:List I) (H:List R) (K:List R->I->Prop):Kind->Prop
 | .own=>B5 E c e f (K H) (mh H args)
 | .proc=>(e=false->∃ x,K H (.cond e x))/\(e=true->c/\aQ E.P f args H (fun r H'=>K H' (.cond e r)))
 | .fz=>(e=false->∃ x,K H (.cond e x))/\(e=true->zE E c f H (fun r H'=>K H' (.cond e r)) (pz args))
@[go_sem] def Qo {e:Bool}{K:List R->I->Prop}:u7 E c e (some (f,caps)) args H K=xf E c e f (args++caps) H K (E.pf f):=by
 simp only[u7];cases E.pf f with
 | own=>simp only[xf];cases mh H (args++caps) <;> rfl
 | fz=>simp only[xf];cases pz (args++caps) <;> rfl
 | proc=>rfl
@[go_sem] def TS {e:Bool}{K:List R->I->Prop}:xf E c e f args H K .proc=((e=false->∃ x,K H (.cond e x))/\(e=true->c/\aQ E.P f args H (fun r H'=>K H' (.cond e r)))):=rfl
@[go_sem] def WY {e:Bool}{K:List R->I->Prop}:xf E c e f args H K .fz=((e=false->∃ x,K H (.cond e x))/\(e=true->zE E c f H (fun r H'=>K H' (.cond e r)) (pz args))):=rfl
@[go_sem] def zlz {e:Bool}{K:List R->I->Prop}:xf E c e f args H K .own=B5 E c e f (K H) (mh H args):=rfl
@[go_sem] def Tz {e:Bool}{K:I->Prop}:B5 E c e f K (some (vc,ds))=((e=true->c/\vc)/\Bm E e f ds K):=rfl
def A2:Option (Prop×D)->Option (Prop×List D)->Option (Prop×List D)
 | some (vc,d),some (vc',ds)=>some (vc/\vc',d::ds)
 | _,_=>none
def ul:Option (Prop×D)->Option (Prop×List D)->Option (Prop×List D)
 | some (vc,d),some (vc',ds)=>some (vc/\d.one=true/\vc',d::ds)
 | _,_=>none
@[go_sem] def VO {d:D}:A2 (some (vc,d)) (some (vc',ds))=some (vc/\vc',d::ds):=rfl
@[go_sem] def Zx {d:D}:ul (some (vc,d)) (some (vc',ds))=some (vc/\d.one=true/\vc',d::ds):=rfl
@[go_sem] def Sg:mh H []=some (True,[]):=rfl
@[go_sem] def Oh:mh H (x::r)=A2 (view H 3 x) (mh H r):=by
 simp only[mh,jO];cases view H 3 x with
 | none=>rfl
 | some p=>obtain⟨vc,d⟩:=p;cases jO (view H 3) r <;> rfl
@[go_sem] def RH:pz []=some (True,[]):=rfl
@[go_sem] def zlF {x:D}:pz (.d x::r)=A2 (some (True,x)) (pz r):=by
 simp only[pz,jO,view];cases jO (view [] 0) r <;> rfl
@[go_sem] def Xq {f:I->Option (Prop×D)}:my f []=some (True,[]):=rfl
@[go_sem] def X8 {f:I->Option (Prop×D)}:my f (x::r)=ul (f x) (my f r):=by
 simp only[my];cases f x with
 | none=>rfl
 | some p=>obtain⟨vc,d⟩:=p;cases my f r <;> rfl
@[go_sem] def zlI {f:I->Option (Prop×D)}:jO f []=some (True,[]):=rfl
@[go_sem] def TX {f:I->Option (Prop×D)}:jO f (x::r)=A2 (f x) (jO f r):=by
 simp only[jO];cases f x with
 | none=>rfl
 | some p=>obtain⟨vc,d⟩:=p;cases jO f r <;> rfl
def F0 (g k lo n:Nat):Option R->Option (Prop×D)
 | some (.row g' k' dp l)=>some (g=g'/\k=k'/\dp.shut=true,.lst k ((l.drop lo).take n))
 | _=>none
def vX:Option (Prop×List D)->Option (Prop×D)
 | some (vc,ds)=>some (vc,.ptr ds)
 | none=>none
def vw (H:List R) (f off:Nat):Option R->Option (Prop×D)
 | some (.box cs)=>vX (my (view H f) (cs.drop off))
 | _=>none
def yD:Option (Prop×List D)->Option (Prop×D)
 | some (vc,ds)=>some (vc,.agg ds)
 | none=>none
def yj:Option (Prop×List D)->Option (Prop×D)
 | some (vc,ds)=>some (vc,.tup ds)
 | none=>none
def HL (g:Nat):Option (Prop×List D)->Option (Prop×D)
 | some (vc,ds)=>some (vc,.fn g ds)
 | none=>none
@[go_sem] def UO {x:D}:view H (f+1) (.d x)=some (True,x):=rfl
@[go_sem] def zlL:view H (f+1) (.sl i g k lo n)=F0 g k lo n (bD H i):=by
 simp only[view,fD];cases bD H i with
 | none=>rfl
 | some r=>cases r <;> rfl
@[go_sem] def zlM:view H (f+1) (.ptr i off)=vw H f off (bD H i):=by
 simp only[view,fD];cases bD H i with
 | none=>rfl
 | some r=>
  cases r <;> simp only[vw]
  rename_i cs;cases my (view H f) (cs.drop off) <;> rfl
@[go_sem] def Tm:view H (f+1) (.agg cs)=yD (my (view H f) cs):=by
 simp only[view];cases my (view H f) cs <;> rfl
@[go_sem] def zlO:view H (f+1) (.fn g cs)=HL g (jO (view H f) cs):=by
 simp only[view];cases jO (view H f) cs <;> rfl
@[go_sem] def SB:view H (f+1) (.tup cs)=yj (jO (view H f) cs):=by
 simp only[view];cases jO (view H f) cs <;> rfl
@[go_sem] def zlQ:yj (some (vc,ds))=some (vc,.tup ds):=rfl
@[go_sem] def zlR:F0 g k lo n (some (.row g' k' dp l))=some (g=g'/\k=k'/\dp.shut=true,.lst k ((l.drop lo).take n)):=rfl
@[go_sem] def zlS:vw H f off (some (.box cs))=vX (my (view H f) (cs.drop off)):=rfl
@[go_sem] def UD:vX (some (vc,ds))=some (vc,.ptr ds):=rfl
@[go_sem] def UA:yD (some (vc,ds))=some (vc,.agg ds):=rfl
@[go_sem] def Z3:HL g (some (vc,ds))=some (vc,.fn g ds):=rfl
def vt (Po:I->List R->Prop) (H:List R):Option (Prop×I)->Prop
 | some (vc,r)=>vc/\Po r H
 | none=>False
def su:Option (Prop×List I)->Option (Prop×I)
 | some (vc,[x])=>some (vc,x)
 | some (vc,l)=>some (vc,.tup l)
 | none=>none
def uh (x:I):Option (Prop×List I)->Option (Prop×List I)
 | some (vc,l)=>some (vc,x::l)
 | none=>none
def uN:Option (Prop×I)->Option (Prop×List I)->Option (Prop×List I)
 | some (c,x),some (vc,l)=>some (c/\vc,x::l)
 | _,_=>none
@[go_sem] def Xl:endsWith T fn Po .normal fr H=vt (Po fr) H (eT T H fr fn.results.toList):=by
 simp only[endsWith];cases eT T H fr fn.results.toList <;> rfl
@[go_sem] def RN:endsWith T fn Po .ret fr H=vt (Po fr) H (eT T H fr fn.results.toList):=by
 simp only[endsWith];cases eT T H fr fn.results.toList <;> rfl
@[go_sem] def zlW {Po:I->List R->Prop}{r:I}:vt Po H (some (vc,r))=(vc/\Po r H):=rfl
@[go_sem] def YW {rs:List ResultVar}:eT T H fr rs=su (dX T H fr rs):=by
 simp only[eT];cases dX T H fr rs with
 | none=>rfl
 | some p=>obtain⟨vc,l⟩:=p;match l with|[]=>rfl|[x]=>rfl|x::y::r=>rfl
@[go_sem] def zlY:dX T H fr []=some (True,[]):=rfl
@[go_sem] def SW {r:List ResultVar}:dX T H fr (.tmp t::r)=uh (fr.get t) (dX T H fr r):=by
 simp only[dX];cases dX T H fr r <;> rfl
@[go_sem] def YL {x:Nat}{r:List ResultVar}:dX T H fr (.cell x t::r)=uN (nl T H t (fr.get x)) (dX T H fr r):=by
 simp only[dX];cases nl T H t (fr.get x) with
 | none=>rfl
 | some p=>cases dX T H fr r <;> rfl
@[go_sem] def zmb {l:List I}:uh x (some (vc,l))=some (vc,x::l):=rfl
@[go_sem] def zmc {l:List I}:uN (some (c,x)) (some (vc,l))=some (c/\vc,x::l):=rfl
@[go_sem] def VA:su (some (vc,[x]))=some (vc,x):=rfl
@[go_sem] def zme:su (some (vc,[]))=some (vc,.tup []):=rfl
@[go_sem] def zmf {y:I}:su (some (vc,x::y::r))=some (vc,.tup (x::y::r)):=rfl
@[go_sem] def zmg {x:D}{ids:List Nat}:qC x (some (vc,x',ids))=(vc/\ids.Nodup/\wk x' x):=rfl
@[go_sem] def zmh {x:D}:ye x (some (vc,x'))=(vc/\wk x' x):=rfl
def Fj (i g k lo m:Nat):Option R->Option (Prop×D×List Nat)
 | some (.row g' k' (.own []) l)=>some (g=g'/\k=k'/\lo=0/\m=l.length,.lst k l,[i])
 | _=>none
@[go_sem] def SY:Fj i g k lo m (some (.row g' k' (.own []) l))=some (g=g'/\k=k'/\lo=0/\m=l.length,.lst k l,[i]):=rfl
@[go_sem] def zmj {x:D}:pk H f (.d x)=some (sZ x=true,x,[]):=by cases f <;> rfl
@[go_sem] def zmk:pk H f (.sl i g k lo m)=Fj i g k lo m (bD H i):=by
 rw[<-fD];cases f <;> simp only[pk] <;> (cases H[i]? with
  | none=>rfl
  | some r=>cases r <;> first|rfl|(rename_i dp _;rcases dp with _|hs;rfl;cases hs <;> rfl))
def GF:Option (Prop×List D×List Nat)->Option (Prop×D×List Nat)
 | some (vc,ds,l)=>some (vc/\lR ds,.agg ds,l)
 | none=>none
def JX:Option (Prop×List D×List Nat)->Option (Prop×D×List Nat)
 | some (vc,ds,l)=>some (vc,.tup ds,l)
 | none=>none
def Fp:Option (Prop×D×List Nat)->Option (Prop×List D×List Nat)->Option (Prop×List D×List Nat)
 | some (vc,d,l),some (vc',ds,l')=>some (vc/\vc',d::ds,l++l')
 | _,_=>none
@[go_sem] def Qv:pk H (f+1) (.agg cs)=GF (ny (pk H f) cs):=by simp only[pk];cases ny (pk H f) cs <;> rfl
@[go_sem] def TL:pk H (f+1) (.tup cs)=JX (ny (pk H f) cs):=by simp only[pk];cases ny (pk H f) cs <;> rfl
@[go_sem] def Qp {l:List Nat}:GF (some (vc,ds,l))=some (vc/\lR ds,.agg ds,l):=rfl
@[go_sem] def zmo {l:List Nat}:JX (some (vc,ds,l))=some (vc,.tup ds,l):=rfl
@[go_sem] def zmp {d:D}{l l':List Nat}:Fp (some (vc,d,l)) (some (vc',ds,l'))=some (vc/\vc',d::ds,l++l'):=rfl
@[go_sem] def zmq {f:I->Option (Prop×D×List Nat)}:ny f []=some (True,[],[]):=rfl
@[go_sem] def zmr {f:I->Option (Prop×D×List Nat)}:ny f (x::r)=Fp (f x) (ny f r):=by
 simp only[ny];cases f x with
 | none=>rfl
 | some p=>obtain⟨vc,d,l⟩:=p;cases ny f r <;> rfl
@[go_sem] def zms:lR []=True:=rfl
@[go_sem] def zmt {x:D}{r:List D}:lR (x::r)=(x.one=true/\lR r):=rfl
@[go_sem] def TY {k:IntKind}{n:Int}:sZ (.int k n)=true:=rfl
@[go_sem] def zmv {b:Bool}:sZ (.bool b)=true:=rfl
@[go_sem] def Rm:sZ .nil=true:=rfl
@[go_sem] def WD {cs:List D}:sZ (.agg cs)=cs.all vM:=rfl
@[go_sem] def YR {k:IntKind}{n:Int}:vM (.int k n)=true:=rfl
@[go_sem] def zmz:vM .nil=true:=rfl
@[go_sem] def Ti {k:IntKind}{n:Int}{y:D}:wk (.int k n) y=(D.int k n=y):=by cases y <;> rfl
@[go_sem] def ZG {b:Bool}{y:D}:wk (.bool b) y=(D.bool b=y):=by cases y <;> rfl
@[go_sem] def U2 {y:D}:wk (.lst k l) y=(D.lst k l=y):=by cases y <;> rfl
@[go_sem] def zmD:wk .nil (.lst k l)=(0<k/\l=[]):=rfl
@[go_sem] def Sa:wk (.agg xs) (.agg ys)=iW xs ys:=rfl
@[go_sem] def zmF:wk (.tup xs) (.tup ys)=og xs ys:=rfl
@[go_sem] def zmG:iW [] []=True:=rfl
@[go_sem] def Zh {x y:D}:iW (x::xs) (y::ys)=(fQ x y/\iW xs ys):=rfl
@[go_sem] def QP:og [] []=True:=rfl
@[go_sem] def Ts {x y:D}:og (x::xs) (y::ys)=(fY x y/\og xs ys):=rfl
@[go_sem] def Uq {k:IntKind}{n:Int}{y:D}:fQ (.int k n) y=(D.int k n=y):=by cases y <;> rfl
@[go_sem] def Yb {b:Bool}{y:D}:fQ (.bool b) y=(D.bool b=y):=by cases y <;> rfl
@[go_sem] def V4 {y:D}:fQ (.lst k l) y=(D.lst k l=y):=by cases y <;> rfl
@[go_sem] def zmN:fQ .nil (.lst k l)=(0<k/\l=[]):=rfl
@[go_sem] def R0 {k:IntKind}{n:Int}{y:D}:fY (.int k n) y=(D.int k n=y):=by cases y <;> rfl
@[go_sem] def zmP {b:Bool}{y:D}:fY (.bool b) y=(D.bool b=y):=by cases y <;> rfl
@[go_sem] def Vo {y:D}:fY (.lst k l) y=(D.lst k l=y):=by cases y <;> rfl
@[go_sem] def TT:fY .nil (.lst k l)=(0<k/\l=[]):=rfl
@[go_sem] def R4:fY (.agg xs) (.agg ys)=iW xs ys:=rfl
def th {E : Env} (hT : bO E.P E.T) (hn : E.n = 0)   {c : Code}   {x : D} (fuel : Nat) (hf : E.P.funcs[f]? = some fn) (hb : fn.body = some c) (hnm : (fn.name == "runtime.NumGoroutine") = false) (hnt : fn.ntmps = nt) (hl : ds.length <= nt)
  (h:ct E fuel c [] (endsWith E.T fn (fun fr r H'=>qC x (pk H' 3 r))) ⟨nt,jw 0 (ds.map .d)⟩ []):Pure E.P f ds x:=by
 subst hnt;refine JN hT hf hb hnm hl ?_;have:=rl hT fuel h;rw[hn] at this;exact this
def MS {E : Env} (hT : bO E.P E.T) (hn : E.n = 0)   {c : Code}   {x : D} (fuel : Nat) (hf : E.P.funcs[f]? = some fn) (hb : fn.body = some c) (hnm : (fn.name == "runtime.NumGoroutine") = false) (hnt : fn.ntmps = nt) (hl : ds.length <= nt)
  (h:ct E fuel c [] (endsWith E.T fn (fun fr r H'=>ye x (view H' 3 r))) ⟨nt,jw 0 (ds.map .d)⟩ []):bk E.P f ds x:=by
 subst hnt;refine OM hT hf hb hnm hl ?_;have:=rl hT fuel h;rw[hn] at this;exact this
def aA {k:I->List R->Prop}{x:D}(h:Pure E.P f ds x) (hk:k (.d x) H):w9 E f ds H k:=⟨_,h.xB,fun y hy=>by rw[hy];exact .inl hk⟩
def Bj {k:I->List R->Prop}{ψ : D->Prop}(h:dM E.P f ds ψ) (hk : ∀ x,ψ x->k (.d x) H):w9 E f ds H k:=⟨_,h,fun y hy=>.inl (hk y hy)⟩
def kA {k:I->List R->Prop}{x:D}(h:bk E.P f ds x) (hk:k (.d x) H):yU E f ds H k:=⟨_,h.xB,fun y hy=>by rw[hy];exact hk⟩
def io {e:Bool}{k:I->Prop}{x:D}(h:e=true->Pure E.P f ds x) (hk:k (.cond e (.d x))):Bm E e f ds k:=⟨x,h,hk⟩
end Go.VL
namespace Go.VL
set_option linter.defProp false
variable {r:List (Nat×Nat×Bool)}{cs:List I}{g k m t i lo off g' k':Nat}{dp:Bool}{l l':List D}{es:List (D×D)}{x y:I}{v:Value}{H' K:List R}{b:D}
variable {E:Env}{Q:aX}{fr:Fr}{H:List R}{n:Nat}
variable {S:Nat->Prop}{φ : List (List Nat)}{w:World}
def eR:Nat->List R->List R
 | _,[]=>[]
 | 0,H=>H
 | n+1,r::H=>.dead r.gen::eR n H
@[go_sem] def zmT {H:List R}:eR 0 H=H:=by cases H <;> rfl
@[go_sem] def ZY {n:Nat}:eR n []=[]:=by cases n <;> rfl
@[go_sem] def zmV {n:Nat}{r:R}{H:List R}:eR (n+1) (r::H)=.dead r.gen::eR n H:=rfl
@[go_sem] def zmW:(R.box cs).gen=0:=rfl
@[go_sem] def VU {dp:DP}:(R.row g k dp l).gen=g:=rfl
@[go_sem] def zmY:(R.map es).gen=0:=rfl
@[go_sem] def S8:(R.dead g).gen=g:=rfl
def z3 : ∀ (n:Nat) (H:List R),(eR n H).length=H.length
 | 0,H=>by simp[go_sem]
 | n+1,[]=>rfl
 | n+1,r::H=>by simp[eR,z3 n H]
def Ew : ∀ (n:Nat) (H:List R) (i:Nat),i<n->i<H.length->∃ g,(eR n H)[i]?=some (.dead g)/\g=(H.getD i (.dead 0)).gen
 | 0,H,i,h,_=>by omega
 | n+1,[],i,_,h=>by simp at h
 | n+1,r::H,0,_,_=>⟨_,rfl,rfl⟩
 | n+1,r::H,i+1,h1,h2=>by simpa [eR] using Ew n H i (by omega) (by simpa using h2)
def B0 : ∀ (n:Nat) (H:List R) (i:Nat),n<=i->(eR n H)[i]?=H[i]?
 | 0,H,i,_=>by simp[go_sem]
 | n+1,[],i,_=>rfl
 | n+1,r::H,0,h=>by omega
 | n+1,r::H,i+1,h=>by simpa [eR] using B0 n H i (by omega)
def iV (n:Nat) (φ : List (List Nat)):List (List Nat):=(List.range φ.length).map fun i=>if i<n then [] else φ.getD i []
def qH (n:Nat) (φ : List (List Nat)) (i:Nat):(iV n φ).getD i []=if i<n then [] else φ.getD i []:=by
 simp only[iV,List.getD,List.getElem?_map];by_cases h:i < φ.length
 ·simp[h]
 ·simp[h]
def aK.kill (s:aK S φ H w) (n:Nat):aK S (iV n φ) (eR n H) w/\Tr H.length S φ H w S (iV n φ) (eR n H) w:=by
 have hfoot : ∀ b,aR (iV n φ) b->aR φ b:=by
  rintro b ⟨i,hi⟩;rw[qH] at hi;split at hi
  ·simp at hi
  ·exact⟨i,hi⟩
 have hsome : ∀ i r,(eR n H)[i]?=some r->(∃ g,r=.dead g)∨n<=i/\H[i]?=some r:=by
  intro i r hr;by_cases h:i<n
  ·have hl:=(List.getElem?_eq_some_iff.1 hr).1;rw[z3] at hl;obtain⟨g,hg,_⟩:=Ew n H i h hl;rw[hg] at hr;simp at hr;exact .inl ⟨g,hr.symm⟩
  ·rw[B0 n H i (by omega)] at hr;exact .inr ⟨by omega,hr⟩
 have htr:Tr H.length S φ H w S (iV n φ) (eR n H) w:=by
  refine⟨fun _ h=>h,fun _ _=>rfl,aC _,by rw[z3];exact aC _,?_,?_,?_,?_,?_⟩
  ·intro i hi;by_cases h:i<n
   ·obtain⟨g,hg,e⟩:=Ew n H i h hi;have:(eR n H).getD i (.dead 0)=.dead g:=by simp[List.getD,hg]
    rw[this,e];exact aC _
   ·have:(eR n H).getD i (.dead 0)=H.getD i (.dead 0):=by simp only[List.getD,B0 n H i (by omega)]
    rw[this];exact aC _
  ·intro i g k dp' l' hi hl';rcases hsome i _ hl' with⟨_,h⟩|⟨h,h2⟩
   ·cases h
   ·exact .inr ⟨dp',l',h2,by rw[qH,if_neg (by omega)],aC _,fun b rest arr ty e1 e2=>⟨arr,ty,e2,aC _⟩⟩
  ·intro i cs hi hl';rcases hsome i _ hl' with⟨_,h⟩|⟨h,h2⟩
   ·cases h
   ·exact⟨cs,h2,by rw[qH,if_neg (by omega)]⟩
  ·intro i cs hi hl';rcases hsome i _ hl' with⟨_,h⟩|⟨h,h2⟩
   ·cases h
   ·exact⟨cs,h2,by rw[qH,if_neg (by omega)]⟩
  ·intro i x hi hl';rcases hsome i _ hl' with⟨_,h⟩|⟨h,h2⟩
   ·cases h
   ·exact⟨h2,by rw[qH,if_neg (by omega)],fun _ _=>rfl⟩
 refine⟨⟨?_,?_,?_,fun b hb=>s.lt b (hfoot b hb),fun b hb=>s.off b (hfoot b hb),s.slt,?_⟩,htr⟩
 ·simp[iV,z3,s.len]
 ·intro i;rw[qH];split
  ·simp
  ·exact s.nd i
 ·intro i j b hb hb';rw[qH] at hb hb';split at hb
  ·simp at hb
  ·split at hb'
   ·simp at hb'
   ·exact s.dj i j b hb hb'
 ·intro i r hr;rcases hsome i r hr with⟨g,rfl⟩|⟨h,h2⟩
  ·trivial
  ·rw[qH,if_neg (by omega)];exact(s.rel i r h2).tr htr fun _ _=>rfl
def CO (s:aK S φ H w) {n:Nat}(hn:n<=H.length) (hH:jK n (H.take n)) :
  aK (fun b=>S b∨aR (iV n φ) b) (φ.take n) (H.take n) w/\Tr n S φ H w (fun b=>S b∨aR (iV n φ) b) (φ.take n) (H.take n) w/\Ext S φ w (fun b=>S b∨aR (iV n φ) b) (φ.take n) w:=by
 obtain⟨S1,φ1,s1,hf1,he1,ht1⟩:=a0.drop (n:=n) n (fr:=⟨0,[]⟩) (H:=H) (aC _) hn trivial hH S φ w { tmps:=#[],defers:=[] } hn s ⟨rfl,rfl,fun t=>.junk⟩;have hget : ∀ i,(φ.take n).getD i []=if i<n then φ.getD i [] else []:=by
  intro i;by_cases h:i<n
  ·rw[if_pos h,aJ _ _ _ _ h]
  ·rw[if_neg h];simp[List.getD,List.getElem?_take,h]
 have hfoot : ∀ b,aR (φ.take n) b->aR φ b/\¬ aR (iV n φ) b:=by
  rintro b ⟨i,hi⟩;rw[hget] at hi;split at hi
  ·refine⟨⟨i,hi⟩,?_⟩;rintro⟨j,hj⟩;rw[qH] at hj;split at hj
   ·simp at hj
   ·have:=s.dj i j b hi hj;omega
  ·simp at hi
 have hkill : ∀ b,aR (iV n φ) b->aR φ b:=by
  rintro b ⟨i,hi⟩;rw[qH] at hi;split at hi
  ·simp at hi
  ·exact⟨i,hi⟩
 have hsub:Tr n S φ H w (fun b=>S b∨aR (iV n φ) b) (φ.take n) (H.take n) w:=by
  refine⟨fun _ h=>.inl h,fun _ _=>rfl,hn,by simp;omega,fun i hi=>by rw[aJ _ _ _ _ hi];exact aC _,?_,?_,?_,?_⟩
  ·intro i g k dp' l' hi hl';rw[ki _ _ _ hi] at hl';exact .inr ⟨dp',l',hl',by rw[aJ _ _ _ _ hi],aC _,fun b rest arr ty e1 e2=>⟨arr,ty,e2,aC _⟩⟩
  ·intro i cs hi hl';rw[ki _ _ _ hi] at hl';exact⟨cs,hl',aJ _ _ _ _ hi⟩
  ·intro i cs hi hl';rw[ki _ _ _ hi] at hl';exact⟨cs,hl',aJ _ _ _ _ hi⟩
  ·intro i x hi hl';rw[ki _ _ _ hi] at hl';exact⟨hl',aJ _ _ _ _ hi,fun _ _=>rfl⟩
 refine⟨⟨by simp[s.len],?_,?_,fun b hb=>s.lt b (hfoot b hb).1,?_,?_,?_⟩,hsub,⟨rfl,rfl,rfl,aC _,fun _ _ _=>rfl,fun b hb=>.inl (hfoot b hb).1,fun _ h=>.inl h,?_⟩⟩
 ·intro i;rw[hget];split
  ·exact s.nd i
  ·simp
 ·intro i j b hb hb';rw[hget] at hb hb';split at hb
  ·split at hb'
   ·exact s.dj i j b hb hb'
   ·simp at hb'
  ·simp at hb
 ·intro b hb h;rcases h with h|h
  ·exact s.off b (hfoot b hb).1 h
  ·exact(hfoot b hb).2 h
 ·intro b h;rcases h with h|h
  ·exact s.slt b h
  ·exact s.lt b (hkill b h)
 ·intro i r hr;have hlt:i<n:=by
   have:=(List.getElem?_eq_some_iff.1 hr).1;simp at this;omega
  rw[hget,if_pos hlt];have hb:=zo hH i r hr;rw[ki _ _ _ hlt] at hr;have h1:=(s.rel i r hr).take hn s.len hb;have htr2:Tr (H.take n).length S (φ.take n) (H.take n) w (fun b=>S b∨aR (iV n φ) b) (φ.take n) (H.take n) w:=by
   refine⟨fun _ h=>.inl h,fun _ _=>rfl,aC _,aC _,fun _ _=>aC _,fun i g k dp' l' hi hl=>.inr ⟨dp',l',hl,rfl,aC _,fun b rest arr ty e1 e2=>⟨arr,ty,e2,aC _⟩⟩,
    fun i cs hi h=>⟨cs,h,rfl⟩,fun i es hi h=>⟨es,h,rfl⟩,fun i x hi h=>⟨h,rfl,fun _ _=>rfl⟩⟩
  exact h1.tr htr2 fun _ _=>rfl
 ·intro b h;rcases h with h|h
  ·exact .inl h
  ·exact .inr (.inl (hkill b h))
def cQ (K:List R) (x y:I):Prop:=
 match y with
 | .d b=>(match x with
  | .d a=>wk a b
  | _=>(match view K 3 x with|some (vc,a)=>vc/\wk a b|none=>False))
 | _=>x=y
def kD (K:List R) (fr:Fr):List (Nat×I)->Prop
 | []=>True
 | (t,x)::r=>cQ K (fr.get t) x/\kD K fr r
def dl:R->R->Prop
 | .row g k (.own []) l,.row g' k' .fz l'=>g=g'/\k=k'/\l=l'/\ar l=true
 | x,y=>x=y
def kP:List R->List R->Prop
 | _,[]=>True
 | x::r,y::s=>dl x y/\kP r s
 | [],_::_=>False
def fit (n nt:Nat) (fr:Fr) (H:List R) (m:List (Nat×I)) (H':List R):Prop:=
 fr.n=nt/\n<=H'.length/\kD (eR H'.length H) fr m/\kP H H'/\pV H'.length m/\jK H'.length H'
def pA {x y:R}(h:dl x y):x=y∨∃ g k l,x=.row g k (.own []) l/\y=.row g k .fz l/\ar l=true:=by
 unfold dl at h;split at h
 ·obtain⟨rfl,rfl,rfl,h⟩:=h;exact .inr ⟨_,_,_,rfl,rfl,h⟩
 ·exact .inl h
def Gv : ∀ {H H':List R},kP H H'->H'.length<=H.length/\∀ (i:Nat) (y:R),H'[i]?=some y->∃ x:R,H[i]?=some x/\dl x y
 | H,[],_=>by simp
 | x::r,y::s,h=>by
  obtain⟨h1,h2⟩:=Gv h.2;refine⟨by simp;omega,fun i z hz=>?_⟩;cases i with
  | zero=>simp at hz;subst hz;exact⟨x,rfl,h.1⟩
  | succ i=>simpa using h2 i z (by simpa using hz)
 | [],_::_,h=>h.elim
def Cy : ∀ {l:List D},ar l=true->∀ c∈flat l,c.scalar=true
 | [],_,c,hc=>by simp[flat] at hc
 | x::r,h,c,hc=>by
  simp only[ar,gN,lj] at h;simp only[flat,mA,fV] at hc;rcases hc with hc|hc
  ·exact h.1 c hc
  ·exact Cy h.2 c (by simpa [flat] using hc)
def HQ {w:World}{x:D}{fp:List Nat}(h:OW w x v fp) (hx:x.scalar=true):fp=[]:=by
 cases h <;> simp[D.scalar] at hx <;> rfl
def aK.dl (s:aK S φ H w) (hl:H'.length=H.length) (h : ∀ (i:Nat) (y:R),H'[i]?=some y->∃ x:R,H[i]?=some x/\dl x y):aK S φ H' w/\Tr H.length S φ H w S φ H' w:=by
 have htr:Tr H.length S φ H w S φ H' w:=by
  refine⟨fun _ h=>h,fun _ _=>rfl,aC _,by omega,?_,?_,?_,?_,?_⟩
  ·intro i hi;obtain⟨x,hx,hxy⟩:=h i (H'.getD i (.dead 0)) (by simp[List.getD,show i<H'.length by omega]);have e:H.getD i (.dead 0)=x:=by simp[List.getD,hx]
   rw[e];rcases pA hxy with h1|⟨g,k,l,h1,h2,_⟩
   ·rw[h1];exact aC _
   ·rw[h1,h2];exact aC _
  ·intro i g k dp' l' hi hl';obtain⟨x,hx,hxy⟩:=h i _ hl';rcases pA hxy with rfl|⟨g,k,l,rfl,h2,_⟩
   ·exact .inr ⟨dp',l',hx,rfl,aC _,fun b rest arr ty e1 e2=>⟨arr,ty,e2,aC _⟩⟩
   ·cases h2;exact .inr ⟨true,_,hx,rfl,aC _,fun b rest arr ty e1 e2=>⟨arr,ty,e2,aC _⟩⟩
  ·intro i cs hi hl';obtain⟨x,hx,hxy⟩:=h i _ hl';rcases pA hxy with rfl|⟨g,k,l,rfl,h2,_⟩
   ·exact⟨cs,hx,rfl⟩
   ·cases h2
  ·intro i cs hi hl';obtain⟨x,hx,hxy⟩:=h i _ hl';rcases pA hxy with rfl|⟨g,k,l,rfl,h2,_⟩
   ·exact⟨cs,hx,rfl⟩
   ·cases h2
  ·intro i z hi hl';obtain⟨x,hx,hxy⟩:=h i _ hl';rcases pA hxy with rfl|⟨g,k,l,rfl,h2,_⟩
   ·exact⟨hx,rfl,fun _ _=>rfl⟩
   ·cases h2
 refine⟨⟨by rw[s.len,hl],s.nd,s.dj,s.lt,s.off,s.slt,fun i y hy=>?_⟩,htr⟩;obtain⟨x,hx,hxy⟩:=h i y hy;rcases pA hxy with rfl|⟨g,k,l,rfl,rfl,hsc⟩
 ·exact(s.rel i _ hx).tr htr fun _ _=>rfl
 ·obtain⟨h1,h2,h3,h4,h5⟩:=s.rel i _ hx;refine⟨h1,h2,h3,h4,?_⟩;rcases h5 with h5|⟨b,rest,arr,ty,e1,e2,e3,F,hF,_,hr⟩
  ·exact .inl h5
  ·have hall:=Cy hsc;have hz : ∀ j,j<(flat l).length->F j=[]:=fun j hj=>HQ (hr j hj) (hall _ (av hj))
   refine .inr ⟨b,rest,arr,ty,e1,e2,e3,?_,fun j hj=>Co (hr j hj) (hall _ (av hj)) S⟩;rw[hF];refine List.flatMap_eq_nil_iff.2 fun j hj=>hz j (List.mem_range.1 hj)
def Bg (s:aK S φ H w) (hm:m<=H.length) (h:cQ (eR m H) x y) (hy:y.aI m) (hv:V S φ H w x v) :
  V (fun b=>S b∨aR (iV m φ) b) (φ.take m) (H.take m) w y v:=by
 have stay : ∀ {y:I},V S φ H w y v->y.aI m->V (fun b=>S b∨aR (iV m φ) b) (φ.take m) (H.take m) w y v:=by
  intro y hv hy;refine(hv.take hm s.len hy).tr ?_;exact⟨fun _ h=>.inl h,fun _ _=>rfl,aC _,aC _,fun _ _=>aC _,fun i g k dp' l' hi hl=>.inr ⟨dp',l',hl,rfl,aC _,fun b rest arr ty e1 e2=>⟨arr,ty,e2,aC _⟩⟩,
    fun i cs hi h=>⟨cs,h,rfl⟩,fun i es hi h=>⟨es,h,rfl⟩,fun i x hi h=>⟨h,rfl,fun _ _=>rfl⟩⟩
 unfold cQ at h;split at h
 ·rename_i b;split at h
  ·rename_i a;exact .d (pE h (hv.fz.mono (fun b hb=>.inl hb) fun _ _=>rfl))
  ·split at h
   ·rename_i vc a hvw;obtain⟨s1,t1⟩:=s.kill m;exact .d (pE h.2 (xu s1 3 (hv.tr t1) hvw h.1))
   ·exact h.elim
 ·rw[h] at hv;exact stay hv hy
def Dr {m:Nat}(s:aK S φ H w) (hm:m<=H.length) {fr:Fr}{a:Act}(hf:c7 S φ H w fr a) : ∀ (l:List (Nat×I)),kD (eR m H) fr l->pV m l->∀ t,V (fun b=>S b∨aR (iV m φ) b) (φ.take m) (H.take m) w (look t l) (a.tmps.getD t undef)
 | [],_,_,t=>.junk
 | (u,x)::r,h,hi,t=>by
  simp only[look];split
  ·rename_i hst;subst hst;exact Bg s hm h.1 hi.1 (hf.val u)
  ·exact Dr s hm hf r h.2 hi.2 t
def Mf {H:List R}(h : ∀ (i:Nat) (y:R),H'[i]?=some y->∃ x:R,H[i]?=some x/\Go.VL.dl x y) : ∀ (i:Nat) (y:R),H'[i]?=some y->∃ x:R,(H.take H'.length)[i]?=some x/\Go.VL.dl x y:=by
 intro i y hy;obtain⟨x,hx,hxy⟩:=h i y hy;exact⟨x,by rw[ki _ _ _ (List.getElem?_eq_some_iff.1 hy).1];exact hx,hxy⟩
def M8 (m:Nat) : ∀ {K:List R},K.length=H'.length->(∀ (i:Nat) (y:R),H'[i]?=some y->∃ x:R,K[i]?=some x/\Go.VL.dl x y)->jK m H'->jK m K:=by
 intro K;induction K generalizing H' with
 | nil=>intro _ _ _;trivial
 | cons x r ih=>
  intro hl h hi;cases H' with
  | nil=>simp at hl
  | cons y s=>
   obtain⟨x',hx,hxy⟩:=h 0 y rfl;simp at hx;subst hx;refine⟨?_,ih (by simpa using hl) (fun i z hz=>by simpa using h (i+1) z (by simpa using hz)) hi.2⟩;rcases pA hxy with rfl|⟨g,k,l,rfl,rfl,_⟩
   ·exact hi.1
   ·trivial
def Az {nt:Nat}{m:List (Nat×I)}(h:fit n nt fr H m H'):a0 n fr H ⟨nt,m⟩ H':=by
 obtain⟨h1,h2,h3,h4,h5,h6⟩:=h;obtain⟨e2,e1⟩:=Gv h4;have hl:(H.take H'.length).length=H'.length:=by simp;omega
 have e3:=Mf e1;intro S φ w a hn s hf;obtain⟨s2,t2,x2⟩:=CO s e2 (M8 _ hl e3 h6);obtain⟨s3,t3⟩:=s2.dl hl.symm e3;rw[hl] at t3;refine⟨_,_,s3,⟨hf.defers,hf.size.trans h1,fun t=>?_⟩,x2,(t2.trans t3).weaken h2⟩;have:=Dr s e2 hf m h3 h5 t;exact this.tr (by rw[hl];exact t3)
def nN:List (Nat×Nat×Bool)->Fr->List R->Fr×List R
 | [],fr,H=>(fr,H)
 | (t,k,dp)::r,fr,H=>nN r (fr.put (some t) (.sl H.length 0 k 0 0)) (H ++ [.row 0 k dp []])
def sE:List (Nat×Nat×Bool)->Fr->List R->Prop
 | [],_,_=>True
 | (t,k,dp)::r,fr,H=>fr.get t=.d .nil/\t<fr.n/\0<k/\sE r (fr.put (some t) (.sl H.length 0 k 0 0)) (H ++ [.row 0 k dp []])
def Aa : ∀ (l:List (Nat×Nat×Bool)) {fr:Fr}{H:List R},sE l fr H->a0 n fr H (nN l fr H).1 (nN l fr H).2
 | [],fr,H,_=>a0.refl n fr H
 | (t,k,dp)::r,fr,H,h=>(a0.own t k dp h.1 h.2.1 h.2.2.1).trans (Aa r h.2.2.2)
def yf (E:Env) (ks:List Item) (Q:aX) (f:Nat) {σ : Type}(nt:Nat) (F : σ->List (Nat×I)) (Hp : σ->List R) (inv : σ->Prop) (mu : σ->Nat) (s : σ):aX
 | .normal,fr,H=>∃ s',inv s'/\mu s'<mu s/\fit E.n nt fr H (F s') (Hp s')
 | .exit id,fr,H=>gw E f (iR id ks) id ks Q fr H
 | e,fr,H=>dG E ks Q e fr H
def ce (hT:bO E.P E.T) {σ : Type}(F : σ->List (Nat×I)) (Hp : σ->List R) (inv : σ->Prop) (mu : σ->Nat) (own:List (Nat×Nat×Bool)) (f1 f2:Nat) {ks:List Item}{c:Code}
  (hvc:sE own fr H) (h0 : ∃ s,inv s/\fit E.n fr.n (nN own fr H).1 (nN own fr H).2 (F s) (Hp s))
  (hr : ∀ s,inv s->ct E f1 c [] (yf E ks Q f2 fr.n F Hp inv mu s) ⟨fr.n,F s⟩ (Hp s)):cJ E.P E.n (.loop c) (dG E ks Q) fr H:=by
 obtain⟨s0,hi0,hf0⟩:=h0;refine DI (fun m fr' H'=>∃ s,inv s/\mu s=m/\fr'=⟨fr.n,F s⟩/\H'=Hp s) (mu s0) ⟨_,_,(Aa own hvc).trans (Az hf0),s0,hi0,rfl,rfl,rfl⟩ ?_;rintro m fr' H' ⟨s,hi,rfl,rfl,rfl⟩;refine zI (rl hT f1 (hr s hi)) ?_;intro e fr' H' hq;cases e with
 | normal=>
  obtain⟨s',hi',hmu,hfit⟩:=hq;exact⟨_,_,Az hfit,mu s',hmu,s',hi',rfl,rfl,rfl⟩
 | exit id=>
  simp only[yf] at hq;refine vD id ks ?_;generalize iR id ks=o at hq;match f2,o with
  | 0,_=>simp only[gw] at hq
  | f+1,some ks'=>
   simp only[gw] at hq;exact xS hT f hq
  | f+1,none=>
   simp only[gw] at hq;exact hq
 | goto l=>exact hq
 | ret=>exact hq
 | panic ch=>exact hq
 | outgrown=>exact hq
section rules
variable {σ : Type}{F : σ->List (Nat×I)}{Hp : σ->List R}{inv : σ->Prop}{mu : σ->Nat}{s : σ}{ks:List Item}{f nt:Nat}
@[go_sem] def qtC:yf E ks Q f nt F Hp inv mu s .normal fr H = ∃ s',inv s'/\mu s'<mu s/\fit E.n nt fr H (F s') (Hp s'):=rfl
@[go_sem] def Sk {id:Nat}:yf E ks Q f nt F Hp inv mu s (.exit id) fr H=gw E f (iR id ks) id ks Q fr H:=rfl
@[go_sem] def znb:yf E ks Q f nt F Hp inv mu s .ret fr H=dG E ks Q .ret fr H:=rfl
@[go_sem] def znc {m:List (Nat×I)}:fit n nt fr H m H'=(fr.n=nt/\n<=H'.length/\kD (eR H'.length H) fr m/\kP H H'/\pV H'.length m/\jK H'.length H'):=rfl
@[go_sem] def Yh:kD K fr []=True:=rfl
@[go_sem] def XG {r:List (Nat×I)}:kD K fr ((t,x)::r)=(cQ K (fr.get t) x/\kD K fr r):=rfl
def sv (b:D):Option (Prop×D)->Prop
 | some (vc,a)=>vc/\wk a b
 | none=>False
@[go_sem] def znf {a:D}{vc:Prop}:sv b (some (vc,a))=(vc/\wk a b):=rfl
def eU (K:List R) (x:I):I->Prop
 | .d b=>sv b (view K 3 x)
 | y=>x=y
@[go_sem] def zng:eU K x (.d b)=sv b (view K 3 x):=rfl
@[go_sem] def Z4 {n:Nat}:eU K x (.sl i g k lo n)=(x=.sl i g k lo n):=rfl
@[go_sem] def Tx {o:Nat}:eU K x (.ptr i o)=(x=.ptr i o):=rfl
@[go_sem] def ZM:eU K x (.agg cs)=(x=.agg cs):=rfl
@[go_sem] def Sq:eU K x (.tup cs)=(x=.tup cs):=rfl
@[go_sem] def znl:eU K x (.map i)=(x=.map i):=rfl
@[go_sem] def Uj {f:Nat}:eU K x (.fn f cs)=(x=.fn f cs):=rfl
def vV (hx : ∀ a,x≠.d a):cQ K x y=eU K x y:=by
 cases y <;> simp only[cQ,eU,sv]
@[go_sem] def ZW {x y:D}:cQ K (.d x) (.d y)=wk x y:=rfl
@[go_sem] def Pw {n:Nat}:cQ K (.sl i g k lo n) y=eU K (.sl i g k lo n) y:=vV nofun
@[go_sem] def Us:cQ K (.ptr i off) y=eU K (.ptr i off) y:=vV nofun
@[go_sem] def Xd:cQ K (.agg cs) y=eU K (.agg cs) y:=vV nofun
@[go_sem] def znr:kP H []=True:=by cases H <;> rfl
@[go_sem] def zns {x y:R}{r q:List R}:kP (x::r) (y::q)=(dl x y/\kP r q):=rfl
@[go_sem] def QO {dp:DP}:dl (.row g k dp l) (.row g' k' dp l')=(g=g'/\k=k'/\l=l'):=by cases dp <;> simp[dl]
@[go_sem] def ZZ:dl (.row g k (.own []) l) (.row g' k' .fz l')=(g=g'/\k=k'/\l=l'/\ar l=true):=rfl
@[go_sem] def VC {y:R}:dl (.box cs) y=(.box cs=y):=by cases y <;> rfl
@[go_sem] def znw {y:R}:dl (.map es) y=(.map es=y):=by cases y <;> rfl
@[go_sem] def znx:pV m []=True:=rfl
@[go_sem] def zny {r:List (Nat×I)}:pV m ((t,x)::r)=(x.aI m/\pV m r):=rfl
@[go_sem] def Wq:jK m []=True:=rfl
@[go_sem] def ZP {x:R}{r:List R}:jK m (x::r)=(x.aI m/\jK m r):=rfl
@[go_sem] def WJ:ly m []=True:=rfl
@[go_sem] def Rs {r:List I}:ly m (x::r)=(x.aI m/\ly m r):=rfl
@[go_sem] def Ql {x:D}:(I.d x).aI m=True:=by simp only[I.aI]
@[go_sem] def Qz {n:Nat}:(I.sl i g k lo n).aI m=(i<m):=by simp only[I.aI]
@[go_sem] def znF:(I.ptr i off).aI m=(i<m):=by simp only[I.aI]
@[go_sem] def Tf {idx:Nat}{z:D}:(I.eptr i g k idx off z).aI m=(i<m):=by simp only[I.aI]
@[go_sem] def znH:(I.agg cs).aI m=ly m cs:=by simp only[I.aI]
@[go_sem] def Rl:(I.map i).aI m=(i<m):=by simp only[I.aI]
@[go_sem] def P9 {f:Nat}:(I.fn f cs).aI m=ly m cs:=by simp only[I.aI]
@[go_sem] def znK:(R.box cs).aI m=ly m cs:=by simp only[R.aI]
@[go_sem] def TW:(R.row g k (.own []) l).aI m=True:=rfl
@[go_sem] def WU:(R.row g k .fz l).aI m=True:=rfl
@[go_sem] def znN {l:List (D×D)}:(R.map l).aI m=True:=by simp only[R.aI]
@[go_sem] def YO:(R.dead g).aI m=True:=by simp only[R.aI]
@[go_sem] def Wz:nN [] fr H=(fr,H):=rfl
@[go_sem] def znQ:nN ((t,k,dp)::r) fr H=nN r (fr.put (some t) (.sl H.length 0 k 0 0)) (H ++ [.row 0 k dp []]):=rfl
@[go_sem] def UE:sE [] fr H=True:=rfl
@[go_sem] def znS:sE ((t,k,dp)::r) fr H=(fr.get t=.d .nil/\t<fr.n/\0<k/\sE r (fr.put (some t) (.sl H.length 0 k 0 0)) (H ++ [.row 0 k dp []])):=rfl
end rules
attribute [go_sem] I.d.injEq I.sl.injEq I.ptr.injEq I.agg.injEq R.row.injEq R.box.injEq R.map.injEq D.int.injEq D.bool.injEq D.lst.injEq D.agg.injEq D.tup.injEq
def ae {n:Int}:cp .i64 n↔-9223372036854775808<=n/\n<=9223372036854775807:=Iff.rfl
def sR {n:Int}:cp .u64 n↔0<=n/\n<=18446744073709551615:=Iff.rfl
end Go.VL
namespace Go.VL
set_option linter.defProp false
variable {α β:Type}{k:IntKind}{l l':List Int}{i a b n:Nat}{x:Bool}
abbrev dI (n:Int):D:=.int .i64 n
abbrev dB (b:Bool):D:=.bool b
abbrev ai (l:List Int):D:=.lst 1 (l.map (D.int .i64))
abbrev mW (l:List Int):D:=.lst 1 (l.map (D.int .u8))
abbrev eZ (l:List Bool):D:=.lst 1 (l.map D.bool)
abbrev b9 (l:List (List Int)):D:=.lst 1 (l.map fun x=>ai x)
def BG (f : α->β) (l:List α) (i:Nat) (z : α):(l.map f).getD i (f z)=f (l.getD i z):=by
 simp[List.getD_eq_getElem?_getD,List.getElem?_map]
@[go_sem] def RP {z:Int}:(l.map (D.int k)).getD i (D.int k z)=D.int k (l.getD i z):=BG _ _ _ _
@[go_sem] def znU {l:List Bool}{z:Bool}:(l.map D.bool).getD i (D.bool z)=D.bool (l.getD i z):=BG _ _ _ _
def ck (f : α->β) (l:List α) (i:Nat) (z : β) (y : α) (h:i<l.length):(l.map f).getD i z=f (l.getD i y):=by
 simp[List.getD_eq_getElem?_getD,h]
attribute [go_sem] ie tZ List.nodup_nil cr fB
@[go_sem] def Va:((a:Int)<(b:Int))=(a<b):=by simp
@[go_sem] def TN:((a:Int)<=(b:Int))=(a<=b):=by simp
@[go_sem] def UB:((a:Int)=(b:Int))=(a=b):=propext Int.ofNat_inj
@[go_sem] def Ub:((0:Int)<=(a:Int))=True:=by simp
@[go_sem] def znZ:((a:Int)<0)=False:=by simp
@[go_sem] def S7:((a:Int)+1)=((a+1:Nat):Int):=by simp
attribute [go_sem] aC Int.le_refl and_false false_and not_false_eq_true ge_iff_le gt_iff_lt
def A1 {f : α->β}(hf : ∀ x y,f x=f y->x=y) {l l':List α}:(l.map f=l'.map f)=(l=l'):=by
 refine propext ⟨fun h=>?_,fun h=>by rw[h]⟩;induction l generalizing l' with
 | nil=>cases l' with
  | nil=>rfl
  | cons y r=>simp at h
 | cons x r ih=>cases l' with
  | nil=>simp at h
  | cons y r'=>
   simp only[jC,List.cons.injEq] at h;rw[hf _ _ h.1,ih h.2]
@[go_sem] def Vd:(l.map (D.int k)=l'.map (D.int k))=(l=l'):=A1 fun x y h=>by simpa using h
@[go_sem] def Ry {l l':List Bool}:(l.map D.bool=l'.map D.bool)=(l=l'):=A1 fun x y h=>by simpa using h
@[go_sem] def Vv {x:Int}:(l.map (D.int k)).set i (D.int k x)=(l.set i x).map (D.int k):=List.map_set.symm
@[go_sem] def UT {l:List Bool}:(l.map D.bool).set i (D.bool x)=(l.set i x).map D.bool:=List.map_set.symm
@[go_sem] def zof {x:Int}:l.map (D.int k) ++ [D.int k x]=(l ++ [x]).map (D.int k):=by simp
@[go_sem] def VD {l:List Bool}:l.map D.bool ++ [D.bool x]=(l ++ [x]).map D.bool:=by simp
@[go_sem] def zoh:l.map (D.int k)++l'.map (D.int k)=(l++l').map (D.int k):=by simp
@[go_sem] def UW {x:Int}:List.replicate n (D.int k x)=(List.replicate n x).map (D.int k):=by simp
@[go_sem] def PD:List.replicate n (D.bool x)=(List.replicate n x).map D.bool:=by simp
@[go_sem] def V2:(l.map (D.int k)).take n=(l.take n).map (D.int k):=by simp
@[go_sem] def zol {l:List Bool}:(l.map D.bool).take n=(l.take n).map D.bool:=by simp
def Li:(([]:List D)=l.map (D.int k))=(l=[]):=propext ⟨fun h=>by cases l with|nil=>rfl|cons x r=>simp at h,fun h=>by rw[h];rfl⟩
def Mq {l:List Bool}:(([]:List D)=l.map D.bool)=(l=[]):=propext ⟨fun h=>by cases l with|nil=>rfl|cons x r=>simp at h,fun h=>by rw[h];rfl⟩
attribute [go_sem] Li Mq
def FR {l:List α}(z : α) (h:i<l.length):l.drop i=l.getD i z::l.drop (i+1):=by
 rw[qQ h];simp[List.getD,h]
def oK {l l':List α}(z : α) (hl:l.length=l'.length) (h : ∀ j,j<l.length->l.getD j z=l'.getD j z):l=l':=by
 refine sq hl fun j h3 h4=>?_
 have:=h j h3;simpa [List.getD,h3,h4] using this
def xO {l:List α}{x : α}(z : α) (h:i<l.length):(l.set i x).getD i z=x:=by simp[List.getD,h]
def zl {l:List α}{j:Nat}{x : α}(z : α) (h:i≠j):(l.set i x).getD j z=l.getD j z:=by simp[List.getD,List.getElem?_set,h]
attribute [go_sem] beq_self_eq_true beq_iff_eq beq_eq_false_iff_ne Bool.true_eq_false not_false_eq_true imp_self iA List.drop_length List.nodup_cons List.not_mem_nil decide_true decide_false oD gN Bool.or_eq_false_iff Bool.and_eq_false_iff Int.one_mul Int.cast_ofNat_Int Int.add_zero Int.zero_add Int.sub_zero ms Nat.sub_zero Bool.or_false Bool.false_or Bool.or_true Bool.true_or Bool.not_not
attribute [go_sem] List.forall_mem_cons
end Go.VL

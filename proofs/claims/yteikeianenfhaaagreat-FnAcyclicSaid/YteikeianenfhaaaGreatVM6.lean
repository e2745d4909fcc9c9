/- Part 22: rewriting rules of memory operations, calls and results. Conditions: none; lemmas. -/
import Derived.Test.YteikeianenfhaaaGreatVM5
set_option linter.unusedVariables false
set_option linter.unusedSimpArgs false
set_option maxHeartbeats 2000000
namespace Go.VL
set_option linter.defProp false
variable {ti:TI}{x d:I}{xd z' kd x':D}{cs r caps args:List I}{i g k lo n off e fsz sz' t size j a len idx g' k' o m kt et b' t' bytes f nt:Nat}{vc vc' c:Prop}{fs:List (Nat×Nat)}{rest parts:List (Nat×I)}{xs l ds ys:List D}{dp:DP}{o2:Option (Prop×List R)}{hs:List (Nat×Nat×I)}{ok:Bool}{es:List (D×D)}{ty':Ty}{h:Hole}{K:I->List R->Prop}{fn:Func}{Po:Fr->I->List R->Prop}{ψ:D->Prop}
variable {E:Env}{Q:Post}{fr:Fr}{H:List R}{T:Nat->Option TI}{ty:Ty}{sz b:Nat}{z:D}
attribute [go_sem] true_and and_true eq_self if_true if_false true_implies imp_true_iff not_false_eq_true not_true_eq_false yai decide_eq_true_eq decide_eq_false_iff_not Bool.not_true Bool.not_false Bool.not_eq_true' Bool.not_eq_false' ite_true ite_false and_self implies_true false_implies ne_eq
def xCI (ty:Ty) (sz:Nat):Bool->I->Option (Prop×List I)
 | true,.d xd=>some (xd.cells.length=sz/\xd.one=false/\(∀ n,xd≠.tup n),(qaj xd 0 sz).map .d)
 | true,.agg cs=>some (cs.length=sz,cs)
 | false,.d xd=>some (sz=1/\xd.one=true,[.d xd])
 | false,.sl i g k lo n=>some (sz=1,[.sl i g k lo n])
 | false,.ptr i off=>some (sz=1,[.ptr i off])
 | false,.map i=>some (sz=1,[.map i])
 | false,.fn f caps=>some (sz=1,[.fn f caps])
 | _,_=>none
def qra:qbN ti x=xCI ti.ty ti.size ti.ty.agg x:=by
 unfold qbN;cases ti.ty.agg <;> cases x <;> rfl
@[go_sem] def ziJ:qbN ⟨ty,sz,b,z⟩ x=xCI ty sz ty.agg x:=qra
@[go_sem] def ziK:xCI ty sz true (.d xd)=some (xd.cells.length=sz/\xd.one=false/\(∀ n,xd≠.tup n),(qaj xd 0 sz).map .d):=rfl
@[go_sem] def ziL:xCI ty sz true (.agg cs)=some (cs.length=sz,cs):=rfl
@[go_sem] def ziM:xCI ty sz false (.d xd)=some (sz=1/\xd.one=true,[.d xd]):=rfl
@[go_sem] def ziN:xCI ty sz false (.sl i g k lo n)=some (sz=1,[.sl i g k lo n]):=rfl
@[go_sem] def ziO:setCells cs off []=cs:=rfl
@[go_sem] def qrb:setCells cs off (x::r)=setCells (cs.set off x) (off+1) r:=rfl
@[go_sem] def ziP {cs:List D}:setD cs off []=cs:=rfl
@[go_sem] def ziQ {cs:List D}{x:D}{r:List D}:setD cs off (x::r)=setD (cs.set off x) (off+1) r:=rfl
def xBox2 (H:List R):Option (Prop×List I)->Option (Prop×I×List R)
 | some (vc,cs)=>some (vc,.ptr H.length 0,H ++ [.box cs])
 | none=>none
def xBox1 (H:List R) (x:I):Option TI->Option (Prop×I×List R)
 | some ti=>xBox2 H (qbN ti x)
 | none=>none
@[go_sem] def ziR:sBox T H e x=xBox1 H x (T e):=by
 unfold sBox;cases T e with
 | none=>rfl
 | some ti=>simp only[xBox1];cases qbN ti x <;> rfl
@[go_sem] def ziS:xBox1 H x (some ⟨ty,sz,b,z⟩)=xBox2 H (qbN ⟨ty,sz,b,z⟩ x):=rfl
@[go_sem] def ziT:xBox2 H (some (vc,cs))=some (vc,.ptr H.length 0,H ++ [.box cs]):=rfl
def xAl (H:List R):Option TI->Option (Prop×I×List R)
 | some ti=>some (True,.ptr H.length 0,H ++ [.box ((qaj ti.zero 0 ti.size).map .d)])
 | none=>none
@[go_sem] def ziU:qh6 T H e=xAl H (T e):=by unfold qh6;cases T e <;> rfl
@[go_sem] def ziV:xAl H (some ⟨ty,sz,b,z⟩)=some (True,.ptr H.length 0,H ++ [.box ((qaj z 0 sz).map .d)]):=rfl
def qo9 (vc:Prop) (off fsz:Nat) (cs:List I):Option (Prop×List I)->Option (Prop×List I)
 | some (vc',r)=>some (vc/\off+fsz<=cs.length/\vc',r)
 | none=>none
def qm5 (T:Nat->Option TI) (fs:List (Nat×Nat)) (cs:List I) (rest:List (Nat×I)) (off fsz:Nat):Option (Prop×List I)->Option (Prop×List I)
 | some (vc,xs)=>qo9 vc off fsz cs (qeP T fs (setCells cs off xs) rest)
 | none=>none
def qm6 (T:Nat->Option TI) (fs:List (Nat×Nat)) (cs:List I) (rest:List (Nat×I)) (x:I) (off:Nat):Option TI->Option (Prop×List I)
 | some fi=>qm5 T fs cs rest off fi.size (qbN fi x)
 | none=>none
def qpa (T:Nat->Option TI) (fs:List (Nat×Nat)) (cs:List I) (rest:List (Nat×I)) (x:I):Option (Nat×Nat)->Option (Prop×List I)
 | some (off,ft)=>qm6 T fs cs rest x off (T ft)
 | none=>none
@[go_sem] def ziW:qeP T fs cs []=some (True,cs):=rfl
@[go_sem] def ziX:qeP T fs cs ((i,x)::rest)=qpa T fs cs rest x (nthF fs i):=by
 simp only[qeP,<-qkk];cases fs[i]? with
 | none=>rfl
 | some p=>
  obtain⟨off,ft⟩:=p;simp only[qpa];cases T ft with
  | none=>rfl
  | some fi=>
   simp only[qm6];cases qbN fi x with
   | none=>rfl
   | some q=>
    obtain⟨vc,xs⟩:=q;simp only[qm5];cases qeP T fs (setCells cs off xs) rest <;> rfl
@[go_sem] def ziY {ft:Nat}:qpa T fs cs rest x (some (off,ft))=qm6 T fs cs rest x off (T ft):=rfl
@[go_sem] def ziZ:qm6 T fs cs rest x off (some ⟨ty,sz,b,z⟩)=qm5 T fs cs rest off sz (qbN ⟨ty,sz,b,z⟩ x):=rfl
@[go_sem] def zja {xs:List I}:qm5 T fs cs rest off fsz (some (vc,xs))=qo9 vc off fsz cs (qeP T fs (setCells cs off xs) rest):=rfl
@[go_sem] def zjb:qo9 vc off fsz cs (some (vc',r))=some (vc/\off+fsz<=cs.length/\vc',r):=rfl
def xBd2 (T:Nat->Option TI) (fs:List (Nat×Nat)):Option (Prop×List I)->Option (Prop×I)
 | some (vc,cs)=>some (vc/\qcc cs/\fs.all (fun f=>(T f.2).isSome)=true,mkAgg cs)
 | none=>none
def xBd4:Option (Prop×List I)->Option (Prop×I)
 | some (vc,cs)=>some (vc/\qcc cs,mkAgg cs)
 | none=>none
@[go_sem] def zjc:xBd4 (some (vc,cs))=some (vc/\qcc cs,mkAgg cs):=rfl
def xBd3 (T:Nat->Option TI) (n e sz:Nat) (z:D) (parts:List (Nat×I)):Option TI->Option (Prop×I)
 | some ei=>xBd4 (qeP T (arrF n e ei.size) ((qaj z 0 sz).map .d) parts)
 | none=>none
@[go_sem] def zjd {ty:Ty}{sz b:Nat}{z:D}:xBd3 T n e sz' z' parts (some ⟨ty,sz,b,z⟩)=xBd4 (qeP T (arrF n e sz) ((qaj z' 0 sz').map .d) parts):=rfl
@[go_sem] def zje {sz:Nat}:nthF (arrF n e sz) i=if i<n then some (i*sz,e) else none:=by rw[<-qkk,qmT]
def xBd1 (T:Nat->Option TI) (parts:List (Nat×I)):Option TI->Option (Prop×I)
 | some ⟨.struct fs,sz,_,z⟩=>xBd2 T fs (qeP T fs ((qaj z 0 sz).map .d) parts)
 | some ⟨.array n e,sz,_,z⟩=>xBd3 T n e sz z parts (T e)
 | _=>none
@[go_sem] def zjf:qjn T t parts=xBd1 T parts (T t):=by
 unfold qjn;cases T t with
 | none=>rfl
 | some ti=>
  obtain⟨ty,sz,b,z⟩:=ti;cases ty with
  | struct fs=>
   simp only[xBd1];cases qeP T fs ((qaj z 0 sz).map .d) parts <;> rfl
  | array n e=>
   simp only[xBd1];cases T e with
   | none=>rfl
   | some ei=>
    simp only[xBd3];cases qeP T (arrF n e ei.size) ((qaj z 0 sz).map .d) parts <;> rfl
  | _=>rfl
@[go_sem] def zjg:xBd1 T parts (some ⟨.array n e,sz,b,z⟩)=xBd3 T n e sz z parts (T e):=rfl
@[go_sem] def zjh:xBd1 T parts (some ⟨.struct fs,sz,b,z⟩)=xBd2 T fs (qeP T fs ((qaj z 0 sz).map .d) parts):=rfl
@[go_sem] def zji:xBd2 T fs (some (vc,cs))=some (vc/\qcc cs/\fs.all (fun f=>(T f.2).isSome)=true,mkAgg cs):=rfl
attribute [go_sem] List.all_cons List.all_nil Option.isSome_some
def xLP (i j size:Nat) (x:D):Option (Prop×List D)->Option (Prop×List D)
 | some (vc,l)=>some (j=i/\x.cells.length=size/\x.notTup/\vc,x::l)
 | none=>none
@[go_sem] def qsA:qbC size i []=some (True,[]):=rfl
@[go_sem] def qrc {x:D}{r:List (Nat×I)}:qbC size i ((j,.d x)::r)=xLP i j size x (qbC size (i+1) r):=by
 simp only[qbC];cases qbC size (i+1) r <;> rfl
@[go_sem] def zjj {r:List (Nat×I)}:qbC size i ((j,.sl a g k lo n)::r)=none:=rfl
@[go_sem] def zjk {x:D}:xLP i j size x (some (vc,l))=some (j=i/\x.cells.length=size/\x.notTup/\vc,x::l):=rfl
def qrd (H:List R) (len size:Nat):Option (Prop×List D)->Option (Prop×I×List R)
 | some (vc,l)=>some (vc/\l.length=len/\0<size/\len*size<=1000,.sl H.length 0 size 0 l.length,H ++ [.row 0 size (scalars l) l])
 | none=>none
def qre (H:List R) (len:Nat) (parts:List (Nat×I)):Option TI->Option (Prop×I×List R)
 | some ei=>qrd H len ei.size (qbC ei.size 0 parts)
 | none=>none
def xLit1 (T:Nat->Option TI) (H:List R) (len:Nat) (parts:List (Nat×I)):Option TI->Option (Prop×I×List R)
 | some ⟨.slice e,_,_,_⟩=>qre H len parts (T e)
 | _=>none
@[go_sem] def zjl:sLit T H t len parts=xLit1 T H len parts (T t):=by
 unfold sLit;cases T t with
 | none=>rfl
 | some ti=>
  obtain⟨ty,sz,b,z⟩:=ti;cases ty with
  | slice e=>
   simp only[xLit1];cases T e with
   | none=>rfl
   | some ei=>simp only[qre];cases qbC ei.size 0 parts <;> rfl
  | _=>rfl
@[go_sem] def zjm:xLit1 T H len parts (some ⟨.slice e,sz,b,z⟩)=qre H len parts (T e):=rfl
@[go_sem] def zjn:qre H len parts (some ⟨ty,sz,b,z⟩)=qrd H len sz (qbC sz 0 parts):=rfl
@[go_sem] def zjo:qrd H len size none=none:=rfl
@[go_sem] def zjp:qrd H len size (some (vc,l))=some (vc/\l.length=len/\0<size/\len*size<=1000,.sl H.length 0 size 0 l.length,H ++ [.row 0 size (scalars l) l]):=rfl
@[go_sem] def zjq:scalars []=true:=rfl
@[go_sem] def qsB {x:D}{r:List D}:scalars (x::r)=(x.cells.all D.scalar&&scalars r):=rfl
attribute [go_sem] Bool.and_true Bool.true_and Bool.and_self Bool.false_and Bool.and_false
def xMk2 (H:List R) (l c:D):Option TI->Option (Prop×I×List R)
 | some ei=>some (l.isInt .i64/\c.isInt .i64/\0<=l.toInt/\l.toInt<=c.toInt/\(ei.bytes:Int)*c.toInt<=281474976710656/\0<ei.bytes/\0<ei.size,
   .sl H.length 0 ei.size 0 l.toInt.toNat,H ++ [.row 0 ei.size (.own []) (List.replicate l.toInt.toNat ei.zero)])
 | none=>none
def xMk1 (T:Nat->Option TI) (H:List R):Option TI->I->I->Option (Prop×I×List R)
 | some ⟨.slice e,_,_,_⟩,.d l,.d c=>xMk2 H l c (T e)
 | _,_,_=>none
@[go_sem] def zjr {l c:I}:ql6 T H t l c=xMk1 T H (T t) l c:=by
 unfold ql6;cases T t with
 | none=>rfl
 | some ti=>
  obtain⟨ty,sz,b,z⟩:=ti;cases ty <;> cases l <;> cases c <;> first
   | rfl
   | (rename_i e _ _;simp only[xMk1];cases T e <;> rfl)
@[go_sem] def zjs {l c:D}:xMk1 T H (some ⟨.slice e,sz,b,z⟩) (.d l) (.d c)=xMk2 H l c (T e):=rfl
@[go_sem] def zjt {l c:D}:xMk2 H l c (some ⟨ty,sz,b,z⟩)=some (l.isInt .i64/\c.isInt .i64/\0<=l.toInt/\l.toInt<=c.toInt/\(b:Int)*c.toInt<=281474976710656/\0<b/\0<sz,
   .sl H.length 0 sz 0 l.toInt.toNat,H ++ [.row 0 sz (.own []) (List.replicate l.toInt.toNat z)]):=rfl
def xCD:Bool->Nat->I->Option (Prop×List D)
 | true,sz,.d xd=>some (xd.cells.length=sz/\xd.one=false/\(∀ n,xd≠.tup n),qaj xd 0 sz)
 | false,sz,.d xd=>some (sz=1/\xd.one=true,[xd])
 | _,_,_=>none
def qrf:cellsD ti x=xCD ti.ty.agg ti.size x:=by
 unfold cellsD;cases ti.ty.agg <;> cases x <;> rfl
@[go_sem] def zju:xCD true sz (.d xd)=some (xd.cells.length=sz/\xd.one=false/\(∀ n,xd≠.tup n),qaj xd 0 sz):=rfl
@[go_sem] def zjv:xCD false sz (.d xd)=some (sz=1/\xd.one=true,[xd]):=rfl
def xSt3 (H:List R) (i off sz:Nat) (cs:List I):Option (Prop×List I)->Option (Prop×List R)
 | some (vc,xs)=>some (vc/\off+sz<=cs.length,H.set i (.box (setCells cs off xs)))
 | none=>none
def xSt2 (H:List R) (i off:Nat) (ti:TI) (x:I):Option R->Option (Prop×List R)
 | some (.box cs)=>xSt3 H i off ti.size cs (qbN ti x)
 | _=>none
def xSt5 (H:List R) (i g k idx off:Nat) (z:D) (sz g' k':Nat) (dp:DP) (l:List D) (o2:Option (Prop×List R)):Bool->Option (Prop×List D)->Option (Prop×List R)
 | true,some (vc,xs)=>some (vc/\g=g'/\k=k'/\idx<l.length/\off=0/\sz=1/\(dp.o=true->(l.getD idx z).scalar=true/\(xs.getD 0 .nil).scalar=true),H.set i (.row g' k' dp (l.set idx (xs.getD 0 .nil))))
 | false,some (vc,xs)=>some (vc/\g=g'/\k=k'/\idx<l.length/\off+sz<=k/\1<k/\(dp.o=true->(∀ c∈qaj (l.getD idx z) off sz,c.scalar=true)/\(∀ c∈xs,c.scalar=true)),
      H.set i (.row g' k' dp (l.set idx (.agg (setD (qaj (l.getD idx z) 0 k) off xs)))))
 | _,none=>o2
def xSt6 (H:List R) (i g k idx off:Nat) (z:D) (sz g' k':Nat) (l:List D) (hs:List (Nat×Nat×I)):Bool->Option (Prop×List I)->Option (Prop×List R)
 | true,some (vc,xs)=>some (vc/\g=g'/\k=k'/\idx<l.length/\off=0/\sz=1/\qcN xs/\qd8 idx off sz hs,H.set i (.row g' k' (.own (qaU idx off xs)) (l.set idx (qbV (xs.getD 0 .junk)))))
 | false,some (vc,xs)=>some (vc/\g=g'/\k=k'/\idx<l.length/\off+sz<=k/\1<k/\qcN xs/\qd8 idx off sz hs,
       H.set i (.row g' k' (.own (qaU idx off xs)) (l.set idx (.agg (setD (qaj (l.getD idx z) 0 k) off (xs.map qbV))))))
 | _,none=>none
def xSt7 (H:List R) (i g k idx off:Nat) (z:D) (ti:TI) (g' k':Nat) (l:List D) (x:I):DP->Option (Prop×List R)
 | .own hs=>xSt6 H i g k idx off z ti.size g' k' l hs (decide (k=1)) (qbN ti x)
 | _=>none
def xSt4 (H:List R) (i g k idx off:Nat) (z:D) (ti:TI) (x:I):Option R->Option (Prop×List R)
 | some (.row g' k' dp l)=>xSt5 H i g k idx off z ti.size g' k' dp l (xSt7 H i g k idx off z ti g' k' l x dp) (decide (k=1)) (cellsD ti x)
 | _=>none
def xSt1 (H:List R) (p x:I):Option TI->Option (Prop×List R)
 | some ti=>match p with
  | .ptr i off=>xSt2 H i off ti x (qat H i)
  | .eptr i g k idx off z=>xSt4 H i g k idx off z ti x (qat H i)
  | _=>none
 | none=>none
@[go_sem] def zjw {p:I}:qh8 T H t p x=xSt1 H p x (T t):=by
 unfold qh8;cases T t with
 | none=>cases p <;> rfl
 | some ti=>
  cases p <;> simp only[xSt1,<-qaA]
  ·rename_i i off;cases H[i]? with
   | none=>rfl
   | some r=>
    cases r <;> simp only[xSt2]
    rename_i cs;cases qbN ti x <;> rfl
  ·rename_i i g k idx off z;cases H[i]? with
   | none=>rfl
   | some r=>
    cases r <;> simp only[xSt4]
    rename_i g' k' dp l;cases cellsD ti x with
    | none=>
     simp only[xSt5];rcases dp with _|hs
     ·rfl
     ·simp only[xSt7];cases qbN ti x with
      | none=>simp only[xSt6]
      | some q=>obtain⟨vc,xs⟩:=q;cases decide (k=1) <;> rfl
    | some q=>obtain⟨vc,xs⟩:=q;cases decide (k=1) <;> rfl
@[go_sem] def zjx:xSt1 H (.ptr i off) x (some ⟨ty,sz,b,z⟩)=xSt2 H i off ⟨ty,sz,b,z⟩ x (qat H i):=rfl
@[go_sem] def zjy:xSt2 H i off ⟨ty,sz,b,z⟩ x (some (.box cs))=xSt3 H i off sz cs (qbN ⟨ty,sz,b,z⟩ x):=rfl
@[go_sem] def zjz {xs:List I}:xSt3 H i off sz cs (some (vc,xs))=some (vc/\off+sz<=cs.length,H.set i (.box (setCells cs off xs))):=rfl
@[go_sem] def zjA:xSt1 H (.eptr i g k idx off z') x (some ⟨ty,sz,b,z⟩)=xSt4 H i g k idx off z' ⟨ty,sz,b,z⟩ x (qat H i):=rfl
@[go_sem] def zjB:xSt4 H i g k idx off z' ⟨ty,sz,b,z⟩ x (some (.row g' k' dp l))=xSt5 H i g k idx off z' sz g' k' dp l (xSt7 H i g k idx off z' ⟨ty,sz,b,z⟩ g' k' l x dp) (decide (k=1)) (xCD ty.agg sz x):=by
 simp only[xSt4,qrf]
@[go_sem] def zjC:xSt5 H i g k idx off z' sz g' k' dp l o2 true (some (vc,xs)) =
  some (vc/\g=g'/\k=k'/\idx<l.length/\off=0/\sz=1/\(dp.o=true->(l.getD idx z').scalar=true/\(xs.getD 0 .nil).scalar=true),H.set i (.row g' k' dp (l.set idx (xs.getD 0 .nil)))):=rfl
@[go_sem] def zjD:xSt5 H i g k idx off z' sz g' k' dp l o2 false (some (vc,xs)) =
  some (vc/\g=g'/\k=k'/\idx<l.length/\off+sz<=k/\1<k/\(dp.o=true->(∀ c∈qaj (l.getD idx z') off sz,c.scalar=true)/\(∀ c∈xs,c.scalar=true)),
      H.set i (.row g' k' dp (l.set idx (.agg (setD (qaj (l.getD idx z') 0 k) off xs))))):=rfl
@[go_sem] def zjE {bb:Bool}:xSt5 H i g k idx off z' sz g' k' dp l o2 bb none=o2:=by cases bb <;> rfl
@[go_sem] def zjF:xSt7 H i g k idx off z' ⟨ty,sz,b,z⟩ g' k' l x (.own hs)=xSt6 H i g k idx off z' sz g' k' l hs (decide (k=1)) (qbN ⟨ty,sz,b,z⟩ x):=rfl
@[go_sem] def zjG:xSt7 H i g k idx off z' ⟨ty,sz,b,z⟩ g' k' l x .fz=none:=rfl
@[go_sem] def zjH {xs:List I}:xSt6 H i g k idx off z' sz g' k' l hs true (some (vc,xs))=some (vc/\g=g'/\k=k'/\idx<l.length/\off=0/\sz=1/\qcN xs/\qd8 idx off sz hs,H.set i (.row g' k' (.own (qaU idx off xs)) (l.set idx (qbV (xs.getD 0 .junk))))):=rfl
@[go_sem] def zjI:qd8 idx off n []=True:=rfl
@[go_sem] def zjJ {b:Nat}{r:List (Nat×Nat×I)}:qd8 idx off n ((a,b,x)::r)=((a=idx/\off<=b/\b<off+n)/\qd8 idx off n r):=rfl
@[go_sem] def zjK {xs:List I}:xSt6 H i g k idx off z' sz g' k' l hs false (some (vc,xs))=some (vc/\g=g'/\k=k'/\idx<l.length/\off+sz<=k/\1<k/\qcN xs/\qd8 idx off sz hs,
       H.set i (.row g' k' (.own (qaU idx off xs)) (l.set idx (.agg (setD (qaj (l.getD idx z') 0 k) off (xs.map qbV)))))):=rfl
@[go_sem] def zjL:xCD true sz (.agg cs)=none:=rfl
@[go_sem] def zjM:qcN []=True:=rfl
@[go_sem] def zjN:qcN (x::r)=(qkV x/\qcN r):=rfl
@[go_sem] def zjO {x:D}:qkV (.d x)=(x.scalar=true):=rfl
@[go_sem] def zjP:qkV (.sl i g k lo n)=True:=rfl
@[go_sem] def zjQ {x:D}:qbV (.d x)=x:=rfl
@[go_sem] def zjR:qbV (.sl i g k lo n)=.lst 1 []:=rfl
@[go_sem] def zjS:qaU idx o []=[]:=rfl
@[go_sem] def zjT {x:D}:qaU idx o (.d x::r)=qaU idx (o+1) r:=rfl
@[go_sem] def zjU:qaU idx o (.sl i g k lo n::r)=(idx,o,.sl i g k lo n)::qaU idx (o+1) r:=rfl
def xLiO3 (H:List R) (i len sz:Nat) (agg:Bool):Option (Prop×List I)->Option (Prop×I×List R)
 | some (vc,cs)=>some (vc/\i=0/\len=1/\0<sz/\sz<=1000/\qcN cs,.sl H.length 0 sz 0 1,H ++ [.row 0 sz (.own (qaU 0 0 cs)) [litD agg cs]])
 | none=>none
def qrg (H:List R) (i len:Nat) (x:I):Option TI->Option (Prop×I×List R)
 | some ei=>xLiO3 H i len ei.size ei.ty.agg (qbN ei x)
 | none=>none
def xLiO1 (T:Nat->Option TI) (H:List R) (i len:Nat) (x:I):Option TI->Option (Prop×I×List R)
 | some ⟨.slice e,_,_,_⟩=>qrg H i len x (T e)
 | _=>none
@[go_sem] def zjV:qmj T H t len i x=xLiO1 T H i len x (T t):=by
 unfold qmj;cases T t with
 | none=>rfl
 | some ti=>
  obtain⟨ty,sz,b,z⟩:=ti;cases ty with
  | slice e=>
   simp only[xLiO1];cases T e with
   | none=>rfl
   | some ei=>simp only[qrg];cases qbN ei x <;> rfl
  | _=>rfl
@[go_sem] def zjW:xLiO1 T H i len x (some ⟨.slice e,sz,b,z⟩)=qrg H i len x (T e):=rfl
@[go_sem] def zjX:qrg H i len x (some ⟨ty,sz,b,z⟩)=xLiO3 H i len sz ty.agg (qbN ⟨ty,sz,b,z⟩ x):=rfl
@[go_sem] def zjY {agg:Bool}:xLiO3 H i len sz agg (some (vc,cs))=some (vc/\i=0/\len=1/\0<sz/\sz<=1000/\qcN cs,.sl H.length 0 sz 0 1,H ++ [.row 0 sz (.own (qaU 0 0 cs)) [litD agg cs]]):=rfl
@[go_sem] def zjZ:litD true cs=.agg (cs.map qbV):=rfl
@[go_sem] def zka:litD false cs=qbV (cs.getD 0 .junk):=rfl
@[go_sem] def qsC {r:List (Nat×I)}:qbC size i ((j,.agg cs)::r)=none:=rfl
def xLk2 (T:Nat->Option TI) (kd:D) (ok:Bool):Option R->Option TI->Option TI->Option (Prop×I)
 | some (.map es),some kti,some eti=>some (qeu T kti.ty/\qb5 kti.ty kd/\qbH kti.ty es,
    if ok=true then .d (.tup [(qc0 es kd).getD eti.zero,.bool (qc0 es kd).isSome]) else .d ((qc0 es kd).getD eti.zero))
 | _,_,_=>none
def xLk1 (T:Nat->Option TI) (H:List R) (m k:I) (ok:Bool):Option TI->Option (Prop×I)
 | some ⟨.map kt et,_,_,_⟩=>match m,k with
  | .map i,.d kd=>xLk2 T kd ok (qat H i) (T kt) (T et)
  | _,_=>none
 | _=>none
@[go_sem] def zkb {m k:I}:qfP T H t m k ok=xLk1 T H m k ok (T t):=by
 unfold qfP;cases T t with
 | none=>rfl
 | some ti=>
  obtain⟨ty,sz,b,z⟩:=ti;cases ty with
  | map kt et=>
   cases m <;> first|rfl|skip
   cases k <;> first|rfl|skip
   rename_i i kd;simp only[xLk1,qaA];cases qat H i with
   | none=>rfl
   | some r=>
    cases r <;> first|rfl|skip
  | _=>cases m <;> rfl
@[go_sem] def zkc:xLk1 T H (.map i) (.d kd) ok (some ⟨.map kt et,sz,b,z⟩)=xLk2 T kd ok (qat H i) (T kt) (T et):=rfl
@[go_sem] def zkd:xLk2 T kd true (some (.map es)) (some ⟨ty,sz,b,z⟩) (some ⟨ty',sz',b',z'⟩) =
  some (qeu T ty/\qb5 ty kd/\qbH ty es,.d (.tup [(qc0 es kd).getD z',.bool (qc0 es kd).isSome])):=rfl
@[go_sem] def zke:xLk2 T kd false (some (.map es)) (some ⟨ty,sz,b,z⟩) (some ⟨ty',sz',b',z'⟩) =
  some (qeu T ty/\qb5 ty kd/\qbH ty es,.d ((qc0 es kd).getD z')):=rfl
def xMm (H:List R):Option TI->Option (Prop×I×List R)
 | some ⟨.map _ _,_,_,_⟩=>some (True,.map H.length,H ++ [.map []])
 | _=>none
@[go_sem] def zkf:qex T H t=xMm H (T t):=by
 unfold qex;cases T t with
 | none=>rfl
 | some ti=>obtain⟨ty,sz,b,z⟩:=ti;cases ty <;> rfl
@[go_sem] def zkg:xMm H (some ⟨.map kt et,sz,b,z⟩)=some (True,.map H.length,H ++ [.map []]):=rfl
def xMu2 (T:Nat->Option TI) (H:List R) (i:Nat) (kd xd:D):Option R->Option TI->Option (Prop×List R)
 | some (.map es),some kti=>some (qeu T kti.ty/\qb5 kti.ty kd/\qbH kti.ty es/\qid xd=true,H.set i (.map (updD es kd xd)))
 | _,_=>none
def xMu1 (T:Nat->Option TI) (H:List R) (m k x:I):Option TI->Option (Prop×List R)
 | some ⟨.map kt _,_,_,_⟩=>match m,k,x with
  | .map i,.d kd,.d xd=>xMu2 T H i kd xd (qat H i) (T kt)
  | _,_,_=>none
 | _=>none
@[go_sem] def qrh {m k:I}:qb6 T H t m k x=xMu1 T H m k x (T t):=by
 unfold qb6;cases T t with
 | none=>rfl
 | some ti=>
  obtain⟨ty,sz,b,z⟩:=ti;cases ty with
  | map kt et=>
   cases m <;> first|rfl|skip
   cases k <;> first|rfl|skip
   cases x <;> first|rfl|skip
   rename_i i kd xd;simp only[xMu1,qaA];cases qat H i with
   | none=>rfl
   | some r=>
    cases r <;> first|rfl|skip
  | _=>cases m <;> rfl
@[go_sem] def zkh:xMu1 T H (.map i) (.d kd) (.d xd) (some ⟨.map kt et,sz,b,z⟩)=xMu2 T H i kd xd (qat H i) (T kt):=rfl
@[go_sem] def zki:xMu2 T H i kd xd (some (.map es)) (some ⟨ty,sz,b,z⟩)=some (qeu T ty/\qb5 ty kd/\qbH ty es/\qid xd=true,H.set i (.map (updD es kd xd))):=rfl
@[go_sem] def zkj {k:IntKind}:qeu T (.int k)=True:=rfl
@[go_sem] def qsD:qeu T (.struct fs)=qfG T 0 fs:=rfl
@[go_sem] def zkk {k:IntKind}{x:D}:qb5 (.int k) x=x.isInt k:=rfl
@[go_sem] def qsE {cs:List D}:qb5 (.struct fs) (.agg cs)=(cs.length=fs.length/\intCells cs):=rfl
@[go_sem] def zkl {ty:Ty}:qbH ty []=True:=rfl
@[go_sem] def zkm {k v:D}:updD [] k v=[(k,v)]:=rfl
@[go_sem] def zkn {k:IntKind}{n:Int}:qid (.int k n)=true:=rfl
@[go_sem] def zko {b:Bool}:qid (.bool b)=true:=rfl
attribute [go_sem] yav ybg Option.isSome_none Option.isSome_some
def qfn {x:D×D}{r:List (D×D)}{k:D}:qc0 (x::r) k=if qfx k x.1=true then some x.2 else qc0 r k:=rfl
def qdx {k:IntKind}{a b:Int}:qfx (.int k a) (.int k b)=decide (a=b):=rfl
def qld {k:IntKind}{a b c d:Int}:qfx (.agg [.int k a,.int k b]) (.agg [.int k c,.int k d])=decide (a=c/\b=d):=by
 simp only[qfx,qd4,D.toInt,Bool.and_true];by_cases h1:a=c <;> by_cases h2:b=d <;> simp[h1,h2]
def qri (size g k lo n:Nat):Option R->Option (Prop×List D)
 | some (.row g' k' dp l)=>some (g=g'/\k=k'/\k=size/\(dp.o=true->scalars ((l.drop lo).take n)=true),(l.drop lo).take n)
 | _=>none
@[go_sem] def zkp:srcD H size (.d xd)=some (xd.isLst size/\0<size,xd.elems):=rfl
@[go_sem] def srcD_sl:srcD H size (.sl i g k lo n)=qri size g k lo n (qat H i):=by
 simp only[srcD,qaA];cases qat H i with
 | none=>rfl
 | some r=>cases r <;> rfl
def xAp4 (H:List R) (i g k lo n:Nat) (c:Prop) (size bytes:Nat) (xs:List D):Option R->Option (Prop×I×List R)
 | some (.row g' k' dp l)=>some (c/\g=g'/\k=k'/\k=size/\lo=0/\n=l.length/\dp.shut=true/\(dp.o=true->appC l (scalars xs))/\(n+xs.length)*bytes<=140737488355328/\0<bytes,
        .sl i (g+1) k 0 (n+xs.length),H.set i (.row (g+1) k (qfS dp l (scalars xs)) (l++xs)))
 | _=>none
def xAp5 (H:List R) (i g k lo n:Nat) (c:Prop) (size bytes:Nat) (xs:List D) (hs:List Hole):Option R->Option (Prop×I×List R)
 | some (.row g' k' (.own []) l)=>some (c/\g=g'/\k=k'/\k=size/\lo=0/\n=l.length/\(n+xs.length)*bytes<=140737488355328/\0<bytes,
        .sl i (g+1) k 0 (n+xs.length),H.set i (.row (g+1) k (.own (qd9 l.length hs)) (l++xs)))
 | _=>none
def xAp3 (H:List R) (t t' size bytes:Nat) (d:I):Option (Prop×List D×List Hole)->Option (Prop×I×List R)
 | some (vc,xs,[])=>match d with
  | .d .nil=>some ((t=t'/\vc)/\0<size/\xs.length*bytes<=140737488355328/\0<bytes,.sl H.length 0 size 0 xs.length,H ++ [.row 0 size (scalars xs) xs])
  | .sl i g k lo n=>xAp4 H i g k lo n (t=t'/\vc) size bytes xs (qat H i)
  | _=>none
 | some (vc,xs,h::hs)=>match d with
  | .d .nil=>some ((t=t'/\vc)/\0<size/\xs.length*bytes<=140737488355328/\0<bytes,.sl H.length 0 size 0 xs.length,H ++ [.row 0 size (.own (h::hs)) xs])
  | .sl i g k lo n=>xAp5 H i g k lo n (t=t'/\vc) size bytes xs (h::hs) (qat H i)
  | _=>none
 | none=>none
def xAp2 (H:List R) (t t':Nat) (d x:I):Option TI->Option (Prop×I×List R)
 | some ei=>xAp3 H t t' ei.size ei.bytes d (srcX H ei.size x)
 | none=>none
def xAp1 (T:Nat->Option TI) (H:List R) (t t':Nat) (d x:I):Option TI->Option (Prop×I×List R)
 | some ⟨.slice e,_,_,_⟩=>xAp2 H t t' d x (T e)
 | _=>none
def xAz2 (H:List R) (n:Int):Option TI->Option (Prop×I×List R)
 | some ei=>some (0<n/\n*(ei.bytes:Int)<=140737488355328/\0<ei.bytes/\ei.size=1/\ei.zero.scalar=true,.sl H.length 0 1 0 n.toNat,H ++ [.row 0 1 (.own []) (List.replicate n.toNat ei.zero)])
 | none=>none
def xAz3 (T:Nat->Option TI) (H:List R) (e:Nat) (d x:I):Option (Prop×I×List R):=
 match d,x with
 | .d .nil,.d (.int .i64 n)=>xAz2 H n (T e)
 | _,_=>none
def xAy2 (H:List R) (i g k lo m:Nat) (n:Int):Option TI->Option R->Option (Prop×I×List R)
 | some ei,some (.row g' k' (.own []) l)=>some (0<=n/\g=g'/\k'=1/\k=1/\lo=0/\m=l.length/\(m+n)*(ei.bytes:Int)<=140737488355328/\0<ei.bytes/\ei.size=1/\ei.zero.scalar=true,
     .sl i (g+1) 1 0 (m+n.toNat),H.set i (.row (g+1) 1 (.own []) (l++List.replicate n.toNat ei.zero)))
 | _,_=>none
def xAy3 (T:Nat->Option TI) (H:List R) (e:Nat) (d x:I):Option (Prop×I×List R):=
 match d,x with
 | .sl i g k lo m,.d (.int .i64 n)=>xAy2 H i g k lo m n (T e) (qat H i)
 | _,_=>none
def orA (x y:Option (Prop×I×List R)):Option (Prop×I×List R):=match x with|some r=>some r|none=>y
def xApZ (T:Nat->Option TI) (H:List R) (t t':Nat) (d x:I):Option TI->Option TI->Option (Prop×I×List R)
 | some ⟨.slice e,_,_,_⟩,some ⟨.int .i64,_,_,_⟩=>orA (xAz3 T H e d x) (orA (xAy3 T H e d x) (qew T H t t' d x))
 | _,_=>qew T H t t' d x
def xAZ (T:Nat->Option TI) (H:List R) (d x:I):Option TI->Option TI->Option (Prop×I×List R)
 | some ⟨.slice e,_,_,_⟩,some ⟨.int .i64,_,_,_⟩=>xAz3 T H e d x
 | _,_=>none
def xAY (T:Nat->Option TI) (H:List R) (d x:I):Option TI->Option TI->Option (Prop×I×List R)
 | some ⟨.slice e,_,_,_⟩,some ⟨.int .i64,_,_,_⟩=>xAy3 T H e d x
 | _,_=>none
def qrj:qoM T H t t' d x=xAZ T H d x (T t) (T t'):=by
 unfold qoM;cases T t with
 | none=>rfl
 | some ti=>
  obtain⟨ty,sz,b,z⟩:=ti;cases T t' with
  | none=>cases ty <;> rfl
  | some ti'=>
   obtain⟨ty',sz',b',z'⟩:=ti';cases d with
   | d dd=>
    cases dd with
    | nil=>
     cases x with
     | d xd=>
      cases xd with
      | int k n=>
       cases k <;> (cases ty <;> first|rfl|(cases ty' <;> first|rfl|(rename_i e k2;cases k2 <;> first|rfl|(simp only[xAZ,xAz3,xAz2];cases T e <;> rfl))))
      | _=>cases ty <;> first|rfl|(cases ty' <;> first|rfl|(rename_i e k2;cases k2 <;> rfl))
     | _=>cases ty <;> first|rfl|(cases ty' <;> first|rfl|(rename_i e k2;cases k2 <;> rfl))
    | _=>cases ty <;> first|rfl|(cases ty' <;> first|rfl|(rename_i e k2;cases k2 <;> rfl))
   | _=>cases ty <;> first|rfl|(cases ty' <;> first|rfl|(rename_i e k2;cases k2 <;> rfl))
def qrk:qoO T H t t' d x=xAY T H d x (T t) (T t'):=by
 unfold qoO;cases T t with
 | none=>rfl
 | some ti=>
  obtain⟨ty,sz,b,z⟩:=ti;cases T t' with
  | none=>cases ty <;> rfl
  | some ti'=>
   obtain⟨ty',sz',b',z'⟩:=ti';cases d with
   | sl i g k lo m=>
    cases x with
    | d xd=>
     cases xd with
     | int kx n=>
      cases kx <;> (cases ty <;> first|rfl|(cases ty' <;> first|rfl|(rename_i e k2;cases k2 <;> first|rfl|(simp only[xAY,xAy3,qaA];cases T e <;> first|rfl|(cases H[i]? <;> first|rfl|(rename_i r;cases r <;> first|rfl|(rename_i dp _;cases dp <;> first|rfl|(rename_i hs;cases hs <;> rfl))))))))
     | _=>cases ty <;> first|rfl|(cases ty' <;> first|rfl|(rename_i e k2;cases k2 <;> rfl))
    | _=>cases ty <;> first|rfl|(cases ty' <;> first|rfl|(rename_i e k2;cases k2 <;> rfl))
   | _=>cases ty <;> first|rfl|(cases ty' <;> first|rfl|(rename_i e k2;cases k2 <;> rfl))
@[go_sem] def zkq:sApp T H t t' d x=xApZ T H t t' d x (T t) (T t'):=by
 unfold sApp;rw[qrj,qrk];cases T t with
 | none=>rfl
 | some ti=>
  obtain⟨ty,sz,b,z⟩:=ti;cases T t' with
  | none=>cases ty <;> rfl
  | some ti'=>
   obtain⟨ty',sz',b',z'⟩:=ti';cases ty <;> first|rfl|(cases ty' <;> first|rfl|(rename_i e k2;cases k2 <;> rfl))
@[go_sem] def zkr {e':Nat}:xApZ T H t t' d x (some ⟨.slice e,sz,b,z⟩) (some ⟨.slice e',sz',b',z'⟩)=qew T H t t' d x:=rfl
@[go_sem] def zks {r:Prop×I×List R}{y:Option (Prop×I×List R)}:orA (some r) y=some r:=rfl
@[go_sem] def zkt {n:Int}{ty:Ty}{sz b:Nat}{z:D}:xAz2 H n (some ⟨ty,sz,b,z⟩)=some (0<n/\n*(b:Int)<=140737488355328/\0<b/\sz=1/\z.scalar=true,.sl H.length 0 1 0 n.toNat,H ++ [.row 0 1 (.own []) (List.replicate n.toNat z)]):=rfl
@[go_sem] def zku {n:Int}:xApZ T H t t' (.d .nil) (.d (.int .i64 n)) (some ⟨.slice e,sz,b,z⟩) (some ⟨.int .i64,sz',b',z'⟩)=orA (xAz2 H n (T e)) (qew T H t t' (.d .nil) (.d (.int .i64 n))):=by
 show orA (xAz2 H n (T e)) (orA none _)=_
 rfl
@[go_sem] def zkv:qew T H t t' d x=xAp1 T H t t' d x (T t):=by
 unfold qew;cases T t with
 | none=>rfl
 | some ti=>
  obtain⟨ty,sz,b,z⟩:=ti;cases ty with
  | slice e=>
   simp only[xAp1];cases T e with
   | none=>rfl
   | some ei=>
    simp only[xAp2];cases srcX H ei.size x with
    | none=>rfl
    | some q=>
     obtain⟨vc,xs,hs⟩:=q;cases hs with
     | nil=>
      cases d with
      | d dd=>cases dd <;> simp only[xAp3,and_assoc]
      | sl i g k lo n=>
       simp only[xAp3,<-qaA];cases H[i]? with
       | none=>rfl
       | some r=>cases r <;> simp only[xAp4,and_assoc]
      | _=>rfl
     | cons h hs=>
      cases d with
      | d dd=>cases dd <;> simp only[xAp3,and_assoc]
      | sl i g k lo n=>
       simp only[xAp3,<-qaA];cases H[i]? with
       | none=>rfl
       | some r=>
        cases r with
        | row g' k' dp l=>
         rcases dp with _|hs2
         ·rfl
         ·cases hs2 <;> simp only[xAp5,and_assoc]
        | _=>rfl
      | _=>rfl
  | _=>rfl
@[go_sem] def zkw:xAp1 T H t t' d x (some ⟨.slice e,sz,b,z⟩)=xAp2 H t t' d x (T e):=rfl
@[go_sem] def zkx:xAp2 H t t' d x (some ⟨ty,sz,b,z⟩)=xAp3 H t t' sz b d (srcX H sz x):=rfl
@[go_sem] def zky:xAp3 H t t' sz bytes (.d .nil) (some (vc,xs,[]))=some ((t=t'/\vc)/\0<sz/\xs.length*bytes<=140737488355328/\0<bytes,.sl H.length 0 sz 0 xs.length,H ++ [.row 0 sz (scalars xs) xs]):=rfl
@[go_sem] def zkz:xAp3 H t t' sz bytes (.sl i g k lo n) (some (vc,xs,[]))=xAp4 H i g k lo n (t=t'/\vc) sz bytes xs (qat H i):=rfl
@[go_sem] def zkA {hs:List Hole}:xAp3 H t t' sz bytes (.sl i g k lo n) (some (vc,xs,h::hs))=xAp5 H i g k lo n (t=t'/\vc) sz bytes xs (h::hs) (qat H i):=rfl
@[go_sem] def zkB:xAp4 H i g k lo n c sz bytes xs (some (.row g' k' dp l)) =
  some (c/\g=g'/\k=k'/\k=sz/\lo=0/\n=l.length/\dp.shut=true/\(dp.o=true->appC l (scalars xs))/\(n+xs.length)*bytes<=140737488355328/\0<bytes,.sl i (g+1) k 0 (n+xs.length),H.set i (.row (g+1) k (qfS dp l (scalars xs)) (l++xs))):=rfl
attribute [go_sem] appDP_t qqx appDP_o appDP_c appDP_a appC_t appC_n appC_c appC_a
@[go_sem] def zkC {hs:List Hole}:xAp5 H i g k lo n c sz bytes xs hs (some (.row g' k' (.own []) l)) =
  some (c/\g=g'/\k=k'/\k=sz/\lo=0/\n=l.length/\(n+xs.length)*bytes<=140737488355328/\0<bytes,.sl i (g+1) k 0 (n+xs.length),H.set i (.row (g+1) k (.own (qd9 l.length hs)) (l++xs))):=rfl
@[go_sem] def zkD:qd9 n []=[]:=rfl
@[go_sem] def zkE {c:Nat}{r:List Hole}:qd9 n ((a,c,x)::r)=(n+a,c,x)::qd9 n r:=rfl
@[go_sem] def zkF {hs:List Hole}:qkc k hs j []=True:=rfl
def qpb:Option I->D->Prop
 | some _,_=>True
 | none,c=>c.scalar=true
@[go_sem] def zkG {c:D}:qpb (some x) c=True:=rfl
@[go_sem] def zkH {c:D}:qpb none c=(c.scalar=true):=rfl
@[go_sem] def zkI {hs:List Hole}{c:D}{r:List D}:qkc k hs j (c::r)=(qpb (qaD k hs j) c/\qkc k hs (j+1) r):=by
 simp only[qkc];cases qaD k hs j <;> rfl
@[go_sem] def zkJ:srcX H size (.d xd)=some (xd.isLst size/\0<size,xd.elems,[]):=rfl
def qn3 (size g k lo n:Nat):Option R->Option (Prop×List D×List Hole)
 | some (.row g' k' (.own (h::hs)) l)=>some (g=g'/\k=k'/\k=size/\lo=0/\n=l.length/\0<n/\qkc k (h::hs) 0 (flat l),l,h::hs)
 | r=>qhn (qri size g k lo n r)
@[go_sem] def zkK:srcX H size (.sl i g k lo n)=qn3 size g k lo n (qat H i):=by
 simp only[srcX,srcD_sl,qaA];cases qat H i with
 | none=>rfl
 | some r=>
  cases r with
  | row g' k' dp l=>
   rcases dp with _|hs
   ·rfl
   ·cases hs <;> rfl
  | _=>rfl
@[go_sem] def zkL {hs:List Hole}:qn3 size g k lo n (some (.row g' k' (.own (h::hs)) l))=some (g=g'/\k=k'/\k=size/\lo=0/\n=l.length/\0<n/\qkc k (h::hs) 0 (flat l),l,h::hs):=rfl
@[go_sem] def zkM:qn3 size g k lo n (some (.row g' k' (.own []) l))=some (g=g'/\k=k'/\k=size/\(scalars ((l.drop lo).take n)=true),(l.drop lo).take n,[]):=by
 simp only[qn3,qri,qhn,DP.o,true_implies]
@[go_sem] def zkN:qn3 size g k lo n (some (.row g' k' .fz l))=some (g=g'/\k=k'/\k=size,(l.drop lo).take n,[]):=by
 simp[qn3,qri,qhn,DP.o]
@[go_sem] def zkO {x:D}:flat [x]=x.cells ++ []:=rfl
def xZr4 (H:List R) (i g k lo n size:Nat) (z:D):Option R->Option (Prop×I×List R)
 | some (.row g' k' dp l)=>some (g=g'/\k=k'/\k=size/\size=1/\z.scalar=true/\l.all D.scalar=true,.d (.tup []),H.set i (.row g' k' dp (qbg l lo (List.replicate n z))))
 | _=>none
def xZr3 (H:List R) (size:Nat) (z:D):I->Option (Prop×I×List R)
 | .sl i g k lo n=>xZr4 H i g k lo n size z (qat H i)
 | _=>none
def xZr2 (H:List R) (d:I):Option TI->Option (Prop×I×List R)
 | some ei=>xZr3 H ei.size ei.zero d
 | none=>none
def xZr1 (T:Nat->Option TI) (H:List R) (d:I):Option TI->Option (Prop×I×List R)
 | some ⟨.slice e,_,_,_⟩=>xZr2 H d (T e)
 | _=>none
@[go_sem] def zkP:qjq T H t d=xZr1 T H d (T t):=by
 unfold qjq;cases T t with
 | none=>rfl
 | some ti=>
  obtain⟨ty,sz,b,z⟩:=ti;cases ty with
  | slice e=>
   simp only[xZr1];cases T e with
   | none=>rfl
   | some ei=>
    cases d <;> simp only[xZr2,xZr3,<-qaA]
    rename_i i g k lo n;cases H[i]? with
    | none=>rfl
    | some r=>cases r <;> rfl
  | _=>rfl
@[go_sem] def zkQ {sz b:Nat}{z:D}:xZr1 T H d (some ⟨.slice e,sz,b,z⟩)=xZr2 H d (T e):=rfl
@[go_sem] def zkR {ty:Ty}{sz b:Nat}{z:D}:xZr2 H d (some ⟨ty,sz,b,z⟩)=xZr3 H sz z d:=rfl
@[go_sem] def zkS {sz:Nat}{z:D}:xZr3 H sz z (.sl i g k lo n)=xZr4 H i g k lo n sz z (qat H i):=rfl
@[go_sem] def zkT {sz:Nat}{z:D}:xZr4 H i g k lo n sz z (some (.row g' k' dp l))=some (g=g'/\k=k'/\k=sz/\sz=1/\z.scalar=true/\l.all D.scalar=true,.d (.tup []),H.set i (.row g' k' dp (qbg l lo (List.replicate n z)))):=rfl
def xCp4 (H:List R) (i g k lo n:Nat) (vc:Prop) (size:Nat) (xs:List D):Option R->Option (Prop×I×List R)
 | some (.row g' k' dp l)=>some (vc/\g=g'/\k=k'/\k=size/\size=1/\xs.length<=n/\lo+n<=l.length/\xs.all D.scalar=true/\l.all D.scalar=true,
       .d (.int .i64 (xs.length:Nat)),H.set i (.row g' k' dp (qbg l lo xs)))
 | _=>none
def xCp3 (H:List R) (size:Nat):Option (Prop×List D)->I->Option (Prop×I×List R)
 | some (vc,xs),.sl i g k lo n=>xCp4 H i g k lo n vc size xs (qat H i)
 | _,_=>none
def xCp2 (H:List R) (d x:I):Option TI->Option (Prop×I×List R)
 | some ei=>xCp3 H ei.size (srcD H ei.size x) d
 | none=>none
def xCp1 (T:Nat->Option TI) (H:List R) (d x:I):Option TI->Option (Prop×I×List R)
 | some ⟨.slice e,_,_,_⟩=>xCp2 H d x (T e)
 | _=>none
@[go_sem] def zkU:qnS T H t t' d x=xCp1 T H d x (T t):=by
 unfold qnS;cases T t with
 | none=>rfl
 | some ti=>
  obtain⟨ty,sz,b,z⟩:=ti;cases ty with
  | slice e=>
   simp only[xCp1];cases T e with
   | none=>rfl
   | some ei=>
    simp only[xCp2];cases srcD H ei.size x with
    | none=>cases d <;> rfl
    | some q=>
     obtain⟨vc,xs⟩:=q;cases d <;> simp only[xCp3,<-qaA]
     rename_i i g k lo n;cases H[i]? with
     | none=>rfl
     | some r=>cases r <;> rfl
  | _=>rfl
@[go_sem] def zkV:xCp1 T H d x (some ⟨.slice e,sz,b,z⟩)=xCp2 H d x (T e):=rfl
@[go_sem] def zkW:xCp2 H d x (some ⟨ty,sz,b,z⟩)=xCp3 H sz (srcD H sz x) d:=rfl
@[go_sem] def zkX:xCp3 H sz (some (vc,xs)) (.sl i g k lo n)=xCp4 H i g k lo n vc sz xs (qat H i):=rfl
@[go_sem] def zkY:xCp4 H i g k lo n vc sz xs (some (.row g' k' dp l)) =
  some (vc/\g=g'/\k=k'/\k=sz/\sz=1/\xs.length<=n/\lo+n<=l.length/\xs.all D.scalar=true/\l.all D.scalar=true,.d (.int .i64 (xs.length:Nat)),H.set i (.row g' k' dp (qbg l lo xs))):=rfl
@[go_sem] def zkZ {cs:List D}:fnOf (.d (.fn g cs))=some (g,cs.map .d):=rfl
@[go_sem] def zla:fnOf (.fn g cs)=some (g,cs):=rfl
def qpc (E:Env) (c:Prop) (f:Nat) (H:List R) (K:I->List R->Prop):Option (Prop×List D)->Prop
 | some (vc,ds)=>c/\vc/\qmi E f ds H K
 | none=>False
def qle (E:Env) (c:Prop) (f:Nat) (H:List R) (K:I->List R->Prop):Option (Prop×List D)->Prop
 | some (vc,ds)=>c/\vc/\qnW E f ds H K
 | none=>False
def qjw (E:Env) (c:Prop) (f:Nat) (args:List I) (H:List R) (K:I->List R->Prop):Kind->Prop
 | .own=>qpc E c f H K (qfz H args)
 | .fz=>qle E c f H K (qhE args)
 | .proc=>c/\ICall E.P f args H K
@[go_sem] def zlb:qe1 E c (some (f,caps)) args H K=qjw E c f (args++caps) H K (E.pf f):=by
 simp only[qe1];cases E.pf f with
 | own=>simp only[qjw];cases qfz H (args++caps) <;> rfl
 | fz=>simp only[qjw];cases qhE (args++caps) <;> rfl
 | proc=>rfl
@[go_sem] def zlc:qjw E c f args H K .own=qpc E c f H K (qfz H args):=rfl
@[go_sem] def zld:qjw E c f args H K .fz=qle E c f H K (qhE args):=rfl
@[go_sem] def zle:qjw E c f args H K .proc=(c/\ICall E.P f args H K):=rfl
@[go_sem] def zlf:qpc E c f H K (some (vc,ds))=(c/\vc/\qmi E f ds H K):=rfl
@[go_sem] def zlg:qle E c f H K (some (vc,ds))=(c/\vc/\qnW E f ds H K):=rfl
def qpd (E:Env) (c:Prop) (e:Bool) (f:Nat) (K:I->Prop):Option (Prop×List D)->Prop
 | some (vc,ds)=>(e=true->c/\vc)/\qqG E e f ds K
 | none=>False
def qjx (E:Env) (c:Prop) (e:Bool) (f:Nat) (args:List I) (H:List R) (K:List R->I->Prop):Kind->Prop
 | .own=>qpd E c e f (K H) (qfz H args)
 | .proc=>(e=false->∃ x,K H (.cond e x))/\(e=true->c/\ICall E.P f args H (fun r H'=>K H' (.cond e r)))
 | .fz=>(e=false->∃ x,K H (.cond e x))/\(e=true->qle E c f H (fun r H'=>K H' (.cond e r)) (qhE args))
@[go_sem] def zlh {e:Bool}{K:List R->I->Prop}:qk6 E c e (some (f,caps)) args H K=qjx E c e f (args++caps) H K (E.pf f):=by
 simp only[qk6];cases E.pf f with
 | own=>simp only[qjx];cases qfz H (args++caps) <;> rfl
 | fz=>simp only[qjx];cases qhE (args++caps) <;> rfl
 | proc=>rfl
@[go_sem] def zli {e:Bool}{K:List R->I->Prop}:qjx E c e f args H K .proc=((e=false->∃ x,K H (.cond e x))/\(e=true->c/\ICall E.P f args H (fun r H'=>K H' (.cond e r)))):=rfl
@[go_sem] def zlj {e:Bool}{K:List R->I->Prop}:qjx E c e f args H K .fz=((e=false->∃ x,K H (.cond e x))/\(e=true->qle E c f H (fun r H'=>K H' (.cond e r)) (qhE args))):=rfl
@[go_sem] def zlk {e:Bool}{K:List R->I->Prop}:qjx E c e f args H K .own=qpd E c e f (K H) (qfz H args):=rfl
@[go_sem] def zll {e:Bool}{K:I->Prop}:qpd E c e f K (some (vc,ds))=((e=true->c/\vc)/\qqG E e f ds K):=rfl
def qrl:Option (Prop×D)->Option (Prop×List D)->Option (Prop×List D)
 | some (vc,d),some (vc',ds)=>some (vc/\vc',d::ds)
 | _,_=>none
def consO:Option (Prop×D)->Option (Prop×List D)->Option (Prop×List D)
 | some (vc,d),some (vc',ds)=>some (vc/\d.one=true/\vc',d::ds)
 | _,_=>none
@[go_sem] def zlm {d:D}:qrl (some (vc,d)) (some (vc',ds))=some (vc/\vc',d::ds):=rfl
@[go_sem] def zln {d:D}:consO (some (vc,d)) (some (vc',ds))=some (vc/\d.one=true/\vc',d::ds):=rfl
@[go_sem] def zlo:qfz H []=some (True,[]):=rfl
@[go_sem] def zlp:qfz H (x::r)=qrl (view H 3 x) (qfz H r):=by
 simp only[qfz,qdQ];cases view H 3 x with
 | none=>rfl
 | some p=>obtain⟨vc,d⟩:=p;cases qdQ (view H 3) r <;> rfl
@[go_sem] def zlq:qhE []=some (True,[]):=rfl
@[go_sem] def zlr {x:D}:qhE (.d x::r)=qrl (some (True,x)) (qhE r):=by
 simp only[qhE,qdQ,view];cases qdQ (view [] 0) r <;> rfl
@[go_sem] def zls {f:I->Option (Prop×D)}:qfy f []=some (True,[]):=rfl
@[go_sem] def zlt {f:I->Option (Prop×D)}:qfy f (x::r)=consO (f x) (qfy f r):=by
 simp only[qfy];cases f x with
 | none=>rfl
 | some p=>obtain⟨vc,d⟩:=p;cases qfy f r <;> rfl
@[go_sem] def zlu {f:I->Option (Prop×D)}:qdQ f []=some (True,[]):=rfl
@[go_sem] def zlv {f:I->Option (Prop×D)}:qdQ f (x::r)=qrl (f x) (qdQ f r):=by
 simp only[qdQ];cases f x with
 | none=>rfl
 | some p=>obtain⟨vc,d⟩:=p;cases qdQ f r <;> rfl
def vSl (g k lo n:Nat):Option R->Option (Prop×D)
 | some (.row g' k' dp l)=>some (g=g'/\k=k'/\dp.shut=true,.lst k ((l.drop lo).take n))
 | _=>none
def vPtr:Option (Prop×List D)->Option (Prop×D)
 | some (vc,ds)=>some (vc,.ptr ds)
 | none=>none
def vBox (H:List R) (f off:Nat):Option R->Option (Prop×D)
 | some (.box cs)=>vPtr (qfy (view H f) (cs.drop off))
 | _=>none
def vAgg:Option (Prop×List D)->Option (Prop×D)
 | some (vc,ds)=>some (vc,.agg ds)
 | none=>none
def vTup:Option (Prop×List D)->Option (Prop×D)
 | some (vc,ds)=>some (vc,.tup ds)
 | none=>none
def vFn (g:Nat):Option (Prop×List D)->Option (Prop×D)
 | some (vc,ds)=>some (vc,.fn g ds)
 | none=>none
@[go_sem] def zlw {x:D}:view H (f+1) (.d x)=some (True,x):=rfl
@[go_sem] def zlx:view H (f+1) (.sl i g k lo n)=vSl g k lo n (qat H i):=by
 simp only[view,qaA];cases qat H i with
 | none=>rfl
 | some r=>cases r <;> rfl
@[go_sem] def zly:view H (f+1) (.ptr i off)=vBox H f off (qat H i):=by
 simp only[view,qaA];cases qat H i with
 | none=>rfl
 | some r=>
  cases r <;> simp only[vBox]
  rename_i cs;cases qfy (view H f) (cs.drop off) <;> rfl
@[go_sem] def zlz:view H (f+1) (.agg cs)=vAgg (qfy (view H f) cs):=by
 simp only[view];cases qfy (view H f) cs <;> rfl
@[go_sem] def zlA:view H (f+1) (.fn g cs)=vFn g (qdQ (view H f) cs):=by
 simp only[view];cases qdQ (view H f) cs <;> rfl
@[go_sem] def zlB:view H (f+1) (.tup cs)=vTup (qdQ (view H f) cs):=by
 simp only[view];cases qdQ (view H f) cs <;> rfl
@[go_sem] def zlC:vTup (some (vc,ds))=some (vc,.tup ds):=rfl
@[go_sem] def zlD:vSl g k lo n (some (.row g' k' dp l))=some (g=g'/\k=k'/\dp.shut=true,.lst k ((l.drop lo).take n)):=rfl
@[go_sem] def zlE:vBox H f off (some (.box cs))=vPtr (qfy (view H f) (cs.drop off)):=rfl
@[go_sem] def zlF:vPtr (some (vc,ds))=some (vc,.ptr ds):=rfl
@[go_sem] def zlG:vAgg (some (vc,ds))=some (vc,.agg ds):=rfl
@[go_sem] def zlH:vFn g (some (vc,ds))=some (vc,.fn g ds):=rfl
def endR (Po:I->List R->Prop) (H:List R):Option (Prop×I)->Prop
 | some (vc,r)=>vc/\Po r H
 | none=>False
def resO:Option (Prop×List I)->Option (Prop×I)
 | some (vc,[x])=>some (vc,x)
 | some (vc,l)=>some (vc,.tup l)
 | none=>none
def consT (x:I):Option (Prop×List I)->Option (Prop×List I)
 | some (vc,l)=>some (vc,x::l)
 | none=>none
def consC:Option (Prop×I)->Option (Prop×List I)->Option (Prop×List I)
 | some (c,x),some (vc,l)=>some (c/\vc,x::l)
 | _,_=>none
@[go_sem] def qpe:endsWith T fn Po .normal fr H=endR (Po fr) H (resI T H fr fn.results.toList):=by
 simp only[endsWith];cases resI T H fr fn.results.toList <;> rfl
@[go_sem] def qsF:endsWith T fn Po .ret fr H=endR (Po fr) H (resI T H fr fn.results.toList):=by
 simp only[endsWith];cases resI T H fr fn.results.toList <;> rfl
@[go_sem] def zlI {Po:I->List R->Prop}{r:I}:endR Po H (some (vc,r))=(vc/\Po r H):=rfl
@[go_sem] def zlJ {rs:List ResultVar}:resI T H fr rs=resO (resC T H fr rs):=by
 simp only[resI];cases resC T H fr rs with
 | none=>rfl
 | some p=>obtain⟨vc,l⟩:=p;match l with|[]=>rfl|[x]=>rfl|x::y::r=>rfl
@[go_sem] def zlK:resC T H fr []=some (True,[]):=rfl
@[go_sem] def zlL {r:List ResultVar}:resC T H fr (.tmp t::r)=consT (fr.get t) (resC T H fr r):=by
 simp only[resC];cases resC T H fr r <;> rfl
@[go_sem] def zlM {x:Nat}{r:List ResultVar}:resC T H fr (.cell x t::r)=consC (qfw T H t (fr.get x)) (resC T H fr r):=by
 simp only[resC];cases qfw T H t (fr.get x) with
 | none=>rfl
 | some p=>cases resC T H fr r <;> rfl
@[go_sem] def zlN {l:List I}:consT x (some (vc,l))=some (vc,x::l):=rfl
@[go_sem] def zlO {l:List I}:consC (some (c,x)) (some (vc,l))=some (c/\vc,x::l):=rfl
@[go_sem] def zlP:resO (some (vc,[x]))=some (vc,x):=rfl
@[go_sem] def zlQ:resO (some (vc,[]))=some (vc,.tup []):=rfl
@[go_sem] def zlR {y:I}:resO (some (vc,x::y::r))=some (vc,.tup (x::y::r)):=rfl
@[go_sem] def zlS {x:D}{ids:List Nat}:pkR x (some (vc,x',ids))=(vc/\ids.Nodup/\wk x' x):=rfl
@[go_sem] def zlT {x:D}:vwR x (some (vc,x'))=(vc/\wk x' x):=rfl
def pkS (i g k lo m:Nat):Option R->Option (Prop×D×List Nat)
 | some (.row g' k' (.own []) l)=>some (g=g'/\k=k'/\lo=0/\m=l.length,.lst k l,[i])
 | _=>none
@[go_sem] def zlU:pkS i g k lo m (some (.row g' k' (.own []) l))=some (g=g'/\k=k'/\lo=0/\m=l.length,.lst k l,[i]):=rfl
@[go_sem] def zlV {x:D}:pk H f (.d x)=some (qkg x=true,x,[]):=by cases f <;> rfl
@[go_sem] def zlW:pk H f (.sl i g k lo m)=pkS i g k lo m (qat H i):=by
 rw[<-qaA];cases f <;> simp only[pk] <;> (cases H[i]? with
  | none=>rfl
  | some r=>cases r <;> first|rfl|(rename_i dp _;rcases dp with _|hs;rfl;cases hs <;> rfl))
def pkA:Option (Prop×List D×List Nat)->Option (Prop×D×List Nat)
 | some (vc,ds,l)=>some (vc/\ones ds,.agg ds,l)
 | none=>none
def pkT:Option (Prop×List D×List Nat)->Option (Prop×D×List Nat)
 | some (vc,ds,l)=>some (vc,.tup ds,l)
 | none=>none
def pkC:Option (Prop×D×List Nat)->Option (Prop×List D×List Nat)->Option (Prop×List D×List Nat)
 | some (vc,d,l),some (vc',ds,l')=>some (vc/\vc',d::ds,l++l')
 | _,_=>none
@[go_sem] def zlX:pk H (f+1) (.agg cs)=pkA (pkL (pk H f) cs):=by simp only[pk];cases pkL (pk H f) cs <;> rfl
@[go_sem] def zlY:pk H (f+1) (.tup cs)=pkT (pkL (pk H f) cs):=by simp only[pk];cases pkL (pk H f) cs <;> rfl
@[go_sem] def zlZ {l:List Nat}:pkA (some (vc,ds,l))=some (vc/\ones ds,.agg ds,l):=rfl
@[go_sem] def zma {l:List Nat}:pkT (some (vc,ds,l))=some (vc,.tup ds,l):=rfl
@[go_sem] def zmb {d:D}{l l':List Nat}:pkC (some (vc,d,l)) (some (vc',ds,l'))=some (vc/\vc',d::ds,l++l'):=rfl
@[go_sem] def zmc {f:I->Option (Prop×D×List Nat)}:pkL f []=some (True,[],[]):=rfl
@[go_sem] def zmd {f:I->Option (Prop×D×List Nat)}:pkL f (x::r)=pkC (f x) (pkL f r):=by
 simp only[pkL];cases f x with
 | none=>rfl
 | some p=>obtain⟨vc,d,l⟩:=p;cases pkL f r <;> rfl
@[go_sem] def zme:ones []=True:=rfl
@[go_sem] def zmf {x:D}{r:List D}:ones (x::r)=(x.one=true/\ones r):=rfl
@[go_sem] def zmg {k:IntKind}{n:Int}:qkg (.int k n)=true:=rfl
@[go_sem] def zmh {b:Bool}:qkg (.bool b)=true:=rfl
@[go_sem] def zmi:qkg .nil=true:=rfl
@[go_sem] def zmj {cs:List D}:qkg (.agg cs)=cs.all qmf:=rfl
@[go_sem] def zmk {k:IntKind}{n:Int}:qmf (.int k n)=true:=rfl
@[go_sem] def zml:qmf .nil=true:=rfl
@[go_sem] def zmm {k:IntKind}{n:Int}{y:D}:wk (.int k n) y=(D.int k n=y):=by cases y <;> rfl
@[go_sem] def zmn {b:Bool}{y:D}:wk (.bool b) y=(D.bool b=y):=by cases y <;> rfl
@[go_sem] def zmo {y:D}:wk (.lst k l) y=(D.lst k l=y):=by cases y <;> rfl
@[go_sem] def zmp:wk .nil (.lst k l)=(0<k/\l=[]):=rfl
@[go_sem] def zmq:wk (.agg xs) (.agg ys)=wkL xs ys:=rfl
@[go_sem] def zmr:wk (.tup xs) (.tup ys)=wkT xs ys:=rfl
@[go_sem] def zms:wkL [] []=True:=rfl
@[go_sem] def zmt {x y:D}:wkL (x::xs) (y::ys)=(wk1 x y/\wkL xs ys):=rfl
@[go_sem] def zmu:wkT [] []=True:=rfl
@[go_sem] def zmv {x y:D}:wkT (x::xs) (y::ys)=(wk2 x y/\wkT xs ys):=rfl
@[go_sem] def zmw {k:IntKind}{n:Int}{y:D}:wk1 (.int k n) y=(D.int k n=y):=by cases y <;> rfl
@[go_sem] def zmx {b:Bool}{y:D}:wk1 (.bool b) y=(D.bool b=y):=by cases y <;> rfl
@[go_sem] def zmy {y:D}:wk1 (.lst k l) y=(D.lst k l=y):=by cases y <;> rfl
@[go_sem] def zmz:wk1 .nil (.lst k l)=(0<k/\l=[]):=rfl
@[go_sem] def zmA {b:Bool}{y:D}:wk2 (.bool b) y=(D.bool b=y):=by cases y <;> rfl
@[go_sem] def zmB {y:D}:wk2 (.lst k l) y=(D.lst k l=y):=by cases y <;> rfl
@[go_sem] def zmC:wk2 .nil (.lst k l)=(0<k/\l=[]):=rfl
@[go_sem] def zmD:wk2 (.agg xs) (.agg ys)=wkL xs ys:=rfl
def pure_of {E : Env} (hT : TOK E.P E.T) (hn : E.n = 0)   {c : Code}   {x : D} (fuel : Nat) (hf : E.P.funcs[f]? = some fn) (hb : fn.body = some c) (hnm : (fn.name == "runtime.NumGoroutine") = false) (hnt : fn.ntmps = nt) (hl : ds.length <= nt)
  (h:qa5 E fuel c [] (endsWith E.T fn (fun fr r H'=>pkR x (pk H' 3 r))) ⟨nt,qdn 0 (ds.map .d)⟩ []):Pure E.P f ds x:=by
 subst hnt;refine qjt hT hf hb hnm hl ?_;have:=qcW hT fuel h;rw[hn] at this;exact this
def qrm {E : Env} (hT : TOK E.P E.T) (hn : E.n = 0)   {c : Code}   {x : D} (fuel : Nat) (hf : E.P.funcs[f]? = some fn) (hb : fn.body = some c) (hnm : (fn.name == "runtime.NumGoroutine") = false) (hnt : fn.ntmps = nt) (hl : ds.length <= nt)
  (h:qa5 E fuel c [] (endsWith E.T fn (fun fr r H'=>vwR x (view H' 3 r))) ⟨nt,qdn 0 (ds.map .d)⟩ []):PureF E.P f ds x:=by
 subst hnt;refine qmh hT hf hb hnm hl ?_;have:=qcW hT fuel h;rw[hn] at this;exact this
def qad {k:I->List R->Prop}{x:D}(h:Pure E.P f ds x) (hk:k (.d x) H):qmi E f ds H k:=⟨_,h.toE,fun y hy=>by rw[hy];exact .inl hk⟩
def qge {k:I->List R->Prop}(h:PureE E.P f ds ψ) (hk : ∀ x,ψ x->k (.d x) H):qmi E f ds H k:=⟨_,h,fun y hy=>.inl (hk y hy)⟩
def qbK {k:I->List R->Prop}{x:D}(h:PureF E.P f ds x) (hk:k (.d x) H):qnW E f ds H k:=⟨_,h.toE,fun y hy=>by rw[hy];exact hk⟩
def qlf {k:I->List R->Prop}(h:PureFE E.P f ds ψ) (hk : ∀ x,ψ x->k (.d x) H):qnW E f ds H k:=⟨ψ,h,hk⟩
def qaK {e:Bool}{k:I->Prop}{x:D}(h:e=true->Pure E.P f ds x) (hk:k (.cond e (.d x))):qqG E e f ds k:=⟨x,h,hk⟩
end Go.VL
namespace Go.VL
set_option linter.defProp false
variable {r:List (Nat×Nat×Bool)}{cs:List I}{g k m t i lo off g' k':Nat}{dp:Bool}{l l':List D}{es:List (D×D)}{x y:I}{v:Value}{H' K:List R}{b:D}
variable {E:Env}{Q:Post}{fr:Fr}{H:List R}{n:Nat}
variable {S:Nat->Prop}{φ : List (List Nat)}{w:World}
def qcv:Nat->List R->List R
 | _,[]=>[]
 | 0,H=>H
 | n+1,r::H=>.dead r.gen::qcv n H
@[go_sem] def zmE {H:List R}:qcv 0 H=H:=by cases H <;> rfl
@[go_sem] def zmF {n:Nat}:qcv n []=[]:=by cases n <;> rfl
@[go_sem] def zmG {n:Nat}{r:R}{H:List R}:qcv (n+1) (r::H)=.dead r.gen::qcv n H:=rfl
@[go_sem] def zmH:(R.box cs).gen=0:=rfl
@[go_sem] def zmI {dp:DP}:(R.row g k dp l).gen=g:=rfl
@[go_sem] def zmJ:(R.map es).gen=0:=rfl
@[go_sem] def zmK:(R.dead g).gen=g:=rfl
def qc9 : ∀ (n:Nat) (H:List R),(qcv n H).length=H.length
 | 0,H=>by simp[go_sem]
 | n+1,[]=>rfl
 | n+1,r::H=>by simp[qcv,qc9 n H]
def qkl : ∀ (n:Nat) (H:List R) (i:Nat),i<n->i<H.length->∃ g,(qcv n H)[i]?=some (.dead g)/\g=(H.getD i (.dead 0)).gen
 | 0,H,i,h,_=>by omega
 | n+1,[],i,_,h=>by simp at h
 | n+1,r::H,0,_,_=>⟨_,rfl,rfl⟩
 | n+1,r::H,i+1,h1,h2=>by simpa [qcv] using qkl n H i (by omega) (by simpa using h2)
def qkm : ∀ (n:Nat) (H:List R) (i:Nat),n<=i->(qcv n H)[i]?=H[i]?
 | 0,H,i,_=>by simp[go_sem]
 | n+1,[],i,_=>rfl
 | n+1,r::H,0,h=>by omega
 | n+1,r::H,i+1,h=>by simpa [qcv] using qkm n H i (by omega)
def qdF (n:Nat) (φ : List (List Nat)):List (List Nat):=(List.range φ.length).map fun i=>if i<n then [] else φ.getD i []
def qcd (n:Nat) (φ : List (List Nat)) (i:Nat):(qdF n φ).getD i []=if i<n then [] else φ.getD i []:=by
 simp only[qdF,List.getD,List.getElem?_map];by_cases h:i < φ.length
 ·simp[h]
 ·simp[h]
def Sim.kill (s:Sim S φ H w) (n:Nat):Sim S (qdF n φ) (qcv n H) w/\Tr H.length S φ H w S (qdF n φ) (qcv n H) w:=by
 have hfoot : ∀ b,Foot (qdF n φ) b->Foot φ b:=by
  rintro b ⟨i,hi⟩;rw[qcd] at hi;split at hi
  ·simp at hi
  ·exact⟨i,hi⟩
 have hsome : ∀ i r,(qcv n H)[i]?=some r->(∃ g,r=.dead g)∨n<=i/\H[i]?=some r:=by
  intro i r hr;by_cases h:i<n
  ·have hl:=(List.getElem?_eq_some_iff.1 hr).1;rw[qc9] at hl;obtain⟨g,hg,_⟩:=qkl n H i h hl;rw[hg] at hr;simp at hr;exact .inl ⟨g,hr.symm⟩
  ·rw[qkm n H i (by omega)] at hr;exact .inr ⟨by omega,hr⟩
 have htr:Tr H.length S φ H w S (qdF n φ) (qcv n H) w:=by
  refine⟨fun _ h=>h,fun _ _=>rfl,yad _,by rw[qc9];exact yad _,?_,?_,?_,?_,?_⟩
  ·intro i hi;by_cases h:i<n
   ·obtain⟨g,hg,e⟩:=qkl n H i h hi;have:(qcv n H).getD i (.dead 0)=.dead g:=by simp[List.getD,hg]
    rw[this,e];exact yad _
   ·have:(qcv n H).getD i (.dead 0)=H.getD i (.dead 0):=by simp only[List.getD,qkm n H i (by omega)]
    rw[this];exact yad _
  ·intro i g k dp' l' hi hl';rcases hsome i _ hl' with⟨_,h⟩|⟨h,h2⟩
   ·cases h
   ·exact .inr ⟨dp',l',h2,by rw[qcd,if_neg (by omega)],yad _,fun b rest arr ty e1 e2=>⟨arr,ty,e2,yad _⟩⟩
  ·intro i cs hi hl';rcases hsome i _ hl' with⟨_,h⟩|⟨h,h2⟩
   ·cases h
   ·exact⟨cs,h2,by rw[qcd,if_neg (by omega)]⟩
  ·intro i cs hi hl';rcases hsome i _ hl' with⟨_,h⟩|⟨h,h2⟩
   ·cases h
   ·exact⟨cs,h2,by rw[qcd,if_neg (by omega)]⟩
  ·intro i x hi hl';rcases hsome i _ hl' with⟨_,h⟩|⟨h,h2⟩
   ·cases h
   ·exact⟨h2,by rw[qcd,if_neg (by omega)],fun _ _=>rfl⟩
 refine⟨⟨?_,?_,?_,fun b hb=>s.lt b (hfoot b hb),fun b hb=>s.off b (hfoot b hb),s.slt,?_⟩,htr⟩
 ·simp[qdF,qc9,s.len]
 ·intro i;rw[qcd];split
  ·simp
  ·exact s.nd i
 ·intro i j b hb hb';rw[qcd] at hb hb';split at hb
  ·simp at hb
  ·split at hb'
   ·simp at hb'
   ·exact s.dj i j b hb hb'
 ·intro i r hr;rcases hsome i r hr with⟨g,rfl⟩|⟨h,h2⟩
  ·trivial
  ·rw[qcd,if_neg (by omega)];exact(s.rel i r h2).tr htr fun _ _=>rfl
def qin (s:Sim S φ H w) {n:Nat}(hn:n<=H.length) (hH:qeb n (H.take n)) :
  Sim (fun b=>S b∨Foot (qdF n φ) b) (φ.take n) (H.take n) w/\Tr n S φ H w (fun b=>S b∨Foot (qdF n φ) b) (φ.take n) (H.take n) w/\Ext S φ w (fun b=>S b∨Foot (qdF n φ) b) (φ.take n) w:=by
 obtain⟨S1,φ1,s1,hf1,he1,ht1⟩:=Ghost.drop (n:=n) n (fr:=⟨0,[]⟩) (H:=H) (yad _) hn trivial hH S φ w { tmps:=#[],defers:=[] } hn s ⟨rfl,rfl,fun t=>.junk⟩;have hget : ∀ i,(φ.take n).getD i []=if i<n then φ.getD i [] else []:=by
  intro i;by_cases h:i<n
  ·rw[if_pos h,getD_take _ _ _ _ h]
  ·rw[if_neg h];simp[List.getD,List.getElem?_take,h]
 have hfoot : ∀ b,Foot (φ.take n) b->Foot φ b/\¬ Foot (qdF n φ) b:=by
  rintro b ⟨i,hi⟩;rw[hget] at hi;split at hi
  ·refine⟨⟨i,hi⟩,?_⟩;rintro⟨j,hj⟩;rw[qcd] at hj;split at hj
   ·simp at hj
   ·have:=s.dj i j b hi hj;omega
  ·simp at hi
 have hkill : ∀ b,Foot (qdF n φ) b->Foot φ b:=by
  rintro b ⟨i,hi⟩;rw[qcd] at hi;split at hi
  ·simp at hi
  ·exact⟨i,hi⟩
 have hsub:Tr n S φ H w (fun b=>S b∨Foot (qdF n φ) b) (φ.take n) (H.take n) w:=by
  refine⟨fun _ h=>.inl h,fun _ _=>rfl,hn,by simp;omega,fun i hi=>by rw[getD_take _ _ _ _ hi];exact yad _,?_,?_,?_,?_⟩
  ·intro i g k dp' l' hi hl';rw[qby _ _ _ hi] at hl';exact .inr ⟨dp',l',hl',by rw[getD_take _ _ _ _ hi],yad _,fun b rest arr ty e1 e2=>⟨arr,ty,e2,yad _⟩⟩
  ·intro i cs hi hl';rw[qby _ _ _ hi] at hl';exact⟨cs,hl',getD_take _ _ _ _ hi⟩
  ·intro i cs hi hl';rw[qby _ _ _ hi] at hl';exact⟨cs,hl',getD_take _ _ _ _ hi⟩
  ·intro i x hi hl';rw[qby _ _ _ hi] at hl';exact⟨hl',getD_take _ _ _ _ hi,fun _ _=>rfl⟩
 refine⟨⟨by simp[s.len],?_,?_,fun b hb=>s.lt b (hfoot b hb).1,?_,?_,?_⟩,hsub,⟨rfl,rfl,rfl,yad _,fun _ _ _=>rfl,fun b hb=>.inl (hfoot b hb).1,fun _ h=>.inl h,?_⟩⟩
 ·intro i;rw[hget];split
  ·exact s.nd i
  ·simp
 ·intro i j b hb hb';rw[hget] at hb hb';split at hb
  ·split at hb'
   ·exact s.dj i j b hb hb'
   ·simp at hb'
  ·simp at hb
 ·intro b hb h;rcases h with h|h
  ·exact s.off b (hfoot b hb).1 h
  ·exact(hfoot b hb).2 h
 ·intro b h;rcases h with h|h
  ·exact s.slt b h
  ·exact s.lt b (hkill b h)
 ·intro i r hr;have hlt:i<n:=by
   have:=(List.getElem?_eq_some_iff.1 hr).1;simp at this;omega
  rw[hget,if_pos hlt];have hb:=qe0 hH i r hr;rw[qby _ _ _ hlt] at hr;have h1:=(s.rel i r hr).take hn s.len hb;have htr2:Tr (H.take n).length S (φ.take n) (H.take n) w (fun b=>S b∨Foot (qdF n φ) b) (φ.take n) (H.take n) w:=by
   refine⟨fun _ h=>.inl h,fun _ _=>rfl,yad _,yad _,fun _ _=>yad _,fun i g k dp' l' hi hl=>.inr ⟨dp',l',hl,rfl,yad _,fun b rest arr ty e1 e2=>⟨arr,ty,e2,yad _⟩⟩,
    fun i cs hi h=>⟨cs,h,rfl⟩,fun i es hi h=>⟨es,h,rfl⟩,fun i x hi h=>⟨h,rfl,fun _ _=>rfl⟩⟩
  exact h1.tr htr2 fun _ _=>rfl
 ·intro b h;rcases h with h|h
  ·exact .inl h
  ·exact .inr (.inl (hkill b h))
def fit1 (K:List R) (x y:I):Prop:=
 match y with
 | .d b=>(match x with
  | .d a=>wk a b
  | _=>(match view K 3 x with|some (vc,a)=>vc/\wk a b|none=>False))
 | _=>x=y
def fitF (K:List R) (fr:Fr):List (Nat×I)->Prop
 | []=>True
 | (t,x)::r=>fit1 K (fr.get t) x/\fitF K fr r
def fitR:R->R->Prop
 | .row g k (.own []) l,.row g' k' .fz l'=>g=g'/\k=k'/\l=l'/\scalars l=true
 | x,y=>x=y
def fitH:List R->List R->Prop
 | _,[]=>True
 | x::r,y::s=>fitR x y/\fitH r s
 | [],_::_=>False
def fit (n nt:Nat) (fr:Fr) (H:List R) (m:List (Nat×I)) (H':List R):Prop:=
 fr.n=nt/\n<=H'.length/\fitF (qcv H'.length H) fr m/\fitH H H'/\qif H'.length m/\qeb H'.length H'
def qcs {x y:R}(h:fitR x y):x=y∨∃ g k l,x=.row g k (.own []) l/\y=.row g k .fz l/\scalars l=true:=by
 unfold fitR at h;split at h
 ·obtain⟨rfl,rfl,rfl,h⟩:=h;exact .inr ⟨_,_,_,rfl,rfl,h⟩
 ·exact .inl h
def qm7 : ∀ {H H':List R},fitH H H'->H'.length<=H.length/\∀ (i:Nat) (y:R),H'[i]?=some y->∃ x:R,H[i]?=some x/\fitR x y
 | H,[],_=>by simp
 | x::r,y::s,h=>by
  obtain⟨h1,h2⟩:=qm7 h.2;refine⟨by simp;omega,fun i z hz=>?_⟩;cases i with
  | zero=>simp at hz;subst hz;exact⟨x,rfl,h.1⟩
  | succ i=>simpa using h2 i z (by simpa using hz)
 | [],_::_,h=>h.elim
def qfY : ∀ {l:List D},scalars l=true->∀ c∈flat l,c.scalar=true
 | [],_,c,hc=>by simp[flat] at hc
 | x::r,h,c,hc=>by
  simp only[scalars,yam,yaG] at h;simp only[flat,yaN,yat] at hc;rcases hc with hc|hc
  ·exact h.1 c hc
  ·exact qfY h.2 c (by simpa [flat] using hc)
def qpf {w:World}{x:D}{fp:List Nat}(h:OW w x v fp) (hx:x.scalar=true):fp=[]:=by
 cases h <;> simp[D.scalar] at hx <;> rfl
def Sim.fitR (s:Sim S φ H w) (hl:H'.length=H.length) (h : ∀ (i:Nat) (y:R),H'[i]?=some y->∃ x:R,H[i]?=some x/\fitR x y):Sim S φ H' w/\Tr H.length S φ H w S φ H' w:=by
 have htr:Tr H.length S φ H w S φ H' w:=by
  refine⟨fun _ h=>h,fun _ _=>rfl,yad _,by omega,?_,?_,?_,?_,?_⟩
  ·intro i hi;obtain⟨x,hx,hxy⟩:=h i (H'.getD i (.dead 0)) (by simp[List.getD,show i<H'.length by omega]);have e:H.getD i (.dead 0)=x:=by simp[List.getD,hx]
   rw[e];rcases qcs hxy with h1|⟨g,k,l,h1,h2,_⟩
   ·rw[h1];exact yad _
   ·rw[h1,h2];exact yad _
  ·intro i g k dp' l' hi hl';obtain⟨x,hx,hxy⟩:=h i _ hl';rcases qcs hxy with rfl|⟨g,k,l,rfl,h2,_⟩
   ·exact .inr ⟨dp',l',hx,rfl,yad _,fun b rest arr ty e1 e2=>⟨arr,ty,e2,yad _⟩⟩
   ·cases h2;exact .inr ⟨true,_,hx,rfl,yad _,fun b rest arr ty e1 e2=>⟨arr,ty,e2,yad _⟩⟩
  ·intro i cs hi hl';obtain⟨x,hx,hxy⟩:=h i _ hl';rcases qcs hxy with rfl|⟨g,k,l,rfl,h2,_⟩
   ·exact⟨cs,hx,rfl⟩
   ·cases h2
  ·intro i cs hi hl';obtain⟨x,hx,hxy⟩:=h i _ hl';rcases qcs hxy with rfl|⟨g,k,l,rfl,h2,_⟩
   ·exact⟨cs,hx,rfl⟩
   ·cases h2
  ·intro i z hi hl';obtain⟨x,hx,hxy⟩:=h i _ hl';rcases qcs hxy with rfl|⟨g,k,l,rfl,h2,_⟩
   ·exact⟨hx,rfl,fun _ _=>rfl⟩
   ·cases h2
 refine⟨⟨by rw[s.len,hl],s.nd,s.dj,s.lt,s.off,s.slt,fun i y hy=>?_⟩,htr⟩;obtain⟨x,hx,hxy⟩:=h i y hy;rcases qcs hxy with rfl|⟨g,k,l,rfl,rfl,hsc⟩
 ·exact(s.rel i _ hx).tr htr fun _ _=>rfl
 ·obtain⟨h1,h2,h3,h4,h5⟩:=s.rel i _ hx;refine⟨h1,h2,h3,h4,?_⟩;rcases h5 with h5|⟨b,rest,arr,ty,e1,e2,e3,F,hF,_,hr⟩
  ·exact .inl h5
  ·have hall:=qfY hsc;have hz : ∀ j,j<(flat l).length->F j=[]:=fun j hj=>qpf (hr j hj) (hall _ (getD_mem hj))
   refine .inr ⟨b,rest,arr,ty,e1,e2,e3,?_,fun j hj=>qhV (hr j hj) (hall _ (getD_mem hj)) S⟩;rw[hF];refine List.flatMap_eq_nil_iff.2 fun j hj=>hz j (List.mem_range.1 hj)
def qsH (s:Sim S φ H w) (hm:m<=H.length) (h:fit1 (qcv m H) x y) (hy:y.idlt m) (hv:V S φ H w x v) :
  V (fun b=>S b∨Foot (qdF m φ) b) (φ.take m) (H.take m) w y v:=by
 have stay : ∀ {y:I},V S φ H w y v->y.idlt m->V (fun b=>S b∨Foot (qdF m φ) b) (φ.take m) (H.take m) w y v:=by
  intro y hv hy;refine(hv.take hm s.len hy).tr ?_;exact⟨fun _ h=>.inl h,fun _ _=>rfl,yad _,yad _,fun _ _=>yad _,fun i g k dp' l' hi hl=>.inr ⟨dp',l',hl,rfl,yad _,fun b rest arr ty e1 e2=>⟨arr,ty,e2,yad _⟩⟩,
    fun i cs hi h=>⟨cs,h,rfl⟩,fun i es hi h=>⟨es,h,rfl⟩,fun i x hi h=>⟨h,rfl,fun _ _=>rfl⟩⟩
 unfold fit1 at h;split at h
 ·rename_i b;split at h
  ·rename_i a;exact .d (qqF h (hv.fz.mono (fun b hb=>.inl hb) fun _ _=>rfl))
  ·split at h
   ·rename_i vc a hvw;obtain⟨s1,t1⟩:=s.kill m;exact .d (qqF h.2 (qcR s1 3 (hv.tr t1) hvw h.1))
   ·exact h.elim
 ·rw[h] at hv;exact stay hv hy
def qio {m:Nat}(s:Sim S φ H w) (hm:m<=H.length) {fr:Fr}{a:Act}(hf:FrR S φ H w fr a) : ∀ (l:List (Nat×I)),fitF (qcv m H) fr l->qif m l->∀ t,V (fun b=>S b∨Foot (qdF m φ) b) (φ.take m) (H.take m) w (look t l) (a.tmps.getD t undef)
 | [],_,_,t=>.junk
 | (u,x)::r,h,hi,t=>by
  simp only[look];split
  ·rename_i hst;subst hst;exact qsH s hm h.1 hi.1 (hf.val u)
  ·exact qio s hm hf r h.2 hi.2 t
def qmn {H:List R}(h : ∀ (i:Nat) (y:R),H'[i]?=some y->∃ x:R,H[i]?=some x/\Go.VL.fitR x y) : ∀ (i:Nat) (y:R),H'[i]?=some y->∃ x:R,(H.take H'.length)[i]?=some x/\Go.VL.fitR x y:=by
 intro i y hy;obtain⟨x,hx,hxy⟩:=h i y hy;exact⟨x,by rw[qby _ _ _ (List.getElem?_eq_some_iff.1 hy).1];exact hx,hxy⟩
def qmo (m:Nat) : ∀ {K:List R},K.length=H'.length->(∀ (i:Nat) (y:R),H'[i]?=some y->∃ x:R,K[i]?=some x/\Go.VL.fitR x y)->qeb m H'->qeb m K:=by
 intro K;induction K generalizing H' with
 | nil=>intro _ _ _;trivial
 | cons x r ih=>
  intro hl h hi;cases H' with
  | nil=>simp at hl
  | cons y s=>
   obtain⟨x',hx,hxy⟩:=h 0 y rfl;simp at hx;subst hx;refine⟨?_,ih (by simpa using hl) (fun i z hz=>by simpa using h (i+1) z (by simpa using hz)) hi.2⟩;rcases qcs hxy with rfl|⟨g,k,l,rfl,rfl,_⟩
   ·exact hi.1
   ·trivial
def qgf {nt:Nat}{m:List (Nat×I)}(h:fit n nt fr H m H'):Ghost n fr H ⟨nt,m⟩ H':=by
 obtain⟨h1,h2,h3,h4,h5,h6⟩:=h;obtain⟨e2,e1⟩:=qm7 h4;have hl:(H.take H'.length).length=H'.length:=by simp;omega
 have e3:=qmn e1;intro S φ w a hn s hf;obtain⟨s2,t2,x2⟩:=qin s e2 (qmo _ hl e3 h6);obtain⟨s3,t3⟩:=s2.fitR hl.symm e3;rw[hl] at t3;refine⟨_,_,s3,⟨hf.defers,hf.size.trans h1,fun t=>?_⟩,x2,(t2.trans t3).weaken h2⟩;have:=qio s e2 hf m h3 h5 t;exact this.tr (by rw[hl];exact t3)
def qeN:List (Nat×Nat×Bool)->Fr->List R->Fr×List R
 | [],fr,H=>(fr,H)
 | (t,k,dp)::r,fr,H=>qeN r (fr.put (some t) (.sl H.length 0 k 0 0)) (H ++ [.row 0 k dp []])
def qlg:List (Nat×Nat×Bool)->Fr->List R->Prop
 | [],_,_=>True
 | (t,k,dp)::r,fr,H=>fr.get t=.d .nil/\t<fr.n/\0<k/\qlg r (fr.put (some t) (.sl H.length 0 k 0 0)) (H ++ [.row 0 k dp []])
def qdW : ∀ (l:List (Nat×Nat×Bool)) {fr:Fr}{H:List R},qlg l fr H->Ghost n fr H (qeN l fr H).1 (qeN l fr H).2
 | [],fr,H,_=>Ghost.refl n fr H
 | (t,k,dp)::r,fr,H,h=>(Ghost.own t k dp h.1 h.2.1 h.2.2.1).trans (qdW r h.2.2.2)
def qn4 (E:Env) (ks:List Item) (Q:Post) (f:Nat) {σ : Type}(nt:Nat) (F : σ->List (Nat×I)) (Hp : σ->List R) (inv : σ->Prop) (mu : σ->Nat) (s : σ):Post
 | .normal,fr,H=>∃ s',inv s'/\mu s'<mu s/\fit E.n nt fr H (F s') (Hp s')
 | .exit id,fr,H=>qdo E f (exK id ks) id ks Q fr H
 | e,fr,H=>qbR E ks Q e fr H
def qaB (hT:TOK E.P E.T) {σ : Type}(F : σ->List (Nat×I)) (Hp : σ->List R) (inv : σ->Prop) (mu : σ->Nat) (own:List (Nat×Nat×Bool)) (f1 f2:Nat) {ks:List Item}{c:Code}
  (hvc:qlg own fr H) (h0 : ∃ s,inv s/\fit E.n fr.n (qeN own fr H).1 (qeN own fr H).2 (F s) (Hp s))
  (hr : ∀ s,inv s->qa5 E f1 c [] (qn4 E ks Q f2 fr.n F Hp inv mu s) ⟨fr.n,F s⟩ (Hp s)):iwp E.P E.n (.loop c) (qbR E ks Q) fr H:=by
 obtain⟨s0,hi0,hf0⟩:=h0;refine qk4 (fun m fr' H'=>∃ s,inv s/\mu s=m/\fr'=⟨fr.n,F s⟩/\H'=Hp s) (mu s0) ⟨_,_,(qdW own hvc).trans (qgf hf0),s0,hi0,rfl,rfl,rfl⟩ ?_;rintro m fr' H' ⟨s,hi,rfl,rfl,rfl⟩;refine qhJ (qcW hT f1 (hr s hi)) ?_;intro e fr' H' hq;cases e with
 | normal=>
  obtain⟨s',hi',hmu,hfit⟩:=hq;exact⟨_,_,qgf hfit,mu s',hmu,s',hi',rfl,rfl,rfl⟩
 | exit id=>
  simp only[qn4] at hq;refine qdw id ks ?_;generalize exK id ks=o at hq;match f2,o with
  | 0,_=>simp only[qdo] at hq
  | f+1,some ks'=>
   simp only[qdo] at hq;exact qfm hT f hq
  | f+1,none=>
   simp only[qdo] at hq;exact hq
 | goto l=>exact hq
 | ret=>exact hq
 | panic ch=>exact hq
 | outgrown=>exact hq
section rules
variable {σ : Type}{F : σ->List (Nat×I)}{Hp : σ->List R}{inv : σ->Prop}{mu : σ->Nat}{s : σ}{ks:List Item}{f nt:Nat}
@[go_sem] def qsI:qn4 E ks Q f nt F Hp inv mu s .normal fr H = ∃ s',inv s'/\mu s'<mu s/\fit E.n nt fr H (F s') (Hp s'):=rfl
@[go_sem] def zmL {id:Nat}:qn4 E ks Q f nt F Hp inv mu s (.exit id) fr H=qdo E f (exK id ks) id ks Q fr H:=rfl
@[go_sem] def zmM:qn4 E ks Q f nt F Hp inv mu s .ret fr H=qbR E ks Q .ret fr H:=rfl
@[go_sem] def zmN {m:List (Nat×I)}:fit n nt fr H m H'=(fr.n=nt/\n<=H'.length/\fitF (qcv H'.length H) fr m/\fitH H H'/\qif H'.length m/\qeb H'.length H'):=rfl
@[go_sem] def zmO:fitF K fr []=True:=rfl
@[go_sem] def zmP {r:List (Nat×I)}:fitF K fr ((t,x)::r)=(fit1 K (fr.get t) x/\fitF K fr r):=rfl
def frz1 (b:D):Option (Prop×D)->Prop
 | some (vc,a)=>vc/\wk a b
 | none=>False
@[go_sem] def zmQ {a:D}{vc:Prop}:frz1 b (some (vc,a))=(vc/\wk a b):=rfl
def fitS (K:List R) (x:I):I->Prop
 | .d b=>frz1 b (view K 3 x)
 | y=>x=y
@[go_sem] def zmR:fitS K x (.d b)=frz1 b (view K 3 x):=rfl
@[go_sem] def zmS {n:Nat}:fitS K x (.sl i g k lo n)=(x=.sl i g k lo n):=rfl
@[go_sem] def zmT {o:Nat}:fitS K x (.ptr i o)=(x=.ptr i o):=rfl
@[go_sem] def zmU:fitS K x (.tup cs)=(x=.tup cs):=rfl
@[go_sem] def zmV:fitS K x (.map i)=(x=.map i):=rfl
@[go_sem] def zmW {f:Nat}:fitS K x (.fn f cs)=(x=.fn f cs):=rfl
def qip (hx : ∀ a,x≠.d a):fit1 K x y=fitS K x y:=by
 cases y <;> simp only[fit1,fitS,frz1]
@[go_sem] def zmX {x y:D}:fit1 K (.d x) (.d y)=wk x y:=rfl
@[go_sem] def zmY {n:Nat}:fit1 K (.sl i g k lo n) y=fitS K (.sl i g k lo n) y:=qip nofun
@[go_sem] def zmZ:fit1 K (.ptr i off) y=fitS K (.ptr i off) y:=qip nofun
@[go_sem] def zna:fit1 K (.agg cs) y=fitS K (.agg cs) y:=qip nofun
@[go_sem] def znb:fitH H []=True:=by cases H <;> rfl
@[go_sem] def znc {x y:R}{r q:List R}:fitH (x::r) (y::q)=(fitR x y/\fitH r q):=rfl
@[go_sem] def znd {dp:DP}:fitR (.row g k dp l) (.row g' k' dp l')=(g=g'/\k=k'/\l=l'):=by cases dp <;> simp[fitR]
@[go_sem] def zne:fitR (.row g k (.own []) l) (.row g' k' .fz l')=(g=g'/\k=k'/\l=l'/\scalars l=true):=rfl
@[go_sem] def znf {y:R}:fitR (.box cs) y=(.box cs=y):=by cases y <;> rfl
@[go_sem] def zng {y:R}:fitR (.map es) y=(.map es=y):=by cases y <;> rfl
@[go_sem] def znh:qif m []=True:=rfl
@[go_sem] def zni {r:List (Nat×I)}:qif m ((t,x)::r)=(x.idlt m/\qif m r):=rfl
@[go_sem] def znj:qeb m []=True:=rfl
@[go_sem] def znk {x:R}{r:List R}:qeb m (x::r)=(x.idlt m/\qeb m r):=rfl
@[go_sem] def znl:qfA m []=True:=rfl
@[go_sem] def znm {r:List I}:qfA m (x::r)=(x.idlt m/\qfA m r):=rfl
@[go_sem] def znn {x:D}:(I.d x).idlt m=True:=by simp only[I.idlt]
@[go_sem] def zno {n:Nat}:(I.sl i g k lo n).idlt m=(i<m):=by simp only[I.idlt]
@[go_sem] def znp:(I.ptr i off).idlt m=(i<m):=by simp only[I.idlt]
@[go_sem] def znq {idx:Nat}{z:D}:(I.eptr i g k idx off z).idlt m=(i<m):=by simp only[I.idlt]
@[go_sem] def znr:(I.map i).idlt m=(i<m):=by simp only[I.idlt]
@[go_sem] def zns {f:Nat}:(I.fn f cs).idlt m=qfA m cs:=by simp only[I.idlt]
@[go_sem] def znt:(R.box cs).idlt m=qfA m cs:=by simp only[R.idlt]
@[go_sem] def znu:(R.row g k (.own []) l).idlt m=True:=rfl
@[go_sem] def znv:(R.row g k .fz l).idlt m=True:=rfl
@[go_sem] def znw {l:List (D×D)}:(R.map l).idlt m=True:=by simp only[R.idlt]
@[go_sem] def znx:(R.dead g).idlt m=True:=by simp only[R.idlt]
@[go_sem] def zny:qeN [] fr H=(fr,H):=rfl
@[go_sem] def znz:qeN ((t,k,dp)::r) fr H=qeN r (fr.put (some t) (.sl H.length 0 k 0 0)) (H ++ [.row 0 k dp []]):=rfl
@[go_sem] def znA:qlg [] fr H=True:=rfl
@[go_sem] def znB:qlg ((t,k,dp)::r) fr H=(fr.get t=.d .nil/\t<fr.n/\0<k/\qlg r (fr.put (some t) (.sl H.length 0 k 0 0)) (H ++ [.row 0 k dp []])):=rfl
end rules
attribute [go_sem] I.d.injEq I.sl.injEq I.ptr.injEq I.agg.injEq R.row.injEq R.box.injEq R.map.injEq D.int.injEq D.bool.injEq D.lst.injEq D.agg.injEq D.tup.injEq
def qaa {n:Int}:InK .i64 n↔-9223372036854775808<=n/\n<=9223372036854775807:=Iff.rfl
def inK_u8 {n:Int}:InK .u8 n↔0<=n/\n<=255:=Iff.rfl
def inK_u64 {n:Int}:InK .u64 n↔0<=n/\n<=18446744073709551615:=Iff.rfl
end Go.VL
namespace Go.VL
set_option linter.defProp false
variable {α β:Type}{k:IntKind}{l l':List Int}{i a b n:Nat}{x:Bool}
abbrev dI (n:Int):D:=.int .i64 n
abbrev dB (b:Bool):D:=.bool b
abbrev dIs (l:List Int):D:=.lst 1 (l.map (D.int .i64))
abbrev dUs (l:List Int):D:=.lst 1 (l.map (D.int .u8))
abbrev dBs (l:List Bool):D:=.lst 1 (l.map D.bool)
abbrev dIss (l:List (List Int)):D:=.lst 1 (l.map fun x=>dIs x)
def qe3 (f : α->β) (l:List α) (i:Nat) (z : α):(l.map f).getD i (f z)=f (l.getD i z):=by
 simp[List.getD_eq_getElem?_getD,List.getElem?_map]
@[go_sem] def znC {z:Int}:(l.map (D.int k)).getD i (D.int k z)=D.int k (l.getD i z):=qe3 _ _ _ _
@[go_sem] def znD {l:List Bool}{z:Bool}:(l.map D.bool).getD i (D.bool z)=D.bool (l.getD i z):=qe3 _ _ _ _
def getD_lt (f : α->β) (l:List α) (i:Nat) (z : β) (y : α) (h:i<l.length):(l.map f).getD i z=f (l.getD i y):=by
 simp[List.getD_eq_getElem?_getD,h]
attribute [go_sem] yah ybk List.nodup_nil yaf yae
@[go_sem] def znE:((a:Int)<(b:Int))=(a<b):=by simp
@[go_sem] def znF:((a:Int)<=(b:Int))=(a<=b):=by simp
@[go_sem] def znG:((a:Int)=(b:Int))=(a=b):=propext Int.ofNat_inj
@[go_sem] def znH:((0:Int)<=(a:Int))=True:=by simp
@[go_sem] def znI:((a:Int)<0)=False:=by simp
@[go_sem] def znJ:((a:Int)+1)=((a+1:Nat):Int):=by simp
attribute [go_sem] yad Int.le_refl and_false false_and not_false_eq_true ge_iff_le gt_iff_lt
def qkn {f : α->β}(hf : ∀ x y,f x=f y->x=y) {l l':List α}:(l.map f=l'.map f)=(l=l'):=by
 refine propext ⟨fun h=>?_,fun h=>by rw[h]⟩;induction l generalizing l' with
 | nil=>cases l' with
  | nil=>rfl
  | cons y r=>simp at h
 | cons x r ih=>cases l' with
  | nil=>simp at h
  | cons y r'=>
   simp only[yaL,List.cons.injEq] at h;rw[hf _ _ h.1,ih h.2]
@[go_sem] def znK:(l.map (D.int k)=l'.map (D.int k))=(l=l'):=qkn fun x y h=>by simpa using h
@[go_sem] def znL {l l':List Bool}:(l.map D.bool=l'.map D.bool)=(l=l'):=qkn fun x y h=>by simpa using h
@[go_sem] def znM {x:Int}:(l.map (D.int k)).set i (D.int k x)=(l.set i x).map (D.int k):=List.map_set.symm
@[go_sem] def znN {l:List Bool}:(l.map D.bool).set i (D.bool x)=(l.set i x).map D.bool:=List.map_set.symm
@[go_sem] def znO {x:Int}:l.map (D.int k) ++ [D.int k x]=(l ++ [x]).map (D.int k):=by simp
@[go_sem] def znP {l:List Bool}:l.map D.bool ++ [D.bool x]=(l ++ [x]).map D.bool:=by simp
@[go_sem] def znQ:l.map (D.int k)++l'.map (D.int k)=(l++l').map (D.int k):=by simp
@[go_sem] def znR {x:Int}:List.replicate n (D.int k x)=(List.replicate n x).map (D.int k):=by simp
@[go_sem] def znS:List.replicate n (D.bool x)=(List.replicate n x).map D.bool:=by simp
@[go_sem] def znT:(l.map (D.int k)).take n=(l.take n).map (D.int k):=by simp
@[go_sem] def znU {l:List Bool}:(l.map D.bool).take n=(l.take n).map D.bool:=by simp
def qpg:(([]:List D)=l.map (D.int k))=(l=[]):=propext ⟨fun h=>by cases l with|nil=>rfl|cons x r=>simp at h,fun h=>by rw[h];rfl⟩
def qn5 {l:List Bool}:(([]:List D)=l.map D.bool)=(l=[]):=propext ⟨fun h=>by cases l with|nil=>rfl|cons x r=>simp at h,fun h=>by rw[h];rfl⟩
attribute [go_sem] qpg qn5
def qeD {l l':List α}(z : α) (hl:l.length=l'.length) (h : ∀ j,j<l.length->l.getD j z=l'.getD j z):l=l':=by
 refine List.ext_getElem hl fun j h3 h4=>?_
 have:=h j h3;simpa [List.getD,h3,h4] using this
attribute [go_sem] beq_self_eq_true beq_iff_eq beq_eq_false_iff_ne Bool.true_eq_false not_false_eq_true imp_self yax List.drop_length List.nodup_cons List.not_mem_nil decide_true decide_false ybd yam Bool.or_eq_false_iff Bool.and_eq_false_iff Int.one_mul Int.cast_ofNat_Int Int.add_zero Int.zero_add Int.sub_zero ybe Nat.sub_zero Bool.or_false Bool.false_or Bool.or_true Bool.true_or Bool.not_not
attribute [go_sem] List.forall_mem_cons
end Go.VL

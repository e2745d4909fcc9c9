/- Part 22: rewriting rules of memory operations, calls and results. Conditions: none; lemmas. -/
import Derived.Test.YteikeianenfhaaaGreatVM5
set_option linter.unusedVariables false
set_option linter.unusedSimpArgs false
set_option maxHeartbeats 2000000
namespace Go.VL
set_option linter.defProp false
variable {ti:TI}{x d:I}{xd z' kd x':D}{cs r caps args:List I}{i g k lo n off e fsz sz' t size j a len idx g' k' o m kt et b' t' bytes f nt:Nat}{vc vc' c:Prop}{fs:List (Nat×Nat)}{rest parts:List (Nat×I)}{xs l ds ys:List D}{dp:DP}{o2:Option (Prop×List R)}{hs:List (Nat×Nat×I)}{ok:Bool}{es:List (D×D)}{ty':Ty}{h:Hole}{K:I->List R->Prop}{fn:Func}{Po:Fr->I->List R->Prop}{ψ:D->Prop}
variable {E:Env}{Q:Post}{fr:Fr}{H:List R}{T:Nat->Option TI}{ty:Ty}{sz b:Nat}{z:D}
attribute [go_sem] true_and and_true eq_self if_true if_false true_implies imp_true_iff not_false_eq_true not_true_eq_false yah decide_eq_true_eq decide_eq_false_iff_not Bool.not_true Bool.not_false Bool.not_eq_true' Bool.not_eq_false' ite_true ite_false and_self implies_true false_implies ne_eq
def xCI (ty:Ty) (sz:Nat):Bool->I->Option (Prop×List I)
 | true,.d xd=>some (xd.cells.length=sz/\xd.one=false/\(∀ n,xd≠.tup n),(qai xd 0 sz).map .d)
 | true,.agg cs=>some (cs.length=sz,cs)
 | false,.d xd=>some (sz=1/\xd.one=true,[.d xd])
 | false,.sl i g k lo n=>some (sz=1,[.sl i g k lo n])
 | false,.ptr i off=>some (sz=1,[.ptr i off])
 | false,.map i=>some (sz=1,[.map i])
 | false,.fn f caps=>some (sz=1,[.fn f caps])
 | _,_=>none
def qru:qbM ti x=xCI ti.ty ti.size ti.ty.agg x:=by
 unfold qbM;cases ti.ty.agg <;> cases x <;> rfl
@[go_sem] def zji:qbM ⟨ty,sz,b,z⟩ x=xCI ty sz ty.agg x:=qru
@[go_sem] def zjj:xCI ty sz true (.d xd)=some (xd.cells.length=sz/\xd.one=false/\(∀ n,xd≠.tup n),(qai xd 0 sz).map .d):=rfl
@[go_sem] def zjk:xCI ty sz true (.agg cs)=some (cs.length=sz,cs):=rfl
@[go_sem] def zjl:xCI ty sz false (.d xd)=some (sz=1/\xd.one=true,[.d xd]):=rfl
@[go_sem] def zjm:xCI ty sz false (.sl i g k lo n)=some (sz=1,[.sl i g k lo n]):=rfl
@[go_sem] def zjn:xCI ty sz false (.map i)=some (sz=1,[.map i]):=rfl
@[go_sem] def zjo:setCells cs off []=cs:=rfl
@[go_sem] def qrv:setCells cs off (x::r)=setCells (cs.set off x) (off+1) r:=rfl
@[go_sem] def zjp {cs:List D}:setD cs off []=cs:=rfl
@[go_sem] def zjq {cs:List D}{x:D}{r:List D}:setD cs off (x::r)=setD (cs.set off x) (off+1) r:=rfl
def xBox2 (H:List R):Option (Prop×List I)->Option (Prop×I×List R)
 | some (vc,cs)=>some (vc,.ptr H.length 0,H ++ [.box cs])
 | none=>none
def xBox1 (H:List R) (x:I):Option TI->Option (Prop×I×List R)
 | some ti=>xBox2 H (qbM ti x)
 | none=>none
@[go_sem] def zjr:sBox T H e x=xBox1 H x (T e):=by
 unfold sBox;cases T e with
 | none=>rfl
 | some ti=>simp only[xBox1];cases qbM ti x <;> rfl
@[go_sem] def zjs:xBox1 H x (some ⟨ty,sz,b,z⟩)=xBox2 H (qbM ⟨ty,sz,b,z⟩ x):=rfl
@[go_sem] def zjt:xBox2 H (some (vc,cs))=some (vc,.ptr H.length 0,H ++ [.box cs]):=rfl
def xAl (H:List R):Option TI->Option (Prop×I×List R)
 | some ti=>some (True,.ptr H.length 0,H ++ [.box ((qai ti.zero 0 ti.size).map .d)])
 | none=>none
@[go_sem] def zju:qii T H e=xAl H (T e):=by unfold qii;cases T e <;> rfl
@[go_sem] def zjv:xAl H (some ⟨ty,sz,b,z⟩)=some (True,.ptr H.length 0,H ++ [.box ((qai z 0 sz).map .d)]):=rfl
def qpn (vc:Prop) (off fsz:Nat) (cs:List I):Option (Prop×List I)->Option (Prop×List I)
 | some (vc',r)=>some (vc/\off+fsz<=cs.length/\vc',r)
 | none=>none
def qnc (T:Nat->Option TI) (fs:List (Nat×Nat)) (cs:List I) (rest:List (Nat×I)) (off fsz:Nat):Option (Prop×List I)->Option (Prop×List I)
 | some (vc,xs)=>qpn vc off fsz cs (qeX T fs (setCells cs off xs) rest)
 | none=>none
def qnd (T:Nat->Option TI) (fs:List (Nat×Nat)) (cs:List I) (rest:List (Nat×I)) (x:I) (off:Nat):Option TI->Option (Prop×List I)
 | some fi=>qnc T fs cs rest off fi.size (qbM fi x)
 | none=>none
def qpo (T:Nat->Option TI) (fs:List (Nat×Nat)) (cs:List I) (rest:List (Nat×I)) (x:I):Option (Nat×Nat)->Option (Prop×List I)
 | some (off,ft)=>qnd T fs cs rest x off (T ft)
 | none=>none
@[go_sem] def zjw:qeX T fs cs []=some (True,cs):=rfl
@[go_sem] def zjx:qeX T fs cs ((i,x)::rest)=qpo T fs cs rest x (nthF fs i):=by
 simp only[qeX,<-qkp];cases fs[i]? with
 | none=>rfl
 | some p=>
  obtain⟨off,ft⟩:=p;simp only[qpo];cases T ft with
  | none=>rfl
  | some fi=>
   simp only[qnd];cases qbM fi x with
   | none=>rfl
   | some q=>
    obtain⟨vc,xs⟩:=q;simp only[qnc];cases qeX T fs (setCells cs off xs) rest <;> rfl
@[go_sem] def zjy {ft:Nat}:qpo T fs cs rest x (some (off,ft))=qnd T fs cs rest x off (T ft):=rfl
@[go_sem] def zjz:qnd T fs cs rest x off (some ⟨ty,sz,b,z⟩)=qnc T fs cs rest off sz (qbM ⟨ty,sz,b,z⟩ x):=rfl
@[go_sem] def zjA {xs:List I}:qnc T fs cs rest off fsz (some (vc,xs))=qpn vc off fsz cs (qeX T fs (setCells cs off xs) rest):=rfl
@[go_sem] def zjB:qpn vc off fsz cs (some (vc',r))=some (vc/\off+fsz<=cs.length/\vc',r):=rfl
def xBd2 (T:Nat->Option TI) (fs:List (Nat×Nat)):Option (Prop×List I)->Option (Prop×I)
 | some (vc,cs)=>some (vc/\qcc cs/\fs.all (fun f=>(T f.2).isSome)=true,mkAgg cs)
 | none=>none
def xBd4:Option (Prop×List I)->Option (Prop×I)
 | some (vc,cs)=>some (vc/\qcc cs,mkAgg cs)
 | none=>none
@[go_sem] def zjC:xBd4 (some (vc,cs))=some (vc/\qcc cs,mkAgg cs):=rfl
def xBd3 (T:Nat->Option TI) (n e sz:Nat) (z:D) (parts:List (Nat×I)):Option TI->Option (Prop×I)
 | some ei=>xBd4 (qeX T (arrF n e ei.size) ((qai z 0 sz).map .d) parts)
 | none=>none
@[go_sem] def zjD {ty:Ty}{sz b:Nat}{z:D}:xBd3 T n e sz' z' parts (some ⟨ty,sz,b,z⟩)=xBd4 (qeX T (arrF n e sz) ((qai z' 0 sz').map .d) parts):=rfl
@[go_sem] def zjE {sz:Nat}:nthF (arrF n e sz) i=if i<n then some (i*sz,e) else none:=by rw[<-qkp,qm0]
def xBd1 (T:Nat->Option TI) (parts:List (Nat×I)):Option TI->Option (Prop×I)
 | some ⟨.struct fs,sz,_,z⟩=>xBd2 T fs (qeX T fs ((qai z 0 sz).map .d) parts)
 | some ⟨.array n e,sz,_,z⟩=>xBd3 T n e sz z parts (T e)
 | _=>none
@[go_sem] def zjF:qid T t parts=xBd1 T parts (T t):=by
 unfold qid;cases T t with
 | none=>rfl
 | some ti=>
  obtain⟨ty,sz,b,z⟩:=ti;cases ty with
  | struct fs=>
   simp only[xBd1];cases qeX T fs ((qai z 0 sz).map .d) parts <;> rfl
  | array n e=>
   simp only[xBd1];cases T e with
   | none=>rfl
   | some ei=>
    simp only[xBd3];cases qeX T (arrF n e ei.size) ((qai z 0 sz).map .d) parts <;> rfl
  | _=>rfl
@[go_sem] def zjG:xBd1 T parts (some ⟨.array n e,sz,b,z⟩)=xBd3 T n e sz z parts (T e):=rfl
@[go_sem] def zjH:xBd1 T parts (some ⟨.struct fs,sz,b,z⟩)=xBd2 T fs (qeX T fs ((qai z 0 sz).map .d) parts):=rfl
@[go_sem] def zjI:xBd2 T fs (some (vc,cs))=some (vc/\qcc cs/\fs.all (fun f=>(T f.2).isSome)=true,mkAgg cs):=rfl
attribute [go_sem] List.all_cons List.all_nil Option.isSome_some
def xLP (i j size:Nat) (x:D):Option (Prop×List D)->Option (Prop×List D)
 | some (vc,l)=>some (j=i/\x.cells.length=size/\x.notTup/\vc,x::l)
 | none=>none
@[go_sem] def qsV:qbA size i []=some (True,[]):=rfl
@[go_sem] def qrw {x:D}{r:List (Nat×I)}:qbA size i ((j,.d x)::r)=xLP i j size x (qbA size (i+1) r):=by
 simp only[qbA];cases qbA size (i+1) r <;> rfl
@[go_sem] def zjJ {r:List (Nat×I)}:qbA size i ((j,.sl a g k lo n)::r)=none:=rfl
@[go_sem] def zjK {x:D}:xLP i j size x (some (vc,l))=some (j=i/\x.cells.length=size/\x.notTup/\vc,x::l):=rfl
def qrx (H:List R) (len size:Nat):Option (Prop×List D)->Option (Prop×I×List R)
 | some (vc,l)=>some (vc/\l.length=len/\0<size/\len*size<=1000,.sl H.length 0 size 0 l.length,H ++ [.row 0 size (scalars l) l])
 | none=>none
def qry (H:List R) (len:Nat) (parts:List (Nat×I)):Option TI->Option (Prop×I×List R)
 | some ei=>qrx H len ei.size (qbA ei.size 0 parts)
 | none=>none
def xLit1 (T:Nat->Option TI) (H:List R) (len:Nat) (parts:List (Nat×I)):Option TI->Option (Prop×I×List R)
 | some ⟨.slice e,_,_,_⟩=>qry H len parts (T e)
 | _=>none
@[go_sem] def zjL:sLit T H t len parts=xLit1 T H len parts (T t):=by
 unfold sLit;cases T t with
 | none=>rfl
 | some ti=>
  obtain⟨ty,sz,b,z⟩:=ti;cases ty with
  | slice e=>
   simp only[xLit1];cases T e with
   | none=>rfl
   | some ei=>simp only[qry];cases qbA ei.size 0 parts <;> rfl
  | _=>rfl
@[go_sem] def zjM:xLit1 T H len parts (some ⟨.slice e,sz,b,z⟩)=qry H len parts (T e):=rfl
@[go_sem] def zjN:qry H len parts (some ⟨ty,sz,b,z⟩)=qrx H len sz (qbA sz 0 parts):=rfl
@[go_sem] def zjO:qrx H len size none=none:=rfl
@[go_sem] def zjP:qrx H len size (some (vc,l))=some (vc/\l.length=len/\0<size/\len*size<=1000,.sl H.length 0 size 0 l.length,H ++ [.row 0 size (scalars l) l]):=rfl
@[go_sem] def zjQ:scalars []=true:=rfl
@[go_sem] def qsW {x:D}{r:List D}:scalars (x::r)=(x.cells.all D.scalar&&scalars r):=rfl
attribute [go_sem] Bool.and_true ybq Bool.and_self Bool.false_and Bool.and_false
def xMk2 (H:List R) (l c:D):Option TI->Option (Prop×I×List R)
 | some ei=>some (l.isInt .i64/\c.isInt .i64/\0<=l.toInt/\l.toInt<=c.toInt/\(ei.bytes:Int)*c.toInt<=281474976710656/\0<ei.bytes/\0<ei.size,
   .sl H.length 0 ei.size 0 l.toInt.toNat,H ++ [.row 0 ei.size (.own []) (List.replicate l.toInt.toNat ei.zero)])
 | none=>none
def xMk1 (T:Nat->Option TI) (H:List R):Option TI->I->I->Option (Prop×I×List R)
 | some ⟨.slice e,_,_,_⟩,.d l,.d c=>xMk2 H l c (T e)
 | _,_,_=>none
@[go_sem] def zjR {l c:I}:qmd T H t l c=xMk1 T H (T t) l c:=by
 unfold qmd;cases T t with
 | none=>rfl
 | some ti=>
  obtain⟨ty,sz,b,z⟩:=ti;cases ty <;> cases l <;> cases c <;> first
   | rfl
   | (rename_i e _ _;simp only[xMk1];cases T e <;> rfl)
@[go_sem] def zjS {l c:D}:xMk1 T H (some ⟨.slice e,sz,b,z⟩) (.d l) (.d c)=xMk2 H l c (T e):=rfl
@[go_sem] def zjT {l c:D}:xMk2 H l c (some ⟨ty,sz,b,z⟩)=some (l.isInt .i64/\c.isInt .i64/\0<=l.toInt/\l.toInt<=c.toInt/\(b:Int)*c.toInt<=281474976710656/\0<b/\0<sz,
   .sl H.length 0 sz 0 l.toInt.toNat,H ++ [.row 0 sz (.own []) (List.replicate l.toInt.toNat z)]):=rfl
def xCD:Bool->Nat->I->Option (Prop×List D)
 | true,sz,.d xd=>some (xd.cells.length=sz/\xd.one=false/\(∀ n,xd≠.tup n),qai xd 0 sz)
 | false,sz,.d xd=>some (sz=1/\xd.one=true,[xd])
 | _,_,_=>none
def qrz:cellsD ti x=xCD ti.ty.agg ti.size x:=by
 unfold cellsD;cases ti.ty.agg <;> cases x <;> rfl
@[go_sem] def zjU:xCD true sz (.d xd)=some (xd.cells.length=sz/\xd.one=false/\(∀ n,xd≠.tup n),qai xd 0 sz):=rfl
@[go_sem] def zjV:xCD false sz (.d xd)=some (sz=1/\xd.one=true,[xd]):=rfl
def xSt3 (H:List R) (i off sz:Nat) (cs:List I):Option (Prop×List I)->Option (Prop×List R)
 | some (vc,xs)=>some (vc/\off+sz<=cs.length,H.set i (.box (setCells cs off xs)))
 | none=>none
def xSt2 (H:List R) (i off:Nat) (ti:TI) (x:I):Option R->Option (Prop×List R)
 | some (.box cs)=>xSt3 H i off ti.size cs (qbM ti x)
 | _=>none
def xSt5 (H:List R) (i g k idx off:Nat) (z:D) (sz g' k':Nat) (dp:DP) (l:List D) (o2:Option (Prop×List R)):Bool->Option (Prop×List D)->Option (Prop×List R)
 | true,some (vc,xs)=>some (vc/\g=g'/\k=k'/\idx<l.length/\off=0/\sz=1/\(dp.o=true->(l.getD idx z).scalar=true/\(xs.getD 0 .nil).scalar=true),H.set i (.row g' k' dp (l.set idx (xs.getD 0 .nil))))
 | false,some (vc,xs)=>some (vc/\g=g'/\k=k'/\idx<l.length/\off+sz<=k/\1<k/\(dp.o=true->(∀ c∈qai (l.getD idx z) off sz,c.scalar=true)/\(∀ c∈xs,c.scalar=true)),
      H.set i (.row g' k' dp (l.set idx (.agg (setD (qai (l.getD idx z) 0 k) off xs)))))
 | _,none=>o2
def xSt6 (H:List R) (i g k idx off:Nat) (z:D) (sz g' k':Nat) (l:List D) (hs:List (Nat×Nat×I)):Bool->Option (Prop×List I)->Option (Prop×List R)
 | true,some (vc,xs)=>some (vc/\g=g'/\k=k'/\idx<l.length/\off=0/\sz=1/\qcR xs/\qec idx off sz hs,H.set i (.row g' k' (.own (qaQ idx off xs)) (l.set idx (qbV (xs.getD 0 .junk)))))
 | false,some (vc,xs)=>some (vc/\g=g'/\k=k'/\idx<l.length/\off+sz<=k/\1<k/\qcR xs/\qec idx off sz hs,
       H.set i (.row g' k' (.own (qaQ idx off xs)) (l.set idx (.agg (setD (qai (l.getD idx z) 0 k) off (xs.map qbV))))))
 | _,none=>none
def xSt7 (H:List R) (i g k idx off:Nat) (z:D) (ti:TI) (g' k':Nat) (l:List D) (x:I):DP->Option (Prop×List R)
 | .own hs=>xSt6 H i g k idx off z ti.size g' k' l hs (decide (k=1)) (qbM ti x)
 | _=>none
def xSt4 (H:List R) (i g k idx off:Nat) (z:D) (ti:TI) (x:I):Option R->Option (Prop×List R)
 | some (.row g' k' dp l)=>xSt5 H i g k idx off z ti.size g' k' dp l (xSt7 H i g k idx off z ti g' k' l x dp) (decide (k=1)) (cellsD ti x)
 | _=>none
def xSt1 (H:List R) (p x:I):Option TI->Option (Prop×List R)
 | some ti=>match p with
  | .ptr i off=>xSt2 H i off ti x (qat H i)
  | .eptr i g k idx off z=>xSt4 H i g k idx off z ti x (qat H i)
  | _=>none
 | none=>none
@[go_sem] def zjW {p:I}:qik T H t p x=xSt1 H p x (T t):=by
 unfold qik;cases T t with
 | none=>cases p <;> rfl
 | some ti=>
  cases p <;> simp only[xSt1,<-qaC]
  ·rename_i i off;cases H[i]? with
   | none=>rfl
   | some r=>
    cases r <;> simp only[xSt2]
    rename_i cs;cases qbM ti x <;> rfl
  ·rename_i i g k idx off z;cases H[i]? with
   | none=>rfl
   | some r=>
    cases r <;> simp only[xSt4]
    rename_i g' k' dp l;cases cellsD ti x with
    | none=>
     simp only[xSt5];rcases dp with _|hs
     ·rfl
     ·simp only[xSt7];cases qbM ti x with
      | none=>simp only[xSt6]
      | some q=>obtain⟨vc,xs⟩:=q;cases decide (k=1) <;> rfl
    | some q=>obtain⟨vc,xs⟩:=q;cases decide (k=1) <;> rfl
@[go_sem] def zjX:xSt1 H (.ptr i off) x (some ⟨ty,sz,b,z⟩)=xSt2 H i off ⟨ty,sz,b,z⟩ x (qat H i):=rfl
@[go_sem] def zjY:xSt2 H i off ⟨ty,sz,b,z⟩ x (some (.box cs))=xSt3 H i off sz cs (qbM ⟨ty,sz,b,z⟩ x):=rfl
@[go_sem] def zjZ {xs:List I}:xSt3 H i off sz cs (some (vc,xs))=some (vc/\off+sz<=cs.length,H.set i (.box (setCells cs off xs))):=rfl
@[go_sem] def zka:xSt1 H (.eptr i g k idx off z') x (some ⟨ty,sz,b,z⟩)=xSt4 H i g k idx off z' ⟨ty,sz,b,z⟩ x (qat H i):=rfl
@[go_sem] def zkb:xSt4 H i g k idx off z' ⟨ty,sz,b,z⟩ x (some (.row g' k' dp l))=xSt5 H i g k idx off z' sz g' k' dp l (xSt7 H i g k idx off z' ⟨ty,sz,b,z⟩ g' k' l x dp) (decide (k=1)) (xCD ty.agg sz x):=by
 simp only[xSt4,qrz]
@[go_sem] def zkc:xSt5 H i g k idx off z' sz g' k' dp l o2 true (some (vc,xs)) =
  some (vc/\g=g'/\k=k'/\idx<l.length/\off=0/\sz=1/\(dp.o=true->(l.getD idx z').scalar=true/\(xs.getD 0 .nil).scalar=true),H.set i (.row g' k' dp (l.set idx (xs.getD 0 .nil)))):=rfl
@[go_sem] def zkd:xSt5 H i g k idx off z' sz g' k' dp l o2 false (some (vc,xs)) =
  some (vc/\g=g'/\k=k'/\idx<l.length/\off+sz<=k/\1<k/\(dp.o=true->(∀ c∈qai (l.getD idx z') off sz,c.scalar=true)/\(∀ c∈xs,c.scalar=true)),
      H.set i (.row g' k' dp (l.set idx (.agg (setD (qai (l.getD idx z') 0 k) off xs))))):=rfl
@[go_sem] def zke {bb:Bool}:xSt5 H i g k idx off z' sz g' k' dp l o2 bb none=o2:=by cases bb <;> rfl
@[go_sem] def zkf:xSt7 H i g k idx off z' ⟨ty,sz,b,z⟩ g' k' l x (.own hs)=xSt6 H i g k idx off z' sz g' k' l hs (decide (k=1)) (qbM ⟨ty,sz,b,z⟩ x):=rfl
@[go_sem] def zkg:xSt7 H i g k idx off z' ⟨ty,sz,b,z⟩ g' k' l x .fz=none:=rfl
@[go_sem] def zkh {xs:List I}:xSt6 H i g k idx off z' sz g' k' l hs true (some (vc,xs))=some (vc/\g=g'/\k=k'/\idx<l.length/\off=0/\sz=1/\qcR xs/\qec idx off sz hs,H.set i (.row g' k' (.own (qaQ idx off xs)) (l.set idx (qbV (xs.getD 0 .junk))))):=rfl
@[go_sem] def zki:qec idx off n []=True:=rfl
@[go_sem] def zkj {b:Nat}{r:List (Nat×Nat×I)}:qec idx off n ((a,b,x)::r)=((a=idx/\off<=b/\b<off+n)/\qec idx off n r):=rfl
@[go_sem] def zkk {xs:List I}:xSt6 H i g k idx off z' sz g' k' l hs false (some (vc,xs))=some (vc/\g=g'/\k=k'/\idx<l.length/\off+sz<=k/\1<k/\qcR xs/\qec idx off sz hs,
       H.set i (.row g' k' (.own (qaQ idx off xs)) (l.set idx (.agg (setD (qai (l.getD idx z') 0 k) off (xs.map qbV)))))):=rfl
@[go_sem] def zkl:xCD true sz (.agg cs)=none:=rfl
@[go_sem] def zkm:qcR []=True:=rfl
@[go_sem] def zkn:qcR (x::r)=(qk5 x/\qcR r):=rfl
@[go_sem] def zko {x:D}:qk5 (.d x)=(x.scalar=true):=rfl
@[go_sem] def zkp:qk5 (.sl i g k lo n)=True:=rfl
@[go_sem] def zkq {x:D}:qbV (.d x)=x:=rfl
@[go_sem] def zkr:qbV (.sl i g k lo n)=.lst 1 []:=rfl
@[go_sem] def zks:qaQ idx o []=[]:=rfl
@[go_sem] def zkt {x:D}:qaQ idx o (.d x::r)=qaQ idx (o+1) r:=rfl
@[go_sem] def zku:qaQ idx o (.sl i g k lo n::r)=(idx,o,.sl i g k lo n)::qaQ idx (o+1) r:=rfl
def xLiO3 (H:List R) (i len sz:Nat) (agg:Bool):Option (Prop×List I)->Option (Prop×I×List R)
 | some (vc,cs)=>some (vc/\i=0/\len=1/\0<sz/\sz<=1000/\qcR cs,.sl H.length 0 sz 0 1,H ++ [.row 0 sz (.own (qaQ 0 0 cs)) [litD agg cs]])
 | none=>none
def qrA (H:List R) (i len:Nat) (x:I):Option TI->Option (Prop×I×List R)
 | some ei=>xLiO3 H i len ei.size ei.ty.agg (qbM ei x)
 | none=>none
def xLiO1 (T:Nat->Option TI) (H:List R) (i len:Nat) (x:I):Option TI->Option (Prop×I×List R)
 | some ⟨.slice e,_,_,_⟩=>qrA H i len x (T e)
 | _=>none
@[go_sem] def zkv:qmp T H t len i x=xLiO1 T H i len x (T t):=by
 unfold qmp;cases T t with
 | none=>rfl
 | some ti=>
  obtain⟨ty,sz,b,z⟩:=ti;cases ty with
  | slice e=>
   simp only[xLiO1];cases T e with
   | none=>rfl
   | some ei=>simp only[qrA];cases qbM ei x <;> rfl
  | _=>rfl
@[go_sem] def zkw:xLiO1 T H i len x (some ⟨.slice e,sz,b,z⟩)=qrA H i len x (T e):=rfl
@[go_sem] def zkx:qrA H i len x (some ⟨ty,sz,b,z⟩)=xLiO3 H i len sz ty.agg (qbM ⟨ty,sz,b,z⟩ x):=rfl
@[go_sem] def zky {agg:Bool}:xLiO3 H i len sz agg (some (vc,cs))=some (vc/\i=0/\len=1/\0<sz/\sz<=1000/\qcR cs,.sl H.length 0 sz 0 1,H ++ [.row 0 sz (.own (qaQ 0 0 cs)) [litD agg cs]]):=rfl
@[go_sem] def zkz:litD true cs=.agg (cs.map qbV):=rfl
@[go_sem] def zkA:litD false cs=qbV (cs.getD 0 .junk):=rfl
@[go_sem] def qsX {r:List (Nat×I)}:qbA size i ((j,.agg cs)::r)=none:=rfl
def xLk2 (T:Nat->Option TI) (kd:D) (ok:Bool):Option R->Option TI->Option TI->Option (Prop×I)
 | some (.map es),some kti,some eti=>some (qeF T kti.ty/\qb3 kti.ty kd/\qbw kti.ty es,
    if ok=true then .d (.tup [(qcP es kd).getD eti.zero,.bool (qcP es kd).isSome]) else .d ((qcP es kd).getD eti.zero))
 | _,_,_=>none
def xLk1 (T:Nat->Option TI) (H:List R) (m k:I) (ok:Bool):Option TI->Option (Prop×I)
 | some ⟨.map kt et,_,_,_⟩=>match m,k with
  | .map i,.d kd=>xLk2 T kd ok (qat H i) (T kt) (T et)
  | _,_=>none
 | _=>none
@[go_sem] def zkB {m k:I}:qe4 T H t m k ok=xLk1 T H m k ok (T t):=by
 unfold qe4;cases T t with
 | none=>rfl
 | some ti=>
  obtain⟨ty,sz,b,z⟩:=ti;cases ty with
  | map kt et=>
   cases m <;> first|rfl|skip
   cases k <;> first|rfl|skip
   rename_i i kd;simp only[xLk1,qaC];cases qat H i with
   | none=>rfl
   | some r=>
    cases r <;> first|rfl|skip
  | _=>cases m <;> rfl
@[go_sem] def zkC:xLk1 T H (.map i) (.d kd) ok (some ⟨.map kt et,sz,b,z⟩)=xLk2 T kd ok (qat H i) (T kt) (T et):=rfl
@[go_sem] def zkD:xLk2 T kd true (some (.map es)) (some ⟨ty,sz,b,z⟩) (some ⟨ty',sz',b',z'⟩) =
  some (qeF T ty/\qb3 ty kd/\qbw ty es,.d (.tup [(qcP es kd).getD z',.bool (qcP es kd).isSome])):=rfl
@[go_sem] def zkE:xLk2 T kd false (some (.map es)) (some ⟨ty,sz,b,z⟩) (some ⟨ty',sz',b',z'⟩) =
  some (qeF T ty/\qb3 ty kd/\qbw ty es,.d ((qcP es kd).getD z')):=rfl
def xMm (H:List R):Option TI->Option (Prop×I×List R)
 | some ⟨.map _ _,_,_,_⟩=>some (True,.map H.length,H ++ [.map []])
 | _=>none
@[go_sem] def zkF:qeH T H t=xMm H (T t):=by
 unfold qeH;cases T t with
 | none=>rfl
 | some ti=>obtain⟨ty,sz,b,z⟩:=ti;cases ty <;> rfl
@[go_sem] def zkG:xMm H (some ⟨.map kt et,sz,b,z⟩)=some (True,.map H.length,H ++ [.map []]):=rfl
def xMu2 (T:Nat->Option TI) (H:List R) (i:Nat) (kd xd:D):Option R->Option TI->Option (Prop×List R)
 | some (.map es),some kti=>some (qeF T kti.ty/\qb3 kti.ty kd/\qbw kti.ty es/\qip xd=true,H.set i (.map (updD es kd xd)))
 | _,_=>none
def xMu1 (T:Nat->Option TI) (H:List R) (m k x:I):Option TI->Option (Prop×List R)
 | some ⟨.map kt _,_,_,_⟩=>match m,k,x with
  | .map i,.d kd,.d xd=>xMu2 T H i kd xd (qat H i) (T kt)
  | _,_,_=>none
 | _=>none
@[go_sem] def qrB {m k:I}:qb5 T H t m k x=xMu1 T H m k x (T t):=by
 unfold qb5;cases T t with
 | none=>rfl
 | some ti=>
  obtain⟨ty,sz,b,z⟩:=ti;cases ty with
  | map kt et=>
   cases m <;> first|rfl|skip
   cases k <;> first|rfl|skip
   cases x <;> first|rfl|skip
   rename_i i kd xd;simp only[xMu1,qaC];cases qat H i with
   | none=>rfl
   | some r=>
    cases r <;> first|rfl|skip
  | _=>cases m <;> rfl
@[go_sem] def zkH:xMu1 T H (.map i) (.d kd) (.d xd) (some ⟨.map kt et,sz,b,z⟩)=xMu2 T H i kd xd (qat H i) (T kt):=rfl
@[go_sem] def zkI:xMu2 T H i kd xd (some (.map es)) (some ⟨ty,sz,b,z⟩)=some (qeF T ty/\qb3 ty kd/\qbw ty es/\qip xd=true,H.set i (.map (updD es kd xd))):=rfl
@[go_sem] def zkJ {k:IntKind}:qeF T (.int k)=True:=rfl
@[go_sem] def qsY:qeF T (.struct fs)=qfO T 0 fs:=rfl
@[go_sem] def zkK {k:IntKind}{x:D}:qb3 (.int k) x=x.isInt k:=rfl
@[go_sem] def qsZ {cs:List D}:qb3 (.struct fs) (.agg cs)=(cs.length=fs.length/\intCells cs):=rfl
@[go_sem] def zkL {ty:Ty}:qbw ty []=True:=rfl
@[go_sem] def zkM {k v:D}:updD [] k v=[(k,v)]:=rfl
@[go_sem] def zkN {k:IntKind}{n:Int}:qip (.int k n)=true:=rfl
@[go_sem] def zkO {b:Bool}:qip (.bool b)=true:=rfl
attribute [go_sem] yag yan Option.isSome_none Option.isSome_some
def qeh {x:D×D}{r:List (D×D)}{k:D}:qcP (x::r) k=if qfH k x.1=true then some x.2 else qcP r k:=rfl
def qdE {k:IntKind}{a b:Int}:qfH (.int k a) (.int k b)=decide (a=b):=rfl
def qgm {k:IntKind}{a b c d:Int}:qfH (.agg [.int k a,.int k b]) (.agg [.int k c,.int k d])=decide (a=c/\b=d):=by
 simp only[qfH,qd8,D.toInt,Bool.and_true];by_cases h1:a=c <;> by_cases h2:b=d <;> simp[h1,h2]
def qrC (size g k lo n:Nat):Option R->Option (Prop×List D)
 | some (.row g' k' dp l)=>some (g=g'/\k=k'/\k=size/\(dp.o=true->scalars ((l.drop lo).take n)=true),(l.drop lo).take n)
 | _=>none
@[go_sem] def zkP:srcD H size (.d xd)=some (xd.isLst size/\0<size,xd.elems):=rfl
@[go_sem] def srcD_sl:srcD H size (.sl i g k lo n)=qrC size g k lo n (qat H i):=by
 simp only[srcD,qaC];cases qat H i with
 | none=>rfl
 | some r=>cases r <;> rfl
def xAp4 (H:List R) (i g k lo n:Nat) (c:Prop) (size bytes:Nat) (xs:List D):Option R->Option (Prop×I×List R)
 | some (.row g' k' dp l)=>some (c/\g=g'/\k=k'/\k=size/\lo=0/\n=l.length/\dp.shut=true/\(dp.o=true->appC l (scalars xs))/\(n+xs.length)*bytes<=140737488355328/\0<bytes,
        .sl i (g+1) k 0 (n+xs.length),H.set i (.row (g+1) k (qfZ dp l (scalars xs)) (l++xs)))
 | _=>none
def xAp5 (H:List R) (i g k lo n:Nat) (c:Prop) (size bytes:Nat) (xs:List D) (hs:List Hole):Option R->Option (Prop×I×List R)
 | some (.row g' k' (.own []) l)=>some (c/\g=g'/\k=k'/\k=size/\lo=0/\n=l.length/\(n+xs.length)*bytes<=140737488355328/\0<bytes,
        .sl i (g+1) k 0 (n+xs.length),H.set i (.row (g+1) k (.own (qed l.length hs)) (l++xs)))
 | _=>none
def xAp3 (H:List R) (t t' size bytes:Nat) (d:I):Option (Prop×List D×List Hole)->Option (Prop×I×List R)
 | some (vc,xs,[])=>match d with
  | .d .nil=>some ((t=t'/\vc)/\0<size/\xs.length*bytes<=140737488355328/\0<bytes,.sl H.length 0 size 0 xs.length,H ++ [.row 0 size (scalars xs) xs])
  | .sl i g k lo n=>xAp4 H i g k lo n (t=t'/\vc) size bytes xs (qat H i)
  | _=>none
 | some (vc,xs,h::hs)=>match d with
  | .d .nil=>some ((t=t'/\vc)/\0<size/\xs.length*bytes<=140737488355328/\0<bytes,.sl H.length 0 size 0 xs.length,H ++ [.row 0 size (.own (h::hs)) xs])
  | .sl i g k lo n=>xAp5 H i g k lo n (t=t'/\vc) size bytes xs (h::hs) (qat H i)
  | _=>none
 | none=>none
def xAp2 (H:List R) (t t':Nat) (d x:I):Option TI->Option (Prop×I×List R)
 | some ei=>xAp3 H t t' ei.size ei.bytes d (srcX H ei.size x)
 | none=>none
def xAp1 (T:Nat->Option TI) (H:List R) (t t':Nat) (d x:I):Option TI->Option (Prop×I×List R)
 | some ⟨.slice e,_,_,_⟩=>xAp2 H t t' d x (T e)
 | _=>none
def xAz2 (H:List R) (n:Int):Option TI->Option (Prop×I×List R)
 | some ei=>some (0<n/\n*(ei.bytes:Int)<=140737488355328/\0<ei.bytes/\ei.size=1/\ei.zero.scalar=true,.sl H.length 0 1 0 n.toNat,H ++ [.row 0 1 (.own []) (List.replicate n.toNat ei.zero)])
 | none=>none
def xAz3 (T:Nat->Option TI) (H:List R) (e:Nat) (d x:I):Option (Prop×I×List R):=
 match d,x with
 | .d .nil,.d (.int .i64 n)=>xAz2 H n (T e)
 | _,_=>none
def xAy2 (H:List R) (i g k lo m:Nat) (n:Int):Option TI->Option R->Option (Prop×I×List R)
 | some ei,some (.row g' k' (.own []) l)=>some (0<=n/\g=g'/\k'=1/\k=1/\lo=0/\m=l.length/\(m+n)*(ei.bytes:Int)<=140737488355328/\0<ei.bytes/\ei.size=1/\ei.zero.scalar=true,
     .sl i (g+1) 1 0 (m+n.toNat),H.set i (.row (g+1) 1 (.own []) (l++List.replicate n.toNat ei.zero)))
 | _,_=>none
def xAy3 (T:Nat->Option TI) (H:List R) (e:Nat) (d x:I):Option (Prop×I×List R):=
 match d,x with
 | .sl i g k lo m,.d (.int .i64 n)=>xAy2 H i g k lo m n (T e) (qat H i)
 | _,_=>none
def orA (x y:Option (Prop×I×List R)):Option (Prop×I×List R):=match x with|some r=>some r|none=>y
def xApZ (T:Nat->Option TI) (H:List R) (t t':Nat) (d x:I):Option TI->Option TI->Option (Prop×I×List R)
 | some ⟨.slice e,_,_,_⟩,some ⟨.int .i64,_,_,_⟩=>orA (xAz3 T H e d x) (orA (xAy3 T H e d x) (qd6 T H t t' d x))
 | _,_=>qd6 T H t t' d x
def xAZ (T:Nat->Option TI) (H:List R) (d x:I):Option TI->Option TI->Option (Prop×I×List R)
 | some ⟨.slice e,_,_,_⟩,some ⟨.int .i64,_,_,_⟩=>xAz3 T H e d x
 | _,_=>none
def xAY (T:Nat->Option TI) (H:List R) (d x:I):Option TI->Option TI->Option (Prop×I×List R)
 | some ⟨.slice e,_,_,_⟩,some ⟨.int .i64,_,_,_⟩=>xAy3 T H e d x
 | _,_=>none
def qrD:qoY T H t t' d x=xAZ T H d x (T t) (T t'):=by
 unfold qoY;cases T t with
 | none=>rfl
 | some ti=>
  obtain⟨ty,sz,b,z⟩:=ti;cases T t' with
  | none=>cases ty <;> rfl
  | some ti'=>
   obtain⟨ty',sz',b',z'⟩:=ti';cases d with
   | d dd=>
    cases dd with
    | nil=>
     cases x with
     | d xd=>
      cases xd with
      | int k n=>
       cases k <;> (cases ty <;> first|rfl|(cases ty' <;> first|rfl|(rename_i e k2;cases k2 <;> first|rfl|(simp only[xAZ,xAz3,xAz2];cases T e <;> rfl))))
      | _=>cases ty <;> first|rfl|(cases ty' <;> first|rfl|(rename_i e k2;cases k2 <;> rfl))
     | _=>cases ty <;> first|rfl|(cases ty' <;> first|rfl|(rename_i e k2;cases k2 <;> rfl))
    | _=>cases ty <;> first|rfl|(cases ty' <;> first|rfl|(rename_i e k2;cases k2 <;> rfl))
   | _=>cases ty <;> first|rfl|(cases ty' <;> first|rfl|(rename_i e k2;cases k2 <;> rfl))
def qrE:qo0 T H t t' d x=xAY T H d x (T t) (T t'):=by
 unfold qo0;cases T t with
 | none=>rfl
 | some ti=>
  obtain⟨ty,sz,b,z⟩:=ti;cases T t' with
  | none=>cases ty <;> rfl
  | some ti'=>
   obtain⟨ty',sz',b',z'⟩:=ti';cases d with
   | sl i g k lo m=>
    cases x with
    | d xd=>
     cases xd with
     | int kx n=>
      cases kx <;> (cases ty <;> first|rfl|(cases ty' <;> first|rfl|(rename_i e k2;cases k2 <;> first|rfl|(simp only[xAY,xAy3,qaC];cases T e <;> first|rfl|(cases H[i]? <;> first|rfl|(rename_i r;cases r <;> first|rfl|(rename_i dp _;cases dp <;> first|rfl|(rename_i hs;cases hs <;> rfl))))))))
     | _=>cases ty <;> first|rfl|(cases ty' <;> first|rfl|(rename_i e k2;cases k2 <;> rfl))
    | _=>cases ty <;> first|rfl|(cases ty' <;> first|rfl|(rename_i e k2;cases k2 <;> rfl))
   | _=>cases ty <;> first|rfl|(cases ty' <;> first|rfl|(rename_i e k2;cases k2 <;> rfl))
@[go_sem] def zkQ:sApp T H t t' d x=xApZ T H t t' d x (T t) (T t'):=by
 unfold sApp;rw[qrD,qrE];cases T t with
 | none=>rfl
 | some ti=>
  obtain⟨ty,sz,b,z⟩:=ti;cases T t' with
  | none=>cases ty <;> rfl
  | some ti'=>
   obtain⟨ty',sz',b',z'⟩:=ti';cases ty <;> first|rfl|(cases ty' <;> first|rfl|(rename_i e k2;cases k2 <;> rfl))
@[go_sem] def zkR {e':Nat}:xApZ T H t t' d x (some ⟨.slice e,sz,b,z⟩) (some ⟨.slice e',sz',b',z'⟩)=qd6 T H t t' d x:=rfl
@[go_sem] def zkS {r:Prop×I×List R}{y:Option (Prop×I×List R)}:orA (some r) y=some r:=rfl
@[go_sem] def zkT {n:Int}{ty:Ty}{sz b:Nat}{z:D}:xAz2 H n (some ⟨ty,sz,b,z⟩)=some (0<n/\n*(b:Int)<=140737488355328/\0<b/\sz=1/\z.scalar=true,.sl H.length 0 1 0 n.toNat,H ++ [.row 0 1 (.own []) (List.replicate n.toNat z)]):=rfl
@[go_sem] def zkU {n:Int}:xApZ T H t t' (.d .nil) (.d (.int .i64 n)) (some ⟨.slice e,sz,b,z⟩) (some ⟨.int .i64,sz',b',z'⟩)=orA (xAz2 H n (T e)) (qd6 T H t t' (.d .nil) (.d (.int .i64 n))):=by
 show orA (xAz2 H n (T e)) (orA none _)=_
 rfl
@[go_sem] def zkV {n:Int}:xApZ T H t t' (.sl i g k lo m) (.d (.int .i64 n)) (some ⟨.slice e,sz,b,z⟩) (some ⟨.int .i64,sz',b',z'⟩)=orA (xAy2 H i g k lo m n (T e) (qat H i)) (qd6 T H t t' (.sl i g k lo m) (.d (.int .i64 n))):=rfl
@[go_sem] def zkW {n:Int}{ty:Ty}{sz b:Nat}{z:D}:xAy2 H i g k lo m n (some ⟨ty,sz,b,z⟩) (some (.row g' k' (.own []) l))=some (0<=n/\g=g'/\k'=1/\k=1/\lo=0/\m=l.length/\(m+n)*(b:Int)<=140737488355328/\0<b/\sz=1/\z.scalar=true,
     .sl i (g+1) 1 0 (m+n.toNat),H.set i (.row (g+1) 1 (.own []) (l++List.replicate n.toNat z))):=rfl
@[go_sem] def zkX:qd6 T H t t' d x=xAp1 T H t t' d x (T t):=by
 unfold qd6;cases T t with
 | none=>rfl
 | some ti=>
  obtain⟨ty,sz,b,z⟩:=ti;cases ty with
  | slice e=>
   simp only[xAp1];cases T e with
   | none=>rfl
   | some ei=>
    simp only[xAp2];cases srcX H ei.size x with
    | none=>rfl
    | some q=>
     obtain⟨vc,xs,hs⟩:=q;cases hs with
     | nil=>
      cases d with
      | d dd=>cases dd <;> simp only[xAp3,and_assoc]
      | sl i g k lo n=>
       simp only[xAp3,<-qaC];cases H[i]? with
       | none=>rfl
       | some r=>cases r <;> simp only[xAp4,and_assoc]
      | _=>rfl
     | cons h hs=>
      cases d with
      | d dd=>cases dd <;> simp only[xAp3,and_assoc]
      | sl i g k lo n=>
       simp only[xAp3,<-qaC];cases H[i]? with
       | none=>rfl
       | some r=>
        cases r with
        | row g' k' dp l=>
         rcases dp with _|hs2
         ·rfl
         ·cases hs2 <;> simp only[xAp5,and_assoc]
        | _=>rfl
      | _=>rfl
  | _=>rfl
@[go_sem] def zkY:xAp1 T H t t' d x (some ⟨.slice e,sz,b,z⟩)=xAp2 H t t' d x (T e):=rfl
@[go_sem] def zkZ:xAp2 H t t' d x (some ⟨ty,sz,b,z⟩)=xAp3 H t t' sz b d (srcX H sz x):=rfl
@[go_sem] def zla:xAp3 H t t' sz bytes (.d .nil) (some (vc,xs,[]))=some ((t=t'/\vc)/\0<sz/\xs.length*bytes<=140737488355328/\0<bytes,.sl H.length 0 sz 0 xs.length,H ++ [.row 0 sz (scalars xs) xs]):=rfl
@[go_sem] def zlb:xAp3 H t t' sz bytes (.sl i g k lo n) (some (vc,xs,[]))=xAp4 H i g k lo n (t=t'/\vc) sz bytes xs (qat H i):=rfl
@[go_sem] def zlc {hs:List Hole}:xAp3 H t t' sz bytes (.sl i g k lo n) (some (vc,xs,h::hs))=xAp5 H i g k lo n (t=t'/\vc) sz bytes xs (h::hs) (qat H i):=rfl
@[go_sem] def zld:xAp4 H i g k lo n c sz bytes xs (some (.row g' k' dp l)) =
  some (c/\g=g'/\k=k'/\k=sz/\lo=0/\n=l.length/\dp.shut=true/\(dp.o=true->appC l (scalars xs))/\(n+xs.length)*bytes<=140737488355328/\0<bytes,.sl i (g+1) k 0 (n+xs.length),H.set i (.row (g+1) k (qfZ dp l (scalars xs)) (l++xs))):=rfl
attribute [go_sem] appDP_t qqQ appDP_o appDP_c appDP_a appC_t appC_n appC_c appC_a
@[go_sem] def zle {hs:List Hole}:xAp5 H i g k lo n c sz bytes xs hs (some (.row g' k' (.own []) l)) =
  some (c/\g=g'/\k=k'/\k=sz/\lo=0/\n=l.length/\(n+xs.length)*bytes<=140737488355328/\0<bytes,.sl i (g+1) k 0 (n+xs.length),H.set i (.row (g+1) k (.own (qed l.length hs)) (l++xs))):=rfl
@[go_sem] def zlf:qed n []=[]:=rfl
@[go_sem] def zlg {c:Nat}{r:List Hole}:qed n ((a,c,x)::r)=(n+a,c,x)::qed n r:=rfl
@[go_sem] def zlh {hs:List Hole}:qkh k hs j []=True:=rfl
def qpp:Option I->D->Prop
 | some _,_=>True
 | none,c=>c.scalar=true
@[go_sem] def zli {c:D}:qpp (some x) c=True:=rfl
@[go_sem] def zlj {c:D}:qpp none c=(c.scalar=true):=rfl
@[go_sem] def zlk {hs:List Hole}{c:D}{r:List D}:qkh k hs j (c::r)=(qpp (qaD k hs j) c/\qkh k hs (j+1) r):=by
 simp only[qkh];cases qaD k hs j <;> rfl
@[go_sem] def zll:srcX H size (.d xd)=some (xd.isLst size/\0<size,xd.elems,[]):=rfl
def qn8 (size g k lo n:Nat):Option R->Option (Prop×List D×List Hole)
 | some (.row g' k' (.own (h::hs)) l)=>some (g=g'/\k=k'/\k=size/\lo=0/\n=l.length/\0<n/\qkh k (h::hs) 0 (flat l),l,h::hs)
 | r=>qhA (qrC size g k lo n r)
@[go_sem] def zlm:srcX H size (.sl i g k lo n)=qn8 size g k lo n (qat H i):=by
 simp only[srcX,srcD_sl,qaC];cases qat H i with
 | none=>rfl
 | some r=>
  cases r with
  | row g' k' dp l=>
   rcases dp with _|hs
   ·rfl
   ·cases hs <;> rfl
  | _=>rfl
@[go_sem] def zln {hs:List Hole}:qn8 size g k lo n (some (.row g' k' (.own (h::hs)) l))=some (g=g'/\k=k'/\k=size/\lo=0/\n=l.length/\0<n/\qkh k (h::hs) 0 (flat l),l,h::hs):=rfl
@[go_sem] def zlo:qn8 size g k lo n (some (.row g' k' (.own []) l))=some (g=g'/\k=k'/\k=size/\(scalars ((l.drop lo).take n)=true),(l.drop lo).take n,[]):=by
 simp only[qn8,qrC,qhA,DP.o,true_implies]
@[go_sem] def zlp:qn8 size g k lo n (some (.row g' k' .fz l))=some (g=g'/\k=k'/\k=size,(l.drop lo).take n,[]):=by
 simp[qn8,qrC,qhA,DP.o]
@[go_sem] def zlq {x:D}:flat [x]=x.cells ++ []:=rfl
def xZr4 (H:List R) (i g k lo n size:Nat) (z:D):Option R->Option (Prop×I×List R)
 | some (.row g' k' dp l)=>some (g=g'/\k=k'/\k=size/\size=1/\z.scalar=true/\l.all D.scalar=true,.d (.tup []),H.set i (.row g' k' dp (qbb l lo (List.replicate n z))))
 | _=>none
def xZr3 (H:List R) (size:Nat) (z:D):I->Option (Prop×I×List R)
 | .sl i g k lo n=>xZr4 H i g k lo n size z (qat H i)
 | _=>none
def xZr2 (H:List R) (d:I):Option TI->Option (Prop×I×List R)
 | some ei=>xZr3 H ei.size ei.zero d
 | none=>none
def xZr1 (T:Nat->Option TI) (H:List R) (d:I):Option TI->Option (Prop×I×List R)
 | some ⟨.slice e,_,_,_⟩=>xZr2 H d (T e)
 | _=>none
@[go_sem] def zlr:qjy T H t d=xZr1 T H d (T t):=by
 unfold qjy;cases T t with
 | none=>rfl
 | some ti=>
  obtain⟨ty,sz,b,z⟩:=ti;cases ty with
  | slice e=>
   simp only[xZr1];cases T e with
   | none=>rfl
   | some ei=>
    cases d <;> simp only[xZr2,xZr3,<-qaC]
    rename_i i g k lo n;cases H[i]? with
    | none=>rfl
    | some r=>cases r <;> rfl
  | _=>rfl
@[go_sem] def zls {sz b:Nat}{z:D}:xZr1 T H d (some ⟨.slice e,sz,b,z⟩)=xZr2 H d (T e):=rfl
@[go_sem] def zlt {ty:Ty}{sz b:Nat}{z:D}:xZr2 H d (some ⟨ty,sz,b,z⟩)=xZr3 H sz z d:=rfl
@[go_sem] def zlu {sz:Nat}{z:D}:xZr3 H sz z (.sl i g k lo n)=xZr4 H i g k lo n sz z (qat H i):=rfl
@[go_sem] def zlv {sz:Nat}{z:D}:xZr4 H i g k lo n sz z (some (.row g' k' dp l))=some (g=g'/\k=k'/\k=sz/\sz=1/\z.scalar=true/\l.all D.scalar=true,.d (.tup []),H.set i (.row g' k' dp (qbb l lo (List.replicate n z)))):=rfl
def xCp4 (H:List R) (i g k lo n:Nat) (vc:Prop) (size:Nat) (xs:List D):Option R->Option (Prop×I×List R)
 | some (.row g' k' dp l)=>some (vc/\g=g'/\k=k'/\k=size/\size=1/\xs.length<=n/\lo+n<=l.length/\xs.all D.scalar=true/\l.all D.scalar=true,
       .d (.int .i64 (xs.length:Nat)),H.set i (.row g' k' dp (qbb l lo xs)))
 | _=>none
def xCp3 (H:List R) (size:Nat):Option (Prop×List D)->I->Option (Prop×I×List R)
 | some (vc,xs),.sl i g k lo n=>xCp4 H i g k lo n vc size xs (qat H i)
 | _,_=>none
def xCp2 (H:List R) (d x:I):Option TI->Option (Prop×I×List R)
 | some ei=>xCp3 H ei.size (srcD H ei.size x) d
 | none=>none
def xCp1 (T:Nat->Option TI) (H:List R) (d x:I):Option TI->Option (Prop×I×List R)
 | some ⟨.slice e,_,_,_⟩=>xCp2 H d x (T e)
 | _=>none
@[go_sem] def zlw:qnW T H t t' d x=xCp1 T H d x (T t):=by
 unfold qnW;cases T t with
 | none=>rfl
 | some ti=>
  obtain⟨ty,sz,b,z⟩:=ti;cases ty with
  | slice e=>
   simp only[xCp1];cases T e with
   | none=>rfl
   | some ei=>
    simp only[xCp2];cases srcD H ei.size x with
    | none=>cases d <;> rfl
    | some q=>
     obtain⟨vc,xs⟩:=q;cases d <;> simp only[xCp3,<-qaC]
     rename_i i g k lo n;cases H[i]? with
     | none=>rfl
     | some r=>cases r <;> rfl
  | _=>rfl
@[go_sem] def zlx:xCp1 T H d x (some ⟨.slice e,sz,b,z⟩)=xCp2 H d x (T e):=rfl
@[go_sem] def zly:xCp2 H d x (some ⟨ty,sz,b,z⟩)=xCp3 H sz (srcD H sz x) d:=rfl
@[go_sem] def zlz:xCp3 H sz (some (vc,xs)) (.sl i g k lo n)=xCp4 H i g k lo n vc sz xs (qat H i):=rfl
@[go_sem] def zlA:xCp4 H i g k lo n vc sz xs (some (.row g' k' dp l)) =
  some (vc/\g=g'/\k=k'/\k=sz/\sz=1/\xs.length<=n/\lo+n<=l.length/\xs.all D.scalar=true/\l.all D.scalar=true,.d (.int .i64 (xs.length:Nat)),H.set i (.row g' k' dp (qbb l lo xs))):=rfl
@[go_sem] def zlB {cs:List D}:fnOf (.d (.fn g cs))=some (g,cs.map .d):=rfl
@[go_sem] def zlC:fnOf (.fn g cs)=some (g,cs):=rfl
def qpq (E:Env) (c:Prop) (f:Nat) (H:List R) (K:I->List R->Prop):Option (Prop×List D)->Prop
 | some (vc,ds)=>c/\vc/\qn0 E f ds H K
 | none=>False
def qln (E:Env) (c:Prop) (f:Nat) (H:List R) (K:I->List R->Prop):Option (Prop×List D)->Prop
 | some (vc,ds)=>c/\vc/\qn1 E f ds H K
 | none=>False
def qjD (E:Env) (c:Prop) (f:Nat) (args:List I) (H:List R) (K:I->List R->Prop):Kind->Prop
 | .own=>qpq E c f H K (qfb H args)
 | .fz=>qln E c f H K (qhP args)
 | .proc=>c/\ICall E.P f args H K
@[go_sem] def zlD:qfd E c (some (f,caps)) args H K=qjD E c f (args++caps) H K (E.pf f):=by
 simp only[qfd];cases E.pf f with
 | own=>simp only[qjD];cases qfb H (args++caps) <;> rfl
 | fz=>simp only[qjD];cases qhP (args++caps) <;> rfl
 | proc=>rfl
@[go_sem] def zlE:qjD E c f args H K .own=qpq E c f H K (qfb H args):=rfl
@[go_sem] def zlF:qjD E c f args H K .fz=qln E c f H K (qhP args):=rfl
@[go_sem] def zlG:qjD E c f args H K .proc=(c/\ICall E.P f args H K):=rfl
@[go_sem] def zlH:qpq E c f H K (some (vc,ds))=(c/\vc/\qn0 E f ds H K):=rfl
@[go_sem] def zlI:qln E c f H K (some (vc,ds))=(c/\vc/\qn1 E f ds H K):=rfl
def qpr (E:Env) (c:Prop) (e:Bool) (f:Nat) (K:I->Prop):Option (Prop×List D)->Prop
 | some (vc,ds)=>(e=true->c/\vc)/\qqZ E e f ds K
 | none=>False
def qjE (E:Env) (c:Prop) (e:Bool) (f:Nat) (args:List I) (H:List R) (K:List R->I->Prop):Kind->Prop
 | .own=>qpr E c e f (K H) (qfb H args)
 | .proc=>(e=false->∃ x,K H (.cond e x))/\(e=true->c/\ICall E.P f args H (fun r H'=>K H' (.cond e r)))
 | .fz=>(e=false->∃ x,K H (.cond e x))/\(e=true->qln E c f H (fun r H'=>K H' (.cond e r)) (qhP args))
@[go_sem] def zlJ {e:Bool}{K:List R->I->Prop}:qlg E c e (some (f,caps)) args H K=qjE E c e f (args++caps) H K (E.pf f):=by
 simp only[qlg];cases E.pf f with
 | own=>simp only[qjE];cases qfb H (args++caps) <;> rfl
 | fz=>simp only[qjE];cases qhP (args++caps) <;> rfl
 | proc=>rfl
@[go_sem] def zlK {e:Bool}{K:List R->I->Prop}:qjE E c e f args H K .proc=((e=false->∃ x,K H (.cond e x))/\(e=true->c/\ICall E.P f args H (fun r H'=>K H' (.cond e r)))):=rfl
@[go_sem] def zlL {e:Bool}{K:List R->I->Prop}:qjE E c e f args H K .fz=((e=false->∃ x,K H (.cond e x))/\(e=true->qln E c f H (fun r H'=>K H' (.cond e r)) (qhP args))):=rfl
@[go_sem] def zlM {e:Bool}{K:List R->I->Prop}:qjE E c e f args H K .own=qpr E c e f (K H) (qfb H args):=rfl
@[go_sem] def zlN {e:Bool}{K:I->Prop}:qpr E c e f K (some (vc,ds))=((e=true->c/\vc)/\qqZ E e f ds K):=rfl
def qrF:Option (Prop×D)->Option (Prop×List D)->Option (Prop×List D)
 | some (vc,d),some (vc',ds)=>some (vc/\vc',d::ds)
 | _,_=>none
def consO:Option (Prop×D)->Option (Prop×List D)->Option (Prop×List D)
 | some (vc,d),some (vc',ds)=>some (vc/\d.one=true/\vc',d::ds)
 | _,_=>none
@[go_sem] def zlO {d:D}:qrF (some (vc,d)) (some (vc',ds))=some (vc/\vc',d::ds):=rfl
@[go_sem] def zlP {d:D}:consO (some (vc,d)) (some (vc',ds))=some (vc/\d.one=true/\vc',d::ds):=rfl
@[go_sem] def zlQ:qfb H []=some (True,[]):=rfl
@[go_sem] def qn9:qfb H (x::r)=qrF (view H 3 x) (qfb H r):=by
 simp only[qfb,qdW];cases view H 3 x with
 | none=>rfl
 | some p=>obtain⟨vc,d⟩:=p;cases qdW (view H 3) r <;> rfl
@[go_sem] def zlR:qhP []=some (True,[]):=rfl
@[go_sem] def zlS {x:D}:qhP (.d x::r)=qrF (some (True,x)) (qhP r):=by
 simp only[qhP,qdW,view];cases qdW (view [] 0) r <;> rfl
@[go_sem] def zlT {f:I->Option (Prop×D)}:qfI f []=some (True,[]):=rfl
@[go_sem] def zlU {f:I->Option (Prop×D)}:qfI f (x::r)=consO (f x) (qfI f r):=by
 simp only[qfI];cases f x with
 | none=>rfl
 | some p=>obtain⟨vc,d⟩:=p;cases qfI f r <;> rfl
@[go_sem] def zlV {f:I->Option (Prop×D)}:qdW f []=some (True,[]):=rfl
@[go_sem] def zlW {f:I->Option (Prop×D)}:qdW f (x::r)=qrF (f x) (qdW f r):=by
 simp only[qdW];cases f x with
 | none=>rfl
 | some p=>obtain⟨vc,d⟩:=p;cases qdW f r <;> rfl
def vSl (g k lo n:Nat):Option R->Option (Prop×D)
 | some (.row g' k' dp l)=>some (g=g'/\k=k'/\dp.shut=true,.lst k ((l.drop lo).take n))
 | _=>none
def vPtr:Option (Prop×List D)->Option (Prop×D)
 | some (vc,ds)=>some (vc,.ptr ds)
 | none=>none
def vBox (H:List R) (f off:Nat):Option R->Option (Prop×D)
 | some (.box cs)=>vPtr (qfI (view H f) (cs.drop off))
 | _=>none
def vAgg:Option (Prop×List D)->Option (Prop×D)
 | some (vc,ds)=>some (vc,.agg ds)
 | none=>none
def vTup:Option (Prop×List D)->Option (Prop×D)
 | some (vc,ds)=>some (vc,.tup ds)
 | none=>none
def vFn (g:Nat):Option (Prop×List D)->Option (Prop×D)
 | some (vc,ds)=>some (vc,.fn g ds)
 | none=>none
@[go_sem] def zlX {x:D}:view H (f+1) (.d x)=some (True,x):=rfl
@[go_sem] def zlY:view H (f+1) (.sl i g k lo n)=vSl g k lo n (qat H i):=by
 simp only[view,qaC];cases qat H i with
 | none=>rfl
 | some r=>cases r <;> rfl
@[go_sem] def zlZ:view H (f+1) (.ptr i off)=vBox H f off (qat H i):=by
 simp only[view,qaC];cases qat H i with
 | none=>rfl
 | some r=>
  cases r <;> simp only[vBox]
  rename_i cs;cases qfI (view H f) (cs.drop off) <;> rfl
@[go_sem] def zma:view H (f+1) (.agg cs)=vAgg (qfI (view H f) cs):=by
 simp only[view];cases qfI (view H f) cs <;> rfl
@[go_sem] def zmb:view H (f+1) (.fn g cs)=vFn g (qdW (view H f) cs):=by
 simp only[view];cases qdW (view H f) cs <;> rfl
@[go_sem] def zmc:view H (f+1) (.tup cs)=vTup (qdW (view H f) cs):=by
 simp only[view];cases qdW (view H f) cs <;> rfl
@[go_sem] def zmd:vTup (some (vc,ds))=some (vc,.tup ds):=rfl
@[go_sem] def zme:vSl g k lo n (some (.row g' k' dp l))=some (g=g'/\k=k'/\dp.shut=true,.lst k ((l.drop lo).take n)):=rfl
@[go_sem] def zmf:vBox H f off (some (.box cs))=vPtr (qfI (view H f) (cs.drop off)):=rfl
@[go_sem] def zmg:vPtr (some (vc,ds))=some (vc,.ptr ds):=rfl
@[go_sem] def zmh:vAgg (some (vc,ds))=some (vc,.agg ds):=rfl
@[go_sem] def zmi:vFn g (some (vc,ds))=some (vc,.fn g ds):=rfl
def endR (Po:I->List R->Prop) (H:List R):Option (Prop×I)->Prop
 | some (vc,r)=>vc/\Po r H
 | none=>False
def resO:Option (Prop×List I)->Option (Prop×I)
 | some (vc,[x])=>some (vc,x)
 | some (vc,l)=>some (vc,.tup l)
 | none=>none
def consT (x:I):Option (Prop×List I)->Option (Prop×List I)
 | some (vc,l)=>some (vc,x::l)
 | none=>none
def consC:Option (Prop×I)->Option (Prop×List I)->Option (Prop×List I)
 | some (c,x),some (vc,l)=>some (c/\vc,x::l)
 | _,_=>none
@[go_sem] def qps:endsWith T fn Po .normal fr H=endR (Po fr) H (resI T H fr fn.results.toList):=by
 simp only[endsWith];cases resI T H fr fn.results.toList <;> rfl
@[go_sem] def qs0:endsWith T fn Po .ret fr H=endR (Po fr) H (resI T H fr fn.results.toList):=by
 simp only[endsWith];cases resI T H fr fn.results.toList <;> rfl
@[go_sem] def zmj {Po:I->List R->Prop}{r:I}:endR Po H (some (vc,r))=(vc/\Po r H):=rfl
@[go_sem] def zmk {rs:List ResultVar}:resI T H fr rs=resO (resC T H fr rs):=by
 simp only[resI];cases resC T H fr rs with
 | none=>rfl
 | some p=>obtain⟨vc,l⟩:=p;match l with|[]=>rfl|[x]=>rfl|x::y::r=>rfl
@[go_sem] def zml:resC T H fr []=some (True,[]):=rfl
@[go_sem] def zmm {r:List ResultVar}:resC T H fr (.tmp t::r)=consT (fr.get t) (resC T H fr r):=by
 simp only[resC];cases resC T H fr r <;> rfl
@[go_sem] def zmn {x:Nat}{r:List ResultVar}:resC T H fr (.cell x t::r)=consC (qfG T H t (fr.get x)) (resC T H fr r):=by
 simp only[resC];cases qfG T H t (fr.get x) with
 | none=>rfl
 | some p=>cases resC T H fr r <;> rfl
@[go_sem] def zmo {l:List I}:consT x (some (vc,l))=some (vc,x::l):=rfl
@[go_sem] def zmp {l:List I}:consC (some (c,x)) (some (vc,l))=some (c/\vc,x::l):=rfl
@[go_sem] def zmq:resO (some (vc,[x]))=some (vc,x):=rfl
@[go_sem] def zmr:resO (some (vc,[]))=some (vc,.tup []):=rfl
@[go_sem] def zms {y:I}:resO (some (vc,x::y::r))=some (vc,.tup (x::y::r)):=rfl
@[go_sem] def zmt {x:D}{ids:List Nat}:pkR x (some (vc,x',ids))=(vc/\ids.Nodup/\wk x' x):=rfl
@[go_sem] def zmu {x:D}:vwR x (some (vc,x'))=(vc/\wk x' x):=rfl
def pkS (i g k lo m:Nat):Option R->Option (Prop×D×List Nat)
 | some (.row g' k' (.own []) l)=>some (g=g'/\k=k'/\lo=0/\m=l.length,.lst k l,[i])
 | _=>none
@[go_sem] def zmv:pkS i g k lo m (some (.row g' k' (.own []) l))=some (g=g'/\k=k'/\lo=0/\m=l.length,.lst k l,[i]):=rfl
@[go_sem] def zmw {x:D}:pk H f (.d x)=some (qkl x=true,x,[]):=by cases f <;> rfl
@[go_sem] def zmx:pk H f (.sl i g k lo m)=pkS i g k lo m (qat H i):=by
 rw[<-qaC];cases f <;> simp only[pk] <;> (cases H[i]? with
  | none=>rfl
  | some r=>cases r <;> first|rfl|(rename_i dp _;rcases dp with _|hs;rfl;cases hs <;> rfl))
def pkA:Option (Prop×List D×List Nat)->Option (Prop×D×List Nat)
 | some (vc,ds,l)=>some (vc/\ones ds,.agg ds,l)
 | none=>none
def pkT:Option (Prop×List D×List Nat)->Option (Prop×D×List Nat)
 | some (vc,ds,l)=>some (vc,.tup ds,l)
 | none=>none
def pkC:Option (Prop×D×List Nat)->Option (Prop×List D×List Nat)->Option (Prop×List D×List Nat)
 | some (vc,d,l),some (vc',ds,l')=>some (vc/\vc',d::ds,l++l')
 | _,_=>none
@[go_sem] def zmy:pk H (f+1) (.agg cs)=pkA (pkL (pk H f) cs):=by simp only[pk];cases pkL (pk H f) cs <;> rfl
@[go_sem] def zmz:pk H (f+1) (.tup cs)=pkT (pkL (pk H f) cs):=by simp only[pk];cases pkL (pk H f) cs <;> rfl
@[go_sem] def zmA {l:List Nat}:pkA (some (vc,ds,l))=some (vc/\ones ds,.agg ds,l):=rfl
@[go_sem] def zmB {l:List Nat}:pkT (some (vc,ds,l))=some (vc,.tup ds,l):=rfl
@[go_sem] def zmC {d:D}{l l':List Nat}:pkC (some (vc,d,l)) (some (vc',ds,l'))=some (vc/\vc',d::ds,l++l'):=rfl
@[go_sem] def zmD {f:I->Option (Prop×D×List Nat)}:pkL f []=some (True,[],[]):=rfl
@[go_sem] def zmE {f:I->Option (Prop×D×List Nat)}:pkL f (x::r)=pkC (f x) (pkL f r):=by
 simp only[pkL];cases f x with
 | none=>rfl
 | some p=>obtain⟨vc,d,l⟩:=p;cases pkL f r <;> rfl
@[go_sem] def zmF:ones []=True:=rfl
@[go_sem] def zmG {x:D}{r:List D}:ones (x::r)=(x.one=true/\ones r):=rfl
@[go_sem] def zmH {k:IntKind}{n:Int}:qkl (.int k n)=true:=rfl
@[go_sem] def zmI {b:Bool}:qkl (.bool b)=true:=rfl
@[go_sem] def zmJ:qkl .nil=true:=rfl
@[go_sem] def zmK {cs:List D}:qkl (.agg cs)=cs.all qmm:=rfl
@[go_sem] def zmL {k:IntKind}{n:Int}:qmm (.int k n)=true:=rfl
@[go_sem] def zmM:qmm .nil=true:=rfl
@[go_sem] def zmN {k:IntKind}{n:Int}{y:D}:wk (.int k n) y=(D.int k n=y):=by cases y <;> rfl
@[go_sem] def zmO {b:Bool}{y:D}:wk (.bool b) y=(D.bool b=y):=by cases y <;> rfl
@[go_sem] def zmP {y:D}:wk (.lst k l) y=(D.lst k l=y):=by cases y <;> rfl
@[go_sem] def zmQ:wk .nil (.lst k l)=(0<k/\l=[]):=rfl
@[go_sem] def zmR:wk (.agg xs) (.agg ys)=wkL xs ys:=rfl
@[go_sem] def zmS:wk (.tup xs) (.tup ys)=wkT xs ys:=rfl
@[go_sem] def zmT:wkL [] []=True:=rfl
@[go_sem] def zmU {x y:D}:wkL (x::xs) (y::ys)=(wk1 x y/\wkL xs ys):=rfl
@[go_sem] def zmV:wkT [] []=True:=rfl
@[go_sem] def zmW {x y:D}:wkT (x::xs) (y::ys)=(wk2 x y/\wkT xs ys):=rfl
@[go_sem] def zmX {k:IntKind}{n:Int}{y:D}:wk1 (.int k n) y=(D.int k n=y):=by cases y <;> rfl
@[go_sem] def zmY {b:Bool}{y:D}:wk1 (.bool b) y=(D.bool b=y):=by cases y <;> rfl
@[go_sem] def zmZ {y:D}:wk1 (.lst k l) y=(D.lst k l=y):=by cases y <;> rfl
@[go_sem] def zna:wk1 .nil (.lst k l)=(0<k/\l=[]):=rfl
@[go_sem] def znb {b:Bool}{y:D}:wk2 (.bool b) y=(D.bool b=y):=by cases y <;> rfl
@[go_sem] def znc {y:D}:wk2 (.lst k l) y=(D.lst k l=y):=by cases y <;> rfl
@[go_sem] def znd:wk2 .nil (.lst k l)=(0<k/\l=[]):=rfl
@[go_sem] def zne:wk2 (.agg xs) (.agg ys)=wkL xs ys:=rfl
def pure_of {E : Env} (hT : TOK E.P E.T) (hn : E.n = 0)   {c : Code}   {x : D} (fuel : Nat) (hf : E.P.funcs[f]? = some fn) (hb : fn.body = some c) (hnm : (fn.name == "runtime.NumGoroutine") = false) (hnt : fn.ntmps = nt) (hl : ds.length <= nt)
  (h:qaZ E fuel c [] (endsWith E.T fn (fun fr r H'=>pkR x (pk H' 3 r))) ⟨nt,qdq 0 (ds.map .d)⟩ []):Pure E.P f ds x:=by
 subst hnt;refine qfx hT hf hb hnm hl ?_;have:=qc9 hT fuel h;rw[hn] at this;exact this
def qrG {E : Env} (hT : TOK E.P E.T) (hn : E.n = 0)   {c : Code}   {x : D} (fuel : Nat) (hf : E.P.funcs[f]? = some fn) (hb : fn.body = some c) (hnm : (fn.name == "runtime.NumGoroutine") = false) (hnt : fn.ntmps = nt) (hl : ds.length <= nt)
  (h:qaZ E fuel c [] (endsWith E.T fn (fun fr r H'=>vwR x (view H' 3 r))) ⟨nt,qdq 0 (ds.map .d)⟩ []):PureF E.P f ds x:=by
 subst hnt;refine qmo hT hf hb hnm hl ?_;have:=qc9 hT fuel h;rw[hn] at this;exact this
def qac {k:I->List R->Prop}{x:D}(h:Pure E.P f ds x) (hk:k (.d x) H):qn0 E f ds H k:=⟨_,h.toE,fun y hy=>by rw[hy];exact .inl hk⟩
def qgn {k:I->List R->Prop}(h:PureE E.P f ds ψ) (hk : ∀ x,ψ x->k (.d x) H):qn0 E f ds H k:=⟨_,h,fun y hy=>.inl (hk y hy)⟩
def qbJ {k:I->List R->Prop}{x:D}(h:PureF E.P f ds x) (hk:k (.d x) H):qn1 E f ds H k:=⟨_,h.toE,fun y hy=>by rw[hy];exact hk⟩
def qpt {k:I->List R->Prop}(h:PureFE E.P f ds ψ) (hk : ∀ x,ψ x->k (.d x) H):qn1 E f ds H k:=⟨ψ,h,hk⟩
def qaN {e:Bool}{k:I->Prop}{x:D}(h:e=true->Pure E.P f ds x) (hk:k (.cond e (.d x))):qqZ E e f ds k:=⟨x,h,hk⟩
end Go.VL
namespace Go.VL
set_option linter.defProp false
variable {r:List (Nat×Nat×Bool)}{cs:List I}{g k m t i lo off g' k':Nat}{dp:Bool}{l l':List D}{es:List (D×D)}{x y:I}{v:Value}{H' K:List R}{b:D}
variable {E:Env}{Q:Post}{fr:Fr}{H:List R}{n:Nat}
variable {S:Nat->Prop}{φ : List (List Nat)}{w:World}
def qct:Nat->List R->List R
 | _,[]=>[]
 | 0,H=>H
 | n+1,r::H=>.dead r.gen::qct n H
@[go_sem] def znf {H:List R}:qct 0 H=H:=by cases H <;> rfl
@[go_sem] def zng {n:Nat}:qct n []=[]:=by cases n <;> rfl
@[go_sem] def znh {n:Nat}{r:R}{H:List R}:qct (n+1) (r::H)=.dead r.gen::qct n H:=rfl
@[go_sem] def zni:(R.box cs).gen=0:=rfl
@[go_sem] def znj {dp:DP}:(R.row g k dp l).gen=g:=rfl
@[go_sem] def znk:(R.map es).gen=0:=rfl
@[go_sem] def znl:(R.dead g).gen=g:=rfl
def qdd : ∀ (n:Nat) (H:List R),(qct n H).length=H.length
 | 0,H=>by simp[go_sem]
 | n+1,[]=>rfl
 | n+1,r::H=>by simp[qct,qdd n H]
def qkq : ∀ (n:Nat) (H:List R) (i:Nat),i<n->i<H.length->∃ g,(qct n H)[i]?=some (.dead g)/\g=(H.getD i (.dead 0)).gen
 | 0,H,i,h,_=>by omega
 | n+1,[],i,_,h=>by simp at h
 | n+1,r::H,0,_,_=>⟨_,rfl,rfl⟩
 | n+1,r::H,i+1,h1,h2=>by simpa [qct] using qkq n H i (by omega) (by simpa using h2)
def qkr : ∀ (n:Nat) (H:List R) (i:Nat),n<=i->(qct n H)[i]?=H[i]?
 | 0,H,i,_=>by simp[go_sem]
 | n+1,[],i,_=>rfl
 | n+1,r::H,0,h=>by omega
 | n+1,r::H,i+1,h=>by simpa [qct] using qkr n H i (by omega)
def qdN (n:Nat) (φ : List (List Nat)):List (List Nat):=(List.range φ.length).map fun i=>if i<n then [] else φ.getD i []
def qce (n:Nat) (φ : List (List Nat)) (i:Nat):(qdN n φ).getD i []=if i<n then [] else φ.getD i []:=by
 simp only[qdN,List.getD,List.getElem?_map];by_cases h:i < φ.length
 ·simp[h]
 ·simp[h]
def Sim.kill (s:Sim S φ H w) (n:Nat):Sim S (qdN n φ) (qct n H) w/\Tr H.length S φ H w S (qdN n φ) (qct n H) w:=by
 have hfoot : ∀ b,Foot (qdN n φ) b->Foot φ b:=by
  rintro b ⟨i,hi⟩;rw[qce] at hi;split at hi
  ·simp at hi
  ·exact⟨i,hi⟩
 have hsome : ∀ i r,(qct n H)[i]?=some r->(∃ g,r=.dead g)∨n<=i/\H[i]?=some r:=by
  intro i r hr;by_cases h:i<n
  ·have hl:=(List.getElem?_eq_some_iff.1 hr).1;rw[qdd] at hl;obtain⟨g,hg,_⟩:=qkq n H i h hl;rw[hg] at hr;simp at hr;exact .inl ⟨g,hr.symm⟩
  ·rw[qkr n H i (by omega)] at hr;exact .inr ⟨by omega,hr⟩
 have htr:Tr H.length S φ H w S (qdN n φ) (qct n H) w:=by
  refine⟨fun _ h=>h,fun _ _=>rfl,yad _,by rw[qdd];exact yad _,?_,?_,?_,?_,?_⟩
  ·intro i hi;by_cases h:i<n
   ·obtain⟨g,hg,e⟩:=qkq n H i h hi;have:(qct n H).getD i (.dead 0)=.dead g:=by simp[List.getD,hg]
    rw[this,e];exact yad _
   ·have:(qct n H).getD i (.dead 0)=H.getD i (.dead 0):=by simp only[List.getD,qkr n H i (by omega)]
    rw[this];exact yad _
  ·intro i g k dp' l' hi hl';rcases hsome i _ hl' with⟨_,h⟩|⟨h,h2⟩
   ·cases h
   ·exact .inr ⟨dp',l',h2,by rw[qce,if_neg (by omega)],yad _,fun b rest arr ty e1 e2=>⟨arr,ty,e2,yad _⟩⟩
  ·intro i cs hi hl';rcases hsome i _ hl' with⟨_,h⟩|⟨h,h2⟩
   ·cases h
   ·exact⟨cs,h2,by rw[qce,if_neg (by omega)]⟩
  ·intro i cs hi hl';rcases hsome i _ hl' with⟨_,h⟩|⟨h,h2⟩
   ·cases h
   ·exact⟨cs,h2,by rw[qce,if_neg (by omega)]⟩
  ·intro i x hi hl';rcases hsome i _ hl' with⟨_,h⟩|⟨h,h2⟩
   ·cases h
   ·exact⟨h2,by rw[qce,if_neg (by omega)],fun _ _=>rfl⟩
 refine⟨⟨?_,?_,?_,fun b hb=>s.lt b (hfoot b hb),fun b hb=>s.off b (hfoot b hb),s.slt,?_⟩,htr⟩
 ·simp[qdN,qdd,s.len]
 ·intro i;rw[qce];split
  ·simp
  ·exact s.nd i
 ·intro i j b hb hb';rw[qce] at hb hb';split at hb
  ·simp at hb
  ·split at hb'
   ·simp at hb'
   ·exact s.dj i j b hb hb'
 ·intro i r hr;rcases hsome i r hr with⟨g,rfl⟩|⟨h,h2⟩
  ·trivial
  ·rw[qce,if_neg (by omega)];exact(s.rel i r h2).tr htr fun _ _=>rfl
def qiz (s:Sim S φ H w) {n:Nat}(hn:n<=H.length) (hH:qef n (H.take n)) :
  Sim (fun b=>S b∨Foot (qdN n φ) b) (φ.take n) (H.take n) w/\Tr n S φ H w (fun b=>S b∨Foot (qdN n φ) b) (φ.take n) (H.take n) w/\Ext S φ w (fun b=>S b∨Foot (qdN n φ) b) (φ.take n) w:=by
 obtain⟨S1,φ1,s1,hf1,he1,ht1⟩:=Ghost.drop (n:=n) n (fr:=⟨0,[]⟩) (H:=H) (yad _) hn trivial hH S φ w { tmps:=#[],defers:=[] } hn s ⟨rfl,rfl,fun t=>.junk⟩;have hget : ∀ i,(φ.take n).getD i []=if i<n then φ.getD i [] else []:=by
  intro i;by_cases h:i<n
  ·rw[if_pos h,getD_take _ _ _ _ h]
  ·rw[if_neg h];simp[List.getD,List.getElem?_take,h]
 have hfoot : ∀ b,Foot (φ.take n) b->Foot φ b/\¬ Foot (qdN n φ) b:=by
  rintro b ⟨i,hi⟩;rw[hget] at hi;split at hi
  ·refine⟨⟨i,hi⟩,?_⟩;rintro⟨j,hj⟩;rw[qce] at hj;split at hj
   ·simp at hj
   ·have:=s.dj i j b hi hj;omega
  ·simp at hi
 have hkill : ∀ b,Foot (qdN n φ) b->Foot φ b:=by
  rintro b ⟨i,hi⟩;rw[qce] at hi;split at hi
  ·simp at hi
  ·exact⟨i,hi⟩
 have hsub:Tr n S φ H w (fun b=>S b∨Foot (qdN n φ) b) (φ.take n) (H.take n) w:=by
  refine⟨fun _ h=>.inl h,fun _ _=>rfl,hn,by simp;omega,fun i hi=>by rw[getD_take _ _ _ _ hi];exact yad _,?_,?_,?_,?_⟩
  ·intro i g k dp' l' hi hl';rw[qbu _ _ _ hi] at hl';exact .inr ⟨dp',l',hl',by rw[getD_take _ _ _ _ hi],yad _,fun b rest arr ty e1 e2=>⟨arr,ty,e2,yad _⟩⟩
  ·intro i cs hi hl';rw[qbu _ _ _ hi] at hl';exact⟨cs,hl',getD_take _ _ _ _ hi⟩
  ·intro i cs hi hl';rw[qbu _ _ _ hi] at hl';exact⟨cs,hl',getD_take _ _ _ _ hi⟩
  ·intro i x hi hl';rw[qbu _ _ _ hi] at hl';exact⟨hl',getD_take _ _ _ _ hi,fun _ _=>rfl⟩
 refine⟨⟨by simp[s.len],?_,?_,fun b hb=>s.lt b (hfoot b hb).1,?_,?_,?_⟩,hsub,⟨rfl,rfl,rfl,yad _,fun _ _ _=>rfl,fun b hb=>.inl (hfoot b hb).1,fun _ h=>.inl h,?_⟩⟩
 ·intro i;rw[hget];split
  ·exact s.nd i
  ·simp
 ·intro i j b hb hb';rw[hget] at hb hb';split at hb
  ·split at hb'
   ·exact s.dj i j b hb hb'
   ·simp at hb'
  ·simp at hb
 ·intro b hb h;rcases h with h|h
  ·exact s.off b (hfoot b hb).1 h
  ·exact(hfoot b hb).2 h
 ·intro b h;rcases h with h|h
  ·exact s.slt b h
  ·exact s.lt b (hkill b h)
 ·intro i r hr;have hlt:i<n:=by
   have:=(List.getElem?_eq_some_iff.1 hr).1;simp at this;omega
  rw[hget,if_pos hlt];have hb:=qfc hH i r hr;rw[qbu _ _ _ hlt] at hr;have h1:=(s.rel i r hr).take hn s.len hb;have htr2:Tr (H.take n).length S (φ.take n) (H.take n) w (fun b=>S b∨Foot (qdN n φ) b) (φ.take n) (H.take n) w:=by
   refine⟨fun _ h=>.inl h,fun _ _=>rfl,yad _,yad _,fun _ _=>yad _,fun i g k dp' l' hi hl=>.inr ⟨dp',l',hl,rfl,yad _,fun b rest arr ty e1 e2=>⟨arr,ty,e2,yad _⟩⟩,
    fun i cs hi h=>⟨cs,h,rfl⟩,fun i es hi h=>⟨es,h,rfl⟩,fun i x hi h=>⟨h,rfl,fun _ _=>rfl⟩⟩
  exact h1.tr htr2 fun _ _=>rfl
 ·intro b h;rcases h with h|h
  ·exact .inl h
  ·exact .inr (.inl (hkill b h))
def fit1 (K:List R) (x y:I):Prop:=
 match y with
 | .d b=>(match x with
  | .d a=>wk a b
  | _=>(match view K 3 x with|some (vc,a)=>vc/\wk a b|none=>False))
 | _=>x=y
def fitF (K:List R) (fr:Fr):List (Nat×I)->Prop
 | []=>True
 | (t,x)::r=>fit1 K (fr.get t) x/\fitF K fr r
def fitR:R->R->Prop
 | .row g k (.own []) l,.row g' k' .fz l'=>g=g'/\k=k'/\l=l'/\scalars l=true
 | x,y=>x=y
def fitH:List R->List R->Prop
 | _,[]=>True
 | x::r,y::s=>fitR x y/\fitH r s
 | [],_::_=>False
def fit (n nt:Nat) (fr:Fr) (H:List R) (m:List (Nat×I)) (H':List R):Prop:=
 fr.n=nt/\n<=H'.length/\fitF (qct H'.length H) fr m/\fitH H H'/\qiq H'.length m/\qef H'.length H'
def qcq {x y:R}(h:fitR x y):x=y∨∃ g k l,x=.row g k (.own []) l/\y=.row g k .fz l/\scalars l=true:=by
 unfold fitR at h;split at h
 ·obtain⟨rfl,rfl,rfl,h⟩:=h;exact .inr ⟨_,_,_,rfl,rfl,h⟩
 ·exact .inl h
def qne : ∀ {H H':List R},fitH H H'->H'.length<=H.length/\∀ (i:Nat) (y:R),H'[i]?=some y->∃ x:R,H[i]?=some x/\fitR x y
 | H,[],_=>by simp
 | x::r,y::s,h=>by
  obtain⟨h1,h2⟩:=qne h.2;refine⟨by simp;omega,fun i z hz=>?_⟩;cases i with
  | zero=>simp at hz;subst hz;exact⟨x,rfl,h.1⟩
  | succ i=>simpa using h2 i z (by simpa using hz)
 | [],_::_,h=>h.elim
def qf5 : ∀ {l:List D},scalars l=true->∀ c∈flat l,c.scalar=true
 | [],_,c,hc=>by simp[flat] at hc
 | x::r,h,c,hc=>by
  simp only[scalars,yap,yaJ] at h;simp only[flat,yaO,yax] at hc;rcases hc with hc|hc
  ·exact h.1 c hc
  ·exact qf5 h.2 c (by simpa [flat] using hc)
def qpu {w:World}{x:D}{fp:List Nat}(h:OW w x v fp) (hx:x.scalar=true):fp=[]:=by
 cases h <;> simp[D.scalar] at hx <;> rfl
def Sim.fitR (s:Sim S φ H w) (hl:H'.length=H.length) (h : ∀ (i:Nat) (y:R),H'[i]?=some y->∃ x:R,H[i]?=some x/\fitR x y):Sim S φ H' w/\Tr H.length S φ H w S φ H' w:=by
 have htr:Tr H.length S φ H w S φ H' w:=by
  refine⟨fun _ h=>h,fun _ _=>rfl,yad _,by omega,?_,?_,?_,?_,?_⟩
  ·intro i hi;obtain⟨x,hx,hxy⟩:=h i (H'.getD i (.dead 0)) (by simp[List.getD,show i<H'.length by omega]);have e:H.getD i (.dead 0)=x:=by simp[List.getD,hx]
   rw[e];rcases qcq hxy with h1|⟨g,k,l,h1,h2,_⟩
   ·rw[h1];exact yad _
   ·rw[h1,h2];exact yad _
  ·intro i g k dp' l' hi hl';obtain⟨x,hx,hxy⟩:=h i _ hl';rcases qcq hxy with rfl|⟨g,k,l,rfl,h2,_⟩
   ·exact .inr ⟨dp',l',hx,rfl,yad _,fun b rest arr ty e1 e2=>⟨arr,ty,e2,yad _⟩⟩
   ·cases h2;exact .inr ⟨true,_,hx,rfl,yad _,fun b rest arr ty e1 e2=>⟨arr,ty,e2,yad _⟩⟩
  ·intro i cs hi hl';obtain⟨x,hx,hxy⟩:=h i _ hl';rcases qcq hxy with rfl|⟨g,k,l,rfl,h2,_⟩
   ·exact⟨cs,hx,rfl⟩
   ·cases h2
  ·intro i cs hi hl';obtain⟨x,hx,hxy⟩:=h i _ hl';rcases qcq hxy with rfl|⟨g,k,l,rfl,h2,_⟩
   ·exact⟨cs,hx,rfl⟩
   ·cases h2
  ·intro i z hi hl';obtain⟨x,hx,hxy⟩:=h i _ hl';rcases qcq hxy with rfl|⟨g,k,l,rfl,h2,_⟩
   ·exact⟨hx,rfl,fun _ _=>rfl⟩
   ·cases h2
 refine⟨⟨by rw[s.len,hl],s.nd,s.dj,s.lt,s.off,s.slt,fun i y hy=>?_⟩,htr⟩;obtain⟨x,hx,hxy⟩:=h i y hy;rcases qcq hxy with rfl|⟨g,k,l,rfl,rfl,hsc⟩
 ·exact(s.rel i _ hx).tr htr fun _ _=>rfl
 ·obtain⟨h1,h2,h3,h4,h5⟩:=s.rel i _ hx;refine⟨h1,h2,h3,h4,?_⟩;rcases h5 with h5|⟨b,rest,arr,ty,e1,e2,e3,F,hF,_,hr⟩
  ·exact .inl h5
  ·have hall:=qf5 hsc;have hz : ∀ j,j<(flat l).length->F j=[]:=fun j hj=>qpu (hr j hj) (hall _ (getD_mem hj))
   refine .inr ⟨b,rest,arr,ty,e1,e2,e3,?_,fun j hj=>qh6 (hr j hj) (hall _ (getD_mem hj)) S⟩;rw[hF];refine List.flatMap_eq_nil_iff.2 fun j hj=>hz j (List.mem_range.1 hj)
def qs1 (s:Sim S φ H w) (hm:m<=H.length) (h:fit1 (qct m H) x y) (hy:y.idlt m) (hv:V S φ H w x v) :
  V (fun b=>S b∨Foot (qdN m φ) b) (φ.take m) (H.take m) w y v:=by
 have stay : ∀ {y:I},V S φ H w y v->y.idlt m->V (fun b=>S b∨Foot (qdN m φ) b) (φ.take m) (H.take m) w y v:=by
  intro y hv hy;refine(hv.take hm s.len hy).tr ?_;exact⟨fun _ h=>.inl h,fun _ _=>rfl,yad _,yad _,fun _ _=>yad _,fun i g k dp' l' hi hl=>.inr ⟨dp',l',hl,rfl,yad _,fun b rest arr ty e1 e2=>⟨arr,ty,e2,yad _⟩⟩,
    fun i cs hi h=>⟨cs,h,rfl⟩,fun i es hi h=>⟨es,h,rfl⟩,fun i x hi h=>⟨h,rfl,fun _ _=>rfl⟩⟩
 unfold fit1 at h;split at h
 ·rename_i b;split at h
  ·rename_i a;exact .d (qqY h (hv.fz.mono (fun b hb=>.inl hb) fun _ _=>rfl))
  ·split at h
   ·rename_i vc a hvw;obtain⟨s1,t1⟩:=s.kill m;exact .d (qqY h.2 (qcW s1 3 (hv.tr t1) hvw h.1))
   ·exact h.elim
 ·rw[h] at hv;exact stay hv hy
def qiA {m:Nat}(s:Sim S φ H w) (hm:m<=H.length) {fr:Fr}{a:Act}(hf:FrR S φ H w fr a) : ∀ (l:List (Nat×I)),fitF (qct m H) fr l->qiq m l->∀ t,V (fun b=>S b∨Foot (qdN m φ) b) (φ.take m) (H.take m) w (look t l) (a.tmps.getD t undef)
 | [],_,_,t=>.junk
 | (u,x)::r,h,hi,t=>by
  simp only[look];split
  ·rename_i hst;subst hst;exact qs1 s hm h.1 hi.1 (hf.val u)
  ·exact qiA s hm hf r h.2 hi.2 t
def qmt {H:List R}(h : ∀ (i:Nat) (y:R),H'[i]?=some y->∃ x:R,H[i]?=some x/\Go.VL.fitR x y) : ∀ (i:Nat) (y:R),H'[i]?=some y->∃ x:R,(H.take H'.length)[i]?=some x/\Go.VL.fitR x y:=by
 intro i y hy;obtain⟨x,hx,hxy⟩:=h i y hy;exact⟨x,by rw[qbu _ _ _ (List.getElem?_eq_some_iff.1 hy).1];exact hx,hxy⟩
def qmu (m:Nat) : ∀ {K:List R},K.length=H'.length->(∀ (i:Nat) (y:R),H'[i]?=some y->∃ x:R,K[i]?=some x/\Go.VL.fitR x y)->qef m H'->qef m K:=by
 intro K;induction K generalizing H' with
 | nil=>intro _ _ _;trivial
 | cons x r ih=>
  intro hl h hi;cases H' with
  | nil=>simp at hl
  | cons y s=>
   obtain⟨x',hx,hxy⟩:=h 0 y rfl;simp at hx;subst hx;refine⟨?_,ih (by simpa using hl) (fun i z hz=>by simpa using h (i+1) z (by simpa using hz)) hi.2⟩;rcases qcq hxy with rfl|⟨g,k,l,rfl,rfl,_⟩
   ·exact hi.1
   ·trivial
def qgo {nt:Nat}{m:List (Nat×I)}(h:fit n nt fr H m H'):Ghost n fr H ⟨nt,m⟩ H':=by
 obtain⟨h1,h2,h3,h4,h5,h6⟩:=h;obtain⟨e2,e1⟩:=qne h4;have hl:(H.take H'.length).length=H'.length:=by simp;omega
 have e3:=qmt e1;intro S φ w a hn s hf;obtain⟨s2,t2,x2⟩:=qiz s e2 (qmu _ hl e3 h6);obtain⟨s3,t3⟩:=s2.fitR hl.symm e3;rw[hl] at t3;refine⟨_,_,s3,⟨hf.defers,hf.size.trans h1,fun t=>?_⟩,x2,(t2.trans t3).weaken h2⟩;have:=qiA s e2 hf m h3 h5 t;exact this.tr (by rw[hl];exact t3)
def qeW:List (Nat×Nat×Bool)->Fr->List R->Fr×List R
 | [],fr,H=>(fr,H)
 | (t,k,dp)::r,fr,H=>qeW r (fr.put (some t) (.sl H.length 0 k 0 0)) (H ++ [.row 0 k dp []])
def qlo:List (Nat×Nat×Bool)->Fr->List R->Prop
 | [],_,_=>True
 | (t,k,dp)::r,fr,H=>fr.get t=.d .nil/\t<fr.n/\0<k/\qlo r (fr.put (some t) (.sl H.length 0 k 0 0)) (H ++ [.row 0 k dp []])
def qd0 : ∀ (l:List (Nat×Nat×Bool)) {fr:Fr}{H:List R},qlo l fr H->Ghost n fr H (qeW l fr H).1 (qeW l fr H).2
 | [],fr,H,_=>Ghost.refl n fr H
 | (t,k,dp)::r,fr,H,h=>(Ghost.own t k dp h.1 h.2.1 h.2.2.1).trans (qd0 r h.2.2.2)
def qoa (E:Env) (ks:List Item) (Q:Post) (f:Nat) {σ : Type}(nt:Nat) (F : σ->List (Nat×I)) (Hp : σ->List R) (inv : σ->Prop) (mu : σ->Nat) (s : σ):Post
 | .normal,fr,H=>∃ s',inv s'/\mu s'<mu s/\fit E.n nt fr H (F s') (Hp s')
 | .exit id,fr,H=>qds E f (exK id ks) id ks Q fr H
 | e,fr,H=>qbR E ks Q e fr H
def qaw (hT:TOK E.P E.T) {σ : Type}(F : σ->List (Nat×I)) (Hp : σ->List R) (inv : σ->Prop) (mu : σ->Nat) (own:List (Nat×Nat×Bool)) (f1 f2:Nat) {ks:List Item}{c:Code}
  (hvc:qlo own fr H) (h0 : ∃ s,inv s/\fit E.n fr.n (qeW own fr H).1 (qeW own fr H).2 (F s) (Hp s))
  (hr : ∀ s,inv s->qaZ E f1 c [] (qoa E ks Q f2 fr.n F Hp inv mu s) ⟨fr.n,F s⟩ (Hp s)):iwp E.P E.n (.loop c) (qbR E ks Q) fr H:=by
 obtain⟨s0,hi0,hf0⟩:=h0;refine qle (fun m fr' H'=>∃ s,inv s/\mu s=m/\fr'=⟨fr.n,F s⟩/\H'=Hp s) (mu s0) ⟨_,_,(qd0 own hvc).trans (qgo hf0),s0,hi0,rfl,rfl,rfl⟩ ?_;rintro m fr' H' ⟨s,hi,rfl,rfl,rfl⟩;refine qhV (qc9 hT f1 (hr s hi)) ?_;intro e fr' H' hq;cases e with
 | normal=>
  obtain⟨s',hi',hmu,hfit⟩:=hq;exact⟨_,_,qgo hfit,mu s',hmu,s',hi',rfl,rfl,rfl⟩
 | exit id=>
  simp only[qoa] at hq;refine qdD id ks ?_;generalize exK id ks=o at hq;match f2,o with
  | 0,_=>simp only[qds] at hq
  | f+1,some ks'=>
   simp only[qds] at hq;exact qfy hT f hq
  | f+1,none=>
   simp only[qds] at hq;exact hq
 | goto l=>exact hq
 | ret=>exact hq
 | panic ch=>exact hq
 | outgrown=>exact hq
section rules
variable {σ : Type}{F : σ->List (Nat×I)}{Hp : σ->List R}{inv : σ->Prop}{mu : σ->Nat}{s : σ}{ks:List Item}{f nt:Nat}
@[go_sem] def qs2:qoa E ks Q f nt F Hp inv mu s .normal fr H = ∃ s',inv s'/\mu s'<mu s/\fit E.n nt fr H (F s') (Hp s'):=rfl
@[go_sem] def znm {id:Nat}:qoa E ks Q f nt F Hp inv mu s (.exit id) fr H=qds E f (exK id ks) id ks Q fr H:=rfl
@[go_sem] def znn:qoa E ks Q f nt F Hp inv mu s .ret fr H=qbR E ks Q .ret fr H:=rfl
@[go_sem] def zno {m:List (Nat×I)}:fit n nt fr H m H'=(fr.n=nt/\n<=H'.length/\fitF (qct H'.length H) fr m/\fitH H H'/\qiq H'.length m/\qef H'.length H'):=rfl
@[go_sem] def znp:fitF K fr []=True:=rfl
@[go_sem] def znq {r:List (Nat×I)}:fitF K fr ((t,x)::r)=(fit1 K (fr.get t) x/\fitF K fr r):=rfl
def frz1 (b:D):Option (Prop×D)->Prop
 | some (vc,a)=>vc/\wk a b
 | none=>False
@[go_sem] def znr {a:D}{vc:Prop}:frz1 b (some (vc,a))=(vc/\wk a b):=rfl
def fitS (K:List R) (x:I):I->Prop
 | .d b=>frz1 b (view K 3 x)
 | y=>x=y
@[go_sem] def zns:fitS K x (.d b)=frz1 b (view K 3 x):=rfl
@[go_sem] def znt {n:Nat}:fitS K x (.sl i g k lo n)=(x=.sl i g k lo n):=rfl
@[go_sem] def znu {o:Nat}:fitS K x (.ptr i o)=(x=.ptr i o):=rfl
@[go_sem] def znv:fitS K x (.tup cs)=(x=.tup cs):=rfl
@[go_sem] def znw:fitS K x (.map i)=(x=.map i):=rfl
@[go_sem] def znx {f:Nat}:fitS K x (.fn f cs)=(x=.fn f cs):=rfl
def qiB (hx : ∀ a,x≠.d a):fit1 K x y=fitS K x y:=by
 cases y <;> simp only[fit1,fitS,frz1]
@[go_sem] def zny {x y:D}:fit1 K (.d x) (.d y)=wk x y:=rfl
@[go_sem] def znz {n:Nat}:fit1 K (.sl i g k lo n) y=fitS K (.sl i g k lo n) y:=qiB nofun
@[go_sem] def znA:fit1 K (.ptr i off) y=fitS K (.ptr i off) y:=qiB nofun
@[go_sem] def znB:fit1 K (.agg cs) y=fitS K (.agg cs) y:=qiB nofun
@[go_sem] def znC:fitH H []=True:=by cases H <;> rfl
@[go_sem] def znD {x y:R}{r q:List R}:fitH (x::r) (y::q)=(fitR x y/\fitH r q):=rfl
@[go_sem] def znE {dp:DP}:fitR (.row g k dp l) (.row g' k' dp l')=(g=g'/\k=k'/\l=l'):=by cases dp <;> simp[fitR]
@[go_sem] def znF:fitR (.row g k (.own []) l) (.row g' k' .fz l')=(g=g'/\k=k'/\l=l'/\scalars l=true):=rfl
@[go_sem] def znG {y:R}:fitR (.box cs) y=(.box cs=y):=by cases y <;> rfl
@[go_sem] def znH {y:R}:fitR (.map es) y=(.map es=y):=by cases y <;> rfl
@[go_sem] def znI:qiq m []=True:=rfl
@[go_sem] def znJ {r:List (Nat×I)}:qiq m ((t,x)::r)=(x.idlt m/\qiq m r):=rfl
@[go_sem] def znK:qef m []=True:=rfl
@[go_sem] def znL {x:R}{r:List R}:qef m (x::r)=(x.idlt m/\qef m r):=rfl
@[go_sem] def znM:qfJ m []=True:=rfl
@[go_sem] def znN {r:List I}:qfJ m (x::r)=(x.idlt m/\qfJ m r):=rfl
@[go_sem] def znO {x:D}:(I.d x).idlt m=True:=by simp only[I.idlt]
@[go_sem] def znP {n:Nat}:(I.sl i g k lo n).idlt m=(i<m):=by simp only[I.idlt]
@[go_sem] def znQ:(I.ptr i off).idlt m=(i<m):=by simp only[I.idlt]
@[go_sem] def znR {idx:Nat}{z:D}:(I.eptr i g k idx off z).idlt m=(i<m):=by simp only[I.idlt]
@[go_sem] def znS:(I.map i).idlt m=(i<m):=by simp only[I.idlt]
@[go_sem] def znT {f:Nat}:(I.fn f cs).idlt m=qfJ m cs:=by simp only[I.idlt]
@[go_sem] def znU:(R.box cs).idlt m=qfJ m cs:=by simp only[R.idlt]
@[go_sem] def znV:(R.row g k (.own []) l).idlt m=True:=rfl
@[go_sem] def znW:(R.row g k .fz l).idlt m=True:=rfl
@[go_sem] def znX {l:List (D×D)}:(R.map l).idlt m=True:=by simp only[R.idlt]
@[go_sem] def znY:(R.dead g).idlt m=True:=by simp only[R.idlt]
@[go_sem] def znZ:qeW [] fr H=(fr,H):=rfl
@[go_sem] def zoa:qeW ((t,k,dp)::r) fr H=qeW r (fr.put (some t) (.sl H.length 0 k 0 0)) (H ++ [.row 0 k dp []]):=rfl
@[go_sem] def zob:qlo [] fr H=True:=rfl
@[go_sem] def zoc:qlo ((t,k,dp)::r) fr H=(fr.get t=.d .nil/\t<fr.n/\0<k/\qlo r (fr.put (some t) (.sl H.length 0 k 0 0)) (H ++ [.row 0 k dp []])):=rfl
end rules
attribute [go_sem] I.d.injEq I.sl.injEq I.ptr.injEq I.agg.injEq R.row.injEq R.box.injEq R.map.injEq D.int.injEq D.bool.injEq D.lst.injEq D.agg.injEq D.tup.injEq
def qaa {n:Int}:InK .i64 n↔-9223372036854775808<=n/\n<=9223372036854775807:=Iff.rfl
def inK_u8 {n:Int}:InK .u8 n↔0<=n/\n<=255:=Iff.rfl
def inK_u64 {n:Int}:InK .u64 n↔0<=n/\n<=18446744073709551615:=Iff.rfl
end Go.VL
namespace Go.VL
set_option linter.defProp false
variable {α β:Type}{k:IntKind}{l:List Int}{i a b n:Nat}{l':List Bool}{x:Bool}
abbrev dI (n:Int):D:=.int .i64 n
abbrev dB (b:Bool):D:=.bool b
abbrev dIs (l:List Int):D:=.lst 1 (l.map (D.int .i64))
abbrev dUs (l:List Int):D:=.lst 1 (l.map (D.int .u8))
abbrev dBs (l:List Bool):D:=.lst 1 (l.map D.bool)
abbrev dBss (l:List (List Bool)):D:=.lst 1 (l.map fun x=>dBs x)
abbrev dIss (l:List (List Int)):D:=.lst 1 (l.map fun x=>dIs x)
def qei (f : α->β) (l:List α) (i:Nat) (z : α):(l.map f).getD i (f z)=f (l.getD i z):=by
 simp[List.getD_eq_getElem?_getD,List.getElem?_map]
@[go_sem] def zod {z:Int}:(l.map (D.int k)).getD i (D.int k z)=D.int k (l.getD i z):=qei _ _ _ _
@[go_sem] def zoe {l:List Bool}{z:Bool}:(l.map D.bool).getD i (D.bool z)=D.bool (l.getD i z):=qei _ _ _ _
def getD_lt (f : α->β) (l:List α) (i:Nat) (z : β) (y : α) (h:i<l.length):(l.map f).getD i z=f (l.getD i y):=by
 simp[List.getD_eq_getElem?_getD,h]
attribute [go_sem] yaw yba List.nodup_nil yae yas
@[go_sem] def zof:((a:Int)<(b:Int))=(a<b):=by simp
@[go_sem] def zog:((a:Int)<=(b:Int))=(a<=b):=by simp
@[go_sem] def zoh:((a:Int)=(b:Int))=(a=b):=propext Int.ofNat_inj
@[go_sem] def zoi:((0:Int)<=(a:Int))=True:=by simp
@[go_sem] def zoj:((a:Int)<0)=False:=by simp
@[go_sem] def zok:((a:Int)+1)=((a+1:Nat):Int):=by simp
attribute [go_sem] yad Int.le_refl and_false false_and not_false_eq_true ge_iff_le gt_iff_lt
def qks {f : α->β}(hf : ∀ x y,f x=f y->x=y) {l l':List α}:(l.map f=l'.map f)=(l=l'):=by
 refine propext ⟨fun h=>?_,fun h=>by rw[h]⟩;induction l generalizing l' with
 | nil=>cases l' with
  | nil=>rfl
  | cons y r=>simp at h
 | cons x r ih=>cases l' with
  | nil=>simp at h
  | cons y r'=>
   simp only[yaL,List.cons.injEq] at h;rw[hf _ _ h.1,ih h.2]
@[go_sem] def zol {l':List Int}:(l.map (D.int k)=l'.map (D.int k))=(l=l'):=qks fun x y h=>by simpa using h
@[go_sem] def zom {l:List Bool}:(l.map D.bool=l'.map D.bool)=(l=l'):=qks fun x y h=>by simpa using h
@[go_sem] def zon {x:Int}:(l.map (D.int k)).set i (D.int k x)=(l.set i x).map (D.int k):=List.map_set.symm
@[go_sem] def zoo {l:List Bool}:(l.map D.bool).set i (D.bool x)=(l.set i x).map D.bool:=List.map_set.symm
@[go_sem] def zop {x:Int}:l.map (D.int k) ++ [D.int k x]=(l ++ [x]).map (D.int k):=by simp
@[go_sem] def zoq {l:List Bool}:l.map D.bool ++ [D.bool x]=(l ++ [x]).map D.bool:=by simp
@[go_sem] def zor {l':List Int}:l.map (D.int k)++l'.map (D.int k)=(l++l').map (D.int k):=by simp
@[go_sem] def zos {l:List Bool}:l.map D.bool++l'.map D.bool=(l++l').map D.bool:=by simp
@[go_sem] def zot {x:Int}:List.replicate n (D.int k x)=(List.replicate n x).map (D.int k):=by simp
@[go_sem] def zou:List.replicate n (D.bool x)=(List.replicate n x).map D.bool:=by simp
@[go_sem] def zov:(l.map (D.int k)).drop n=(l.drop n).map (D.int k):=by simp
@[go_sem] def zow:(l.map (D.int k)).take n=(l.take n).map (D.int k):=by simp
@[go_sem] def zox {l:List Bool}:(l.map D.bool).take n=(l.take n).map D.bool:=by simp
def qpv:(([]:List D)=l.map (D.int k))=(l=[]):=propext ⟨fun h=>by cases l with|nil=>rfl|cons x r=>simp at h,fun h=>by rw[h];rfl⟩
def qob {l:List Bool}:(([]:List D)=l.map D.bool)=(l=[]):=propext ⟨fun h=>by cases l with|nil=>rfl|cons x r=>simp at h,fun h=>by rw[h];rfl⟩
attribute [go_sem] qpv qob
def qda {l l':List α}(z : α) (hl:l.length=l'.length) (h : ∀ j,j<l.length->l.getD j z=l'.getD j z):l=l':=by
 refine ybf hl fun j h3 h4=>?_
 have:=h j h3;simpa [List.getD,h3,h4] using this
attribute [go_sem] beq_self_eq_true beq_iff_eq beq_eq_false_iff_ne Bool.true_eq_false not_false_eq_true imp_self yaA List.drop_length List.nodup_cons List.not_mem_nil decide_true decide_false ybe yap Bool.or_eq_false_iff Bool.and_eq_false_iff Int.one_mul Int.cast_ofNat_Int Int.add_zero Int.zero_add Int.sub_zero ybi Nat.sub_zero Bool.or_false Bool.false_or Bool.or_true Bool.true_or Bool.not_not
attribute [go_sem] List.forall_mem_cons
end Go.VL

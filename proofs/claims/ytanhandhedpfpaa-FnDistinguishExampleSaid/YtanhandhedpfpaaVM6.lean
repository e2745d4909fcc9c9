/- Part 22: rewriting rules of memory operations, calls and results. Conditions: none; lemmas. -/
import Derived.Test.YtanhandhedpfpaaVM5
set_option linter.unusedVariables false
set_option linter.unusedSimpArgs false
namespace Go.VL
variable {E:Env}{Q:Post}{fr:Fr}{H:List R}{T:Nat→Option TI}{ty:Ty}{sz b:Nat}{z:D}
attribute [go_sem] true_and and_true eq_self if_true if_false true_implies imp_true_iff not_false_eq_true not_true_eq_false Bool.false_eq_true decide_eq_true_eq decide_eq_false_iff_not Bool.not_true Bool.not_false Bool.not_eq_true' Bool.not_eq_false' ite_true ite_false and_self implies_true false_implies ne_eq
def xCI (ty:Ty) (sz:Nat):Bool→I→Option (Prop×List I)
 | true,.d xd=>some (xd.cells.length=sz∧xd.one=false∧(∀ n,xd≠.tup n),(qab xd 0 sz).map .d)
 | true,.agg cs=>some (cs.length=sz,cs)
 | false,.d xd=>some (sz=1∧xd.one=true,[.d xd])
 | false,.sl i g k lo n=>some (sz=1,[.sl i g k lo n])
 | false,.ptr i off=>some (sz=1,[.ptr i off])
 | false,.map i=>some (sz=1,[.map i])
 | false,.fn f caps=>some (sz=1,[.fn f caps])
 | _,_=>none
theorem qlP {ti:TI}{x:I}:qaR ti x=xCI ti.ty ti.size ti.ty.agg x:=by
 unfold qaR
 cases ti.ty.agg <;> cases x <;> rfl
@[go_sem] theorem cellsI_eq {x:I}:qaR ⟨ty,sz,b,z⟩ x=xCI ty sz ty.agg x:=qlP
@[go_sem] theorem xCI_td {xd:D}:xCI ty sz true (.d xd)=some (xd.cells.length=sz∧xd.one=false∧(∀ n,xd≠.tup n),(qab xd 0 sz).map .d):=rfl
@[go_sem] theorem xCI_ta {cs:List I}:xCI ty sz true (.agg cs)=some (cs.length=sz,cs):=rfl
@[go_sem] theorem xCI_fd {xd:D}:xCI ty sz false (.d xd)=some (sz=1∧xd.one=true,[.d xd]):=rfl
@[go_sem] theorem xCI_fs {i g k lo n:Nat}:xCI ty sz false (.sl i g k lo n)=some (sz=1,[.sl i g k lo n]):=rfl
@[go_sem] theorem xCI_fp {i o:Nat}:xCI ty sz false (.ptr i o)=some (sz=1,[.ptr i o]):=rfl
@[go_sem] theorem xCI_fm {i:Nat}:xCI ty sz false (.map i)=some (sz=1,[.map i]):=rfl
@[go_sem] theorem xCI_ff {g:Nat}{cs:List I}:xCI ty sz false (.fn g cs)=some (sz=1,[.fn g cs]):=rfl
@[go_sem] theorem setCells_nil {cs:List I}{off:Nat}:setCells cs off []=cs:=rfl
@[go_sem] theorem qlQ {cs:List I}{off:Nat}{x:I}{r:List I}:setCells cs off (x::r)=setCells (cs.set off x) (off+1) r:=rfl
@[go_sem] theorem setD_nil {cs:List D}{off:Nat}:setD cs off []=cs:=rfl
@[go_sem] theorem setD_cons {cs:List D}{off:Nat}{x:D}{r:List D}:setD cs off (x::r)=setD (cs.set off x) (off+1) r:=rfl
def xBox2 (H:List R):Option (Prop×List I)→Option (Prop×I×List R)
 | some (vc,cs)=>some (vc,.ptr H.length 0,H ++ [.box cs])
 | none=>none
def xBox1 (H:List R) (x:I):Option TI→Option (Prop×I×List R)
 | some ti=>xBox2 H (qaR ti x)
 | none=>none
@[go_sem] theorem sBox_eq {e:Nat}{x:I}:sBox T H e x=xBox1 H x (T e):=by
 unfold sBox
 cases T e with
 | none=>rfl
 | some ti=>simp only[xBox1];cases qaR ti x <;> rfl
@[go_sem] theorem xBox1_s {x:I}:xBox1 H x (some ⟨ty,sz,b,z⟩)=xBox2 H (qaR ⟨ty,sz,b,z⟩ x):=rfl
@[go_sem] theorem xBox2_s {vc:Prop}{cs:List I}:xBox2 H (some (vc,cs))=some (vc,.ptr H.length 0,H ++ [.box cs]):=rfl
def xAl (H:List R):Option TI→Option (Prop×I×List R)
 | some ti=>some (True,.ptr H.length 0,H ++ [.box ((qab ti.zero 0 ti.size).map .d)])
 | none=>none
@[go_sem] theorem sAlloc_eq {e:Nat}:qeR T H e=xAl H (T e):=by unfold qeR;cases T e <;> rfl
@[go_sem] theorem xAl_s:xAl H (some ⟨ty,sz,b,z⟩)=some (True,.ptr H.length 0,H ++ [.box ((qab z 0 sz).map .d)]):=rfl
def qjL (vc:Prop) (off fsz:Nat) (cs:List I):Option (Prop×List I)→Option (Prop×List I)
 | some (vc',r)=>some (vc∧off+fsz≤cs.length∧vc',r)
 | none=>none
def qhZ (T:Nat→Option TI) (fs:List (Nat×Nat)) (cs:List I) (rest:List (Nat×I)) (off fsz:Nat):Option (Prop×List I)→Option (Prop×List I)
 | some (vc,xs)=>qjL vc off fsz cs (qcH T fs (setCells cs off xs) rest)
 | none=>none
def qh0 (T:Nat→Option TI) (fs:List (Nat×Nat)) (cs:List I) (rest:List (Nat×I)) (x:I) (off:Nat):Option TI→Option (Prop×List I)
 | some fi=>qhZ T fs cs rest off fi.size (qaR fi x)
 | none=>none
def qjM (T:Nat→Option TI) (fs:List (Nat×Nat)) (cs:List I) (rest:List (Nat×I)) (x:I):Option (Nat×Nat)→Option (Prop×List I)
 | some (off,ft)=>qh0 T fs cs rest x off (T ft)
 | none=>none
@[go_sem] theorem fillI_nil {fs:List (Nat×Nat)}{cs:List I}:qcH T fs cs []=some (True,cs):=rfl
@[go_sem] theorem fillI_cons {fs:List (Nat×Nat)}{cs:List I}{i:Nat}{x:I}{rest:List (Nat×I)}:qcH T fs cs ((i,x)::rest)=qjM T fs cs rest x (nthF fs i):=by
 simp only[qcH,←qfb]
 cases fs[i]? with
 | none=>rfl
 | some p=>
  obtain⟨off,ft⟩:=p
  simp only[qjM]
  cases T ft with
  | none=>rfl
  | some fi=>
   simp only[qh0]
   cases qaR fi x with
   | none=>rfl
   | some q=>
    obtain⟨vc,xs⟩:=q
    simp only[qhZ]
    cases qcH T fs (setCells cs off xs) rest <;> rfl
@[go_sem] theorem xFill1_s {fs:List (Nat×Nat)}{cs:List I}{x:I}{rest:List (Nat×I)}{off ft:Nat}:qjM T fs cs rest x (some (off,ft))=qh0 T fs cs rest x off (T ft):=rfl
@[go_sem] theorem xFill2_s {fs:List (Nat×Nat)}{cs:List I}{x:I}{rest:List (Nat×I)}{off:Nat}:qh0 T fs cs rest x off (some ⟨ty,sz,b,z⟩)=qhZ T fs cs rest off sz (qaR ⟨ty,sz,b,z⟩ x):=rfl
@[go_sem] theorem xFill3_s {fs:List (Nat×Nat)}{cs xs:List I}{rest:List (Nat×I)}{off fsz:Nat}{vc:Prop}:qhZ T fs cs rest off fsz (some (vc,xs))=qjL vc off fsz cs (qcH T fs (setCells cs off xs) rest):=rfl
@[go_sem] theorem xFill4_s {cs r:List I}{off fsz:Nat}{vc vc':Prop}:qjL vc off fsz cs (some (vc',r))=some (vc∧off+fsz≤cs.length∧vc',r):=rfl
def xBd2 (T:Nat→Option TI) (fs:List (Nat×Nat)):Option (Prop×List I)→Option (Prop×I)
 | some (vc,cs)=>some (vc∧qa1 cs∧fs.all (fun f=>(T f.2).isSome)=true,mkAgg cs)
 | none=>none
def xBd4:Option (Prop×List I)→Option (Prop×I)
 | some (vc,cs)=>some (vc∧qa1 cs,mkAgg cs)
 | none=>none
@[go_sem] theorem xBd4_s {vc:Prop}{cs:List I}:xBd4 (some (vc,cs))=some (vc∧qa1 cs,mkAgg cs):=rfl
def xBd3 (T:Nat→Option TI) (n e sz:Nat) (z:D) (parts:List (Nat×I)):Option TI→Option (Prop×I)
 | some ei=>xBd4 (qcH T (arrF n e ei.size) ((qab z 0 sz).map .d) parts)
 | none=>none
@[go_sem] theorem xBd3_s {n e sz':Nat}{z':D}{parts:List (Nat×I)}{ty:Ty}{sz b:Nat}{z:D}:xBd3 T n e sz' z' parts (some ⟨ty,sz,b,z⟩)=xBd4 (qcH T (arrF n e sz) ((qab z' 0 sz').map .d) parts):=rfl
@[go_sem] theorem nthF_arr {n e sz i:Nat}:nthF (arrF n e sz) i=if i<n then some (i*sz,e) else none:=by rw[←qfb,qhN]
def xBd1 (T:Nat→Option TI) (parts:List (Nat×I)):Option TI→Option (Prop×I)
 | some ⟨.struct fs,sz,_,z⟩=>xBd2 T fs (qcH T fs ((qab z 0 sz).map .d) parts)
 | some ⟨.array n e,sz,_,z⟩=>xBd3 T n e sz z parts (T e)
 | _=>none
@[go_sem] theorem sBuild_eq {t:Nat}{parts:List (Nat×I)}:qdO T t parts=xBd1 T parts (T t):=by
 unfold qdO
 cases T t with
 | none=>rfl
 | some ti=>
  obtain⟨ty,sz,b,z⟩:=ti
  cases ty with
  | struct fs=>
   simp only[xBd1]
   cases qcH T fs ((qab z 0 sz).map .d) parts <;> rfl
  | array n e=>
   simp only[xBd1]
   cases T e with
   | none=>rfl
   | some ei=>
    simp only[xBd3]
    cases qcH T (arrF n e ei.size) ((qab z 0 sz).map .d) parts <;> rfl
  | _=>rfl
@[go_sem] theorem xBd1_a {n e:Nat}{parts:List (Nat×I)}:xBd1 T parts (some ⟨.array n e,sz,b,z⟩)=xBd3 T n e sz z parts (T e):=rfl
@[go_sem] theorem xBd1_s {fs:List (Nat×Nat)}{parts:List (Nat×I)}:xBd1 T parts (some ⟨.struct fs,sz,b,z⟩)=xBd2 T fs (qcH T fs ((qab z 0 sz).map .d) parts):=rfl
@[go_sem] theorem xBd2_s {fs:List (Nat×Nat)}{vc:Prop}{cs:List I}:xBd2 T fs (some (vc,cs))=some (vc∧qa1 cs∧fs.all (fun f=>(T f.2).isSome)=true,mkAgg cs):=rfl
attribute [go_sem] List.all_cons List.all_nil Option.isSome_some
def xLP (i j size:Nat) (x:D):Option (Prop×List D)→Option (Prop×List D)
 | some (vc,l)=>some (j=i∧x.cells.length=size∧x.notTup∧vc,x::l)
 | none=>none
@[go_sem] theorem qnb {size i:Nat}:qaM size i []=some (True,[]):=rfl
@[go_sem] theorem qlR {size i j:Nat}{x:D}{r:List (Nat×I)}:qaM size i ((j,.d x)::r)=xLP i j size x (qaM size (i+1) r):=by
 simp only[qaM];cases qaM size (i+1) r <;> rfl
@[go_sem] theorem litParts_sl {size i j a g k lo n:Nat}{r:List (Nat×I)}:qaM size i ((j,.sl a g k lo n)::r)=none:=rfl
@[go_sem] theorem xLP_s {size i j:Nat}{x:D}{vc:Prop}{l:List D}:xLP i j size x (some (vc,l))=some (j=i∧x.cells.length=size∧x.notTup∧vc,x::l):=rfl
def qlS (H:List R) (len size:Nat):Option (Prop×List D)→Option (Prop×I×List R)
 | some (vc,l)=>some (vc∧l.length=len∧0<size∧len*size≤1000,.sl H.length 0 size 0 l.length,H ++ [.row 0 size (scalars l) l])
 | none=>none
def qlT (H:List R) (len:Nat) (parts:List (Nat×I)):Option TI→Option (Prop×I×List R)
 | some ei=>qlS H len ei.size (qaM ei.size 0 parts)
 | none=>none
def xLit1 (T:Nat→Option TI) (H:List R) (len:Nat) (parts:List (Nat×I)):Option TI→Option (Prop×I×List R)
 | some ⟨.slice e,_,_,_⟩=>qlT H len parts (T e)
 | _=>none
@[go_sem] theorem sLit_eq {t len:Nat}{parts:List (Nat×I)}:sLit T H t len parts=xLit1 T H len parts (T t):=by
 unfold sLit
 cases T t with
 | none=>rfl
 | some ti=>
  obtain⟨ty,sz,b,z⟩:=ti
  cases ty with
  | slice e=>
   simp only[xLit1]
   cases T e with
   | none=>rfl
   | some ei=>simp only[qlT];cases qaM ei.size 0 parts <;> rfl
  | _=>rfl
@[go_sem] theorem xLit1_s {len e:Nat}{parts:List (Nat×I)}:xLit1 T H len parts (some ⟨.slice e,sz,b,z⟩)=qlT H len parts (T e):=rfl
@[go_sem] theorem xLit2_s {len:Nat}{parts:List (Nat×I)}:qlT H len parts (some ⟨ty,sz,b,z⟩)=qlS H len sz (qaM sz 0 parts):=rfl
@[go_sem] theorem xLit3_n {len size:Nat}:qlS H len size none=none:=rfl
@[go_sem] theorem xLit3_s {len size:Nat}{vc:Prop}{l:List D}:qlS H len size (some (vc,l))=some (vc∧l.length=len∧0<size∧len*size≤1000,.sl H.length 0 size 0 l.length,H ++ [.row 0 size (scalars l) l]):=rfl
@[go_sem] theorem scalars_nil:scalars []=true:=rfl
@[go_sem] theorem qnc {x:D}{r:List D}:scalars (x::r)=(x.cells.all D.scalar&&scalars r):=rfl
attribute [go_sem] Bool.and_true Bool.true_and Bool.and_self Bool.false_and Bool.and_false
def xMk2 (H:List R) (l c:D):Option TI→Option (Prop×I×List R)
 | some ei=>some (l.isInt .i64∧c.isInt .i64∧0≤l.toInt∧l.toInt≤c.toInt∧(ei.bytes:Int)*c.toInt≤281474976710656∧0<ei.bytes∧0<ei.size,
   .sl H.length 0 ei.size 0 l.toInt.toNat,H ++ [.row 0 ei.size (.own []) (List.replicate l.toInt.toNat ei.zero)])
 | none=>none
def xMk1 (T:Nat→Option TI) (H:List R):Option TI→I→I→Option (Prop×I×List R)
 | some ⟨.slice e,_,_,_⟩,.d l,.d c=>xMk2 H l c (T e)
 | _,_,_=>none
@[go_sem] theorem sMake_eq {t:Nat}{l c:I}:qgH T H t l c=xMk1 T H (T t) l c:=by
 unfold qgH
 cases T t with
 | none=>rfl
 | some ti=>
  obtain⟨ty,sz,b,z⟩:=ti
  cases ty <;> cases l <;> cases c <;> first
   | rfl
   | (rename_i e _ _;simp only[xMk1];cases T e <;> rfl)
@[go_sem] theorem xMk1_s {l c:D}{e:Nat}:xMk1 T H (some ⟨.slice e,sz,b,z⟩) (.d l) (.d c)=xMk2 H l c (T e):=rfl
@[go_sem] theorem xMk2_s {l c:D}:xMk2 H l c (some ⟨ty,sz,b,z⟩)=some (l.isInt .i64∧c.isInt .i64∧0≤l.toInt∧l.toInt≤c.toInt∧(b:Int)*c.toInt≤281474976710656∧0<b∧0<sz,
   .sl H.length 0 sz 0 l.toInt.toNat,H ++ [.row 0 sz (.own []) (List.replicate l.toInt.toNat z)]):=rfl
def xCD:Bool→Nat→I→Option (Prop×List D)
 | true,sz,.d xd=>some (xd.cells.length=sz∧xd.one=false∧(∀ n,xd≠.tup n),qab xd 0 sz)
 | false,sz,.d xd=>some (sz=1∧xd.one=true,[xd])
 | _,_,_=>none
theorem qlU {ti:TI}{x:I}:cellsD ti x=xCD ti.ty.agg ti.size x:=by
 unfold cellsD
 cases ti.ty.agg <;> cases x <;> rfl
@[go_sem] theorem xCD_t {xd:D}:xCD true sz (.d xd)=some (xd.cells.length=sz∧xd.one=false∧(∀ n,xd≠.tup n),qab xd 0 sz):=rfl
@[go_sem] theorem xCD_f {xd:D}:xCD false sz (.d xd)=some (sz=1∧xd.one=true,[xd]):=rfl
def xSt3 (H:List R) (i off sz:Nat) (cs:List I):Option (Prop×List I)→Option (Prop×List R)
 | some (vc,xs)=>some (vc∧off+sz≤cs.length,H.set i (.box (setCells cs off xs)))
 | none=>none
def xSt2 (H:List R) (i off:Nat) (ti:TI) (x:I):Option R→Option (Prop×List R)
 | some (.box cs)=>xSt3 H i off ti.size cs (qaR ti x)
 | _=>none
def xSt5 (H:List R) (i g k idx off:Nat) (z:D) (sz g' k':Nat) (dp:DP) (l:List D) (o2:Option (Prop×List R)):Bool→Option (Prop×List D)→Option (Prop×List R)
 | true,some (vc,xs)=>some (vc∧g=g'∧k=k'∧idx<l.length∧off=0∧sz=1∧(dp.o=true→(l.getD idx z).scalar=true∧(xs.getD 0 .nil).scalar=true),H.set i (.row g' k' dp (l.set idx (xs.getD 0 .nil))))
 | false,some (vc,xs)=>some (vc∧g=g'∧k=k'∧idx<l.length∧off+sz≤k∧1<k∧(dp.o=true→(∀ c∈qab (l.getD idx z) off sz,c.scalar=true)∧(∀ c∈xs,c.scalar=true)),
      H.set i (.row g' k' dp (l.set idx (.agg (setD (qab (l.getD idx z) 0 k) off xs)))))
 | _,none=>o2
def xSt6 (H:List R) (i g k idx off:Nat) (z:D) (sz g' k':Nat) (l:List D) (hs:List (Nat×Nat×I)):Bool→Option (Prop×List I)→Option (Prop×List R)
 | true,some (vc,xs)=>some (vc∧g=g'∧k=k'∧idx<l.length∧off=0∧sz=1∧qbw xs∧qcc idx off sz hs,H.set i (.row g' k' (.own (qaw idx off xs)) (l.set idx (qaX (xs.getD 0 .junk)))))
 | false,some (vc,xs)=>some (vc∧g=g'∧k=k'∧idx<l.length∧off+sz≤k∧1<k∧qbw xs∧qcc idx off sz hs,
       H.set i (.row g' k' (.own (qaw idx off xs)) (l.set idx (.agg (setD (qab (l.getD idx z) 0 k) off (xs.map qaX))))))
 | _,none=>none
def xSt7 (H:List R) (i g k idx off:Nat) (z:D) (ti:TI) (g' k':Nat) (l:List D) (x:I):DP→Option (Prop×List R)
 | .own hs=>xSt6 H i g k idx off z ti.size g' k' l hs (decide (k=1)) (qaR ti x)
 | _=>none
def xSt4 (H:List R) (i g k idx off:Nat) (z:D) (ti:TI) (x:I):Option R→Option (Prop×List R)
 | some (.row g' k' dp l)=>xSt5 H i g k idx off z ti.size g' k' dp l (xSt7 H i g k idx off z ti g' k' l x dp) (decide (k=1)) (cellsD ti x)
 | _=>none
def xSt1 (H:List R) (p x:I):Option TI→Option (Prop×List R)
 | some ti=>match p with
  | .ptr i off=>xSt2 H i off ti x (qaj H i)
  | .eptr i g k idx off z=>xSt4 H i g k idx off z ti x (qaj H i)
  | _=>none
 | none=>none
@[go_sem] theorem sStore_eq {t:Nat}{p x:I}:qeT T H t p x=xSt1 H p x (T t):=by
 unfold qeT
 cases T t with
 | none=>cases p <;> rfl
 | some ti=>
  cases p <;> simp only[xSt1,←qam]
  ·rename_i i off
   cases H[i]? with
   | none=>rfl
   | some r=>
    cases r <;> simp only[xSt2]
    rename_i cs
    cases qaR ti x <;> rfl
  ·rename_i i g k idx off z
   cases H[i]? with
   | none=>rfl
   | some r=>
    cases r <;> simp only[xSt4]
    rename_i g' k' dp l
    cases cellsD ti x with
    | none=>
     simp only[xSt5]
     rcases dp with _|hs
     ·rfl
     ·simp only[xSt7]
      cases qaR ti x with
      | none=>simp only[xSt6]
      | some q=>obtain⟨vc,xs⟩:=q;cases decide (k=1) <;> rfl
    | some q=>obtain⟨vc,xs⟩:=q;cases decide (k=1) <;> rfl
@[go_sem] theorem xSt1_ptr {i off:Nat}{x:I}:xSt1 H (.ptr i off) x (some ⟨ty,sz,b,z⟩)=xSt2 H i off ⟨ty,sz,b,z⟩ x (qaj H i):=rfl
@[go_sem] theorem xSt2_box {i off:Nat}{x:I}{cs:List I}:xSt2 H i off ⟨ty,sz,b,z⟩ x (some (.box cs))=xSt3 H i off sz cs (qaR ⟨ty,sz,b,z⟩ x):=rfl
@[go_sem] theorem xSt3_s {i off:Nat}{cs xs:List I}{vc:Prop}:xSt3 H i off sz cs (some (vc,xs))=some (vc∧off+sz≤cs.length,H.set i (.box (setCells cs off xs))):=rfl
@[go_sem] theorem xSt1_eptr {i g k idx off:Nat}{z':D}{x:I}:xSt1 H (.eptr i g k idx off z') x (some ⟨ty,sz,b,z⟩)=xSt4 H i g k idx off z' ⟨ty,sz,b,z⟩ x (qaj H i):=rfl
@[go_sem] theorem xSt4_row {i g k idx off g' k':Nat}{z':D}{x:I}{dp:DP}{l:List D}:xSt4 H i g k idx off z' ⟨ty,sz,b,z⟩ x (some (.row g' k' dp l))=xSt5 H i g k idx off z' sz g' k' dp l (xSt7 H i g k idx off z' ⟨ty,sz,b,z⟩ g' k' l x dp) (decide (k=1)) (xCD ty.agg sz x):=by
 simp only[xSt4,qlU]
@[go_sem] theorem xSt5_t {i g k idx off g' k':Nat}{z':D}{dp:DP}{l xs:List D}{vc:Prop}{o2:Option (Prop×List R)}:xSt5 H i g k idx off z' sz g' k' dp l o2 true (some (vc,xs)) =
  some (vc∧g=g'∧k=k'∧idx<l.length∧off=0∧sz=1∧(dp.o=true→(l.getD idx z').scalar=true∧(xs.getD 0 .nil).scalar=true),H.set i (.row g' k' dp (l.set idx (xs.getD 0 .nil)))):=rfl
@[go_sem] theorem xSt5_f {i g k idx off g' k':Nat}{z':D}{dp:DP}{l xs:List D}{vc:Prop}{o2:Option (Prop×List R)}:xSt5 H i g k idx off z' sz g' k' dp l o2 false (some (vc,xs)) =
  some (vc∧g=g'∧k=k'∧idx<l.length∧off+sz≤k∧1<k∧(dp.o=true→(∀ c∈qab (l.getD idx z') off sz,c.scalar=true)∧(∀ c∈xs,c.scalar=true)),
      H.set i (.row g' k' dp (l.set idx (.agg (setD (qab (l.getD idx z') 0 k) off xs))))):=rfl
@[go_sem] theorem xSt5_n {i g k idx off g' k':Nat}{z':D}{dp:DP}{l:List D}{o2:Option (Prop×List R)}{bb:Bool}:xSt5 H i g k idx off z' sz g' k' dp l o2 bb none=o2:=by cases bb <;> rfl
@[go_sem] theorem xSt7_s {i g k idx off g' k':Nat}{z':D}{x:I}{l:List D}{hs:List (Nat×Nat×I)}:xSt7 H i g k idx off z' ⟨ty,sz,b,z⟩ g' k' l x (.own hs)=xSt6 H i g k idx off z' sz g' k' l hs (decide (k=1)) (qaR ⟨ty,sz,b,z⟩ x):=rfl
@[go_sem] theorem xSt7_f {i g k idx off g' k':Nat}{z':D}{x:I}{l:List D}:xSt7 H i g k idx off z' ⟨ty,sz,b,z⟩ g' k' l x .fz=none:=rfl
@[go_sem] theorem xSt6_t {i g k idx off g' k':Nat}{z':D}{l:List D}{xs:List I}{vc:Prop}{hs:List (Nat×Nat×I)}:xSt6 H i g k idx off z' sz g' k' l hs true (some (vc,xs))=some (vc∧g=g'∧k=k'∧idx<l.length∧off=0∧sz=1∧qbw xs∧qcc idx off sz hs,H.set i (.row g' k' (.own (qaw idx off xs)) (l.set idx (qaX (xs.getD 0 .junk))))):=rfl
@[go_sem] theorem coverH_nil {idx off n:Nat}:qcc idx off n []=True:=rfl
@[go_sem] theorem coverH_cons {idx off n a b:Nat}{x:I}{r:List (Nat×Nat×I)}:qcc idx off n ((a,b,x)::r)=((a=idx∧off≤b∧b<off+n)∧qcc idx off n r):=rfl
@[go_sem] theorem xSt6_f {i g k idx off g' k':Nat}{z':D}{l:List D}{xs:List I}{vc:Prop}{hs:List (Nat×Nat×I)}:xSt6 H i g k idx off z' sz g' k' l hs false (some (vc,xs))=some (vc∧g=g'∧k=k'∧idx<l.length∧off+sz≤k∧1<k∧qbw xs∧qcc idx off sz hs,
       H.set i (.row g' k' (.own (qaw idx off xs)) (l.set idx (.agg (setD (qab (l.getD idx z') 0 k) off (xs.map qaX)))))):=rfl
@[go_sem] theorem xCD_tn {cs:List I}:xCD true sz (.agg cs)=none:=rfl
@[go_sem] theorem xCD_sl {bb:Bool}{i g k lo n:Nat}:xCD bb sz (.sl i g k lo n)=none:=by cases bb <;> rfl
@[go_sem] theorem scalsI_nil:qbw []=True:=rfl
@[go_sem] theorem scalsI_cons {x:I}{r:List I}:qbw (x::r)=(qgI x∧qbw r):=rfl
@[go_sem] theorem scalI_d {x:D}:qgI (.d x)=(x.scalar=true):=rfl
@[go_sem] theorem scalI_sl {i g k lo n:Nat}:qgI (.sl i g k lo n)=True:=rfl
@[go_sem] theorem placeD_d {x:D}:qaX (.d x)=x:=rfl
@[go_sem] theorem placeD_sl {i g k lo n:Nat}:qaX (.sl i g k lo n)=.lst 1 []:=rfl
@[go_sem] theorem holesOf_nil {idx o:Nat}:qaw idx o []=[]:=rfl
@[go_sem] theorem holesOf_d {idx o:Nat}{x:D}{r:List I}:qaw idx o (.d x::r)=qaw idx (o+1) r:=rfl
@[go_sem] theorem holesOf_sl {idx o i g k lo n:Nat}{r:List I}:qaw idx o (.sl i g k lo n::r)=(idx,o,.sl i g k lo n)::qaw idx (o+1) r:=rfl
def xLiO3 (H:List R) (i len sz:Nat) (agg:Bool):Option (Prop×List I)→Option (Prop×I×List R)
 | some (vc,cs)=>some (vc∧i=0∧len=1∧0<sz∧sz≤1000∧qbw cs,.sl H.length 0 sz 0 1,H ++ [.row 0 sz (.own (qaw 0 0 cs)) [litD agg cs]])
 | none=>none
def qlV (H:List R) (i len:Nat) (x:I):Option TI→Option (Prop×I×List R)
 | some ei=>xLiO3 H i len ei.size ei.ty.agg (qaR ei x)
 | none=>none
def xLiO1 (T:Nat→Option TI) (H:List R) (i len:Nat) (x:I):Option TI→Option (Prop×I×List R)
 | some ⟨.slice e,_,_,_⟩=>qlV H i len x (T e)
 | _=>none
@[go_sem] theorem sLitO_eq {t len i:Nat}{x:I}:qht T H t len i x=xLiO1 T H i len x (T t):=by
 unfold qht
 cases T t with
 | none=>rfl
 | some ti=>
  obtain⟨ty,sz,b,z⟩:=ti
  cases ty with
  | slice e=>
   simp only[xLiO1]
   cases T e with
   | none=>rfl
   | some ei=>simp only[qlV];cases qaR ei x <;> rfl
  | _=>rfl
@[go_sem] theorem xLiO1_s {len e i:Nat}{x:I}:xLiO1 T H i len x (some ⟨.slice e,sz,b,z⟩)=qlV H i len x (T e):=rfl
@[go_sem] theorem xLiO2_s {len i:Nat}{x:I}:qlV H i len x (some ⟨ty,sz,b,z⟩)=xLiO3 H i len sz ty.agg (qaR ⟨ty,sz,b,z⟩ x):=rfl
@[go_sem] theorem xLiO3_s {len i:Nat}{agg:Bool}{vc:Prop}{cs:List I}:xLiO3 H i len sz agg (some (vc,cs))=some (vc∧i=0∧len=1∧0<sz∧sz≤1000∧qbw cs,.sl H.length 0 sz 0 1,H ++ [.row 0 sz (.own (qaw 0 0 cs)) [litD agg cs]]):=rfl
@[go_sem] theorem litD_t {cs:List I}:litD true cs=.agg (cs.map qaX):=rfl
@[go_sem] theorem litD_f {cs:List I}:litD false cs=qaX (cs.getD 0 .junk):=rfl
@[go_sem] theorem qnd {size i j:Nat}{cs:List I}{r:List (Nat×I)}:qaM size i ((j,.agg cs)::r)=none:=rfl
def xLk2 (T:Nat→Option TI) (kd:D) (ok:Bool):Option R→Option TI→Option TI→Option (Prop×I)
 | some (.map es),some kti,some eti=>some (qb8 T kti.ty∧qaS kti.ty kd∧qaJ kti.ty es,
    if ok=true then .d (.tup [(qbg es kd).getD eti.zero,.bool (qbg es kd).isSome]) else .d ((qbg es kd).getD eti.zero))
 | _,_,_=>none
def xLk1 (T:Nat→Option TI) (H:List R) (m k:I) (ok:Bool):Option TI→Option (Prop×I)
 | some ⟨.map kt et,_,_,_⟩=>match m,k with
  | .map i,.d kd=>xLk2 T kd ok (qaj H i) (T kt) (T et)
  | _,_=>none
 | _=>none
@[go_sem] theorem sLookup_eq {t:Nat}{m k:I}{ok:Bool}:qcO T H t m k ok=xLk1 T H m k ok (T t):=by
 unfold qcO
 cases T t with
 | none=>rfl
 | some ti=>
  obtain⟨ty,sz,b,z⟩:=ti
  cases ty with
  | map kt et=>
   cases m <;> first|rfl|skip
   cases k <;> first|rfl|skip
   rename_i i kd
   simp only[xLk1,qam]
   cases qaj H i with
   | none=>rfl
   | some r=>
    cases r <;> first|rfl|skip
  | _=>cases m <;> rfl
@[go_sem] theorem xLk1_s {i kt et:Nat}{kd:D}{ok:Bool}:xLk1 T H (.map i) (.d kd) ok (some ⟨.map kt et,sz,b,z⟩)=xLk2 T kd ok (qaj H i) (T kt) (T et):=rfl
@[go_sem] theorem xLk2_t {es:List (D×D)}{kd:D}{ty':Ty}{sz' b':Nat}{z':D}:xLk2 T kd true (some (.map es)) (some ⟨ty,sz,b,z⟩) (some ⟨ty',sz',b',z'⟩) =
  some (qb8 T ty∧qaS ty kd∧qaJ ty es,.d (.tup [(qbg es kd).getD z',.bool (qbg es kd).isSome])):=rfl
@[go_sem] theorem xLk2_f {es:List (D×D)}{kd:D}{ty':Ty}{sz' b':Nat}{z':D}:xLk2 T kd false (some (.map es)) (some ⟨ty,sz,b,z⟩) (some ⟨ty',sz',b',z'⟩) =
  some (qb8 T ty∧qaS ty kd∧qaJ ty es,.d ((qbg es kd).getD z')):=rfl
def xMm (H:List R):Option TI→Option (Prop×I×List R)
 | some ⟨.map _ _,_,_,_⟩=>some (True,.map H.length,H ++ [.map []])
 | _=>none
@[go_sem] theorem sMakeMap_eq {t:Nat}:qcr T H t=xMm H (T t):=by
 unfold qcr
 cases T t with
 | none=>rfl
 | some ti=>obtain⟨ty,sz,b,z⟩:=ti;cases ty <;> rfl
@[go_sem] theorem xMm_s {kt et:Nat}:xMm H (some ⟨.map kt et,sz,b,z⟩)=some (True,.map H.length,H ++ [.map []]):=rfl
def xMu2 (T:Nat→Option TI) (H:List R) (i:Nat) (kd xd:D):Option R→Option TI→Option (Prop×List R)
 | some (.map es),some kti=>some (qb8 T kti.ty∧qaS kti.ty kd∧qaJ kti.ty es∧qeY xd=true,H.set i (.map (updD es kd xd)))
 | _,_=>none
def xMu1 (T:Nat→Option TI) (H:List R) (m k x:I):Option TI→Option (Prop×List R)
 | some ⟨.map kt _,_,_,_⟩=>match m,k,x with
  | .map i,.d kd,.d xd=>xMu2 T H i kd xd (qaj H i) (T kt)
  | _,_,_=>none
 | _=>none
@[go_sem] theorem qlW {t:Nat}{m k x:I}:qa3 T H t m k x=xMu1 T H m k x (T t):=by
 unfold qa3
 cases T t with
 | none=>rfl
 | some ti=>
  obtain⟨ty,sz,b,z⟩:=ti
  cases ty with
  | map kt et=>
   cases m <;> first|rfl|skip
   cases k <;> first|rfl|skip
   cases x <;> first|rfl|skip
   rename_i i kd xd
   simp only[xMu1,qam]
   cases qaj H i with
   | none=>rfl
   | some r=>
    cases r <;> first|rfl|skip
  | _=>cases m <;> rfl
@[go_sem] theorem xMu1_s {i kt et:Nat}{kd xd:D}:xMu1 T H (.map i) (.d kd) (.d xd) (some ⟨.map kt et,sz,b,z⟩)=xMu2 T H i kd xd (qaj H i) (T kt):=rfl
@[go_sem] theorem xMu2_s {i:Nat}{es:List (D×D)}{kd xd:D}:xMu2 T H i kd xd (some (.map es)) (some ⟨ty,sz,b,z⟩)=some (qb8 T ty∧qaS ty kd∧qaJ ty es∧qeY xd=true,H.set i (.map (updD es kd xd))):=rfl
@[go_sem] theorem keyTy_int {k:IntKind}:qb8 T (.int k)=True:=rfl
@[go_sem] theorem qne {fs:List (Nat×Nat)}:qb8 T (.struct fs)=qdh T 0 fs:=rfl
@[go_sem] theorem keyTy_array {n e:Nat}:qb8 T (.array n e)=(qev (T e)=true):=rfl
@[go_sem] theorem keyIs_int {k:IntKind}{x:D}:qaS (.int k) x=x.isInt k:=rfl
@[go_sem] theorem qnf {fs:List (Nat×Nat)}{cs:List D}:qaS (.struct fs) (.agg cs)=(cs.length=fs.length∧intCells cs):=rfl
@[go_sem] theorem keyIs_array {n e:Nat}{cs:List D}:qaS (.array n e) (.agg cs)=(cs.length=n∧intCells cs):=rfl
@[go_sem] theorem keysAre_nil {ty:Ty}:qaJ ty []=True:=rfl
@[go_sem] theorem qng {ty:Ty}{x:D×D}{r:List (D×D)}:qaJ ty (x::r)=(qaS ty x.1∧qaJ ty r):=rfl
@[go_sem] theorem findD_nil {k:D}:qbg [] k=none:=rfl
@[go_sem] theorem updD_nil {k v:D}:updD [] k v=[(k,v)]:=rfl
@[go_sem] theorem mapVal_int {k:IntKind}{n:Int}:qeY (.int k n)=true:=rfl
@[go_sem] theorem mapVal_bool {b:Bool}:qeY (.bool b)=true:=rfl
attribute [go_sem] Option.getD_some Option.getD_none Option.isSome_none Option.isSome_some
theorem qiA {x:D×D}{r:List (D×D)}{k:D}:qbg (x::r) k=if qcM k x.1=true then some x.2 else qbg r k:=rfl
theorem qeE {k v:D} : ∀ {es:List (D×D)},qbg es k=none→updD es k v=es ++ [(k,v)]
 | [],_=>rfl
 | x::r,h=>by
  simp only[qbg] at h
  split at h
  ·simp at h
  ·rename_i hb
   simp only[updD,hb,Bool.false_eq_true,if_false,List.cons_append]
   rw[qeE h]
theorem qgZ {k:IntKind}{a b c d:Int}:qcM (.agg [.int k a,.int k b]) (.agg [.int k c,.int k d])=decide (a=c∧b=d):=by
 simp only[qcM,qbF,D.toInt,Bool.and_true]
 by_cases h1:a=c <;> by_cases h2:b=d <;> simp[h1,h2]
def qjN (size g k lo n:Nat):Option R→Option (Prop×List D)
 | some (.row g' k' dp l)=>some (g=g'∧k=k'∧k=size∧(dp.o=true→scalars ((l.drop lo).take n)=true),(l.drop lo).take n)
 | _=>none
@[go_sem] theorem srcD_d {size:Nat}{xd:D}:srcD H size (.d xd)=some (xd.isLst size∧0<size,xd.elems):=rfl
@[go_sem] theorem srcD_sl {size i g k lo n:Nat}:srcD H size (.sl i g k lo n)=qjN size g k lo n (qaj H i):=by
 simp only[srcD,qam]
 cases qaj H i with
 | none=>rfl
 | some r=>cases r <;> rfl
@[go_sem] theorem xSrcS_s {size g k lo n g' k':Nat}{dp:DP}{l:List D}:qjN size g k lo n (some (.row g' k' dp l))=some (g=g'∧k=k'∧k=size∧(dp.o=true→scalars ((l.drop lo).take n)=true),(l.drop lo).take n):=rfl
def xAp4 (H:List R) (i g k lo n:Nat) (c:Prop) (size bytes:Nat) (xs:List D):Option R→Option (Prop×I×List R)
 | some (.row g' k' dp l)=>some (c∧g=g'∧k=k'∧k=size∧lo=0∧n=l.length∧dp.shut=true∧(dp.o=true→appC l (scalars xs))∧(n+xs.length)*bytes≤140737488355328∧0<bytes,
        .sl i (g+1) k 0 (n+xs.length),H.set i (.row (g+1) k (qdu dp l (scalars xs)) (l++xs)))
 | _=>none
def xAp5 (H:List R) (i g k lo n:Nat) (c:Prop) (size bytes:Nat) (xs:List D) (hs:List Hole):Option R→Option (Prop×I×List R)
 | some (.row g' k' (.own []) l)=>some (c∧g=g'∧k=k'∧k=size∧lo=0∧n=l.length∧(n+xs.length)*bytes≤140737488355328∧0<bytes,
        .sl i (g+1) k 0 (n+xs.length),H.set i (.row (g+1) k (.own (qcd l.length hs)) (l++xs)))
 | _=>none
def xAp3 (H:List R) (t t' size bytes:Nat) (d:I):Option (Prop×List D×List Hole)→Option (Prop×I×List R)
 | some (vc,xs,[])=>match d with
  | .d .nil=>some ((t=t'∧vc)∧0<size∧xs.length*bytes≤140737488355328∧0<bytes,.sl H.length 0 size 0 xs.length,H ++ [.row 0 size (scalars xs) xs])
  | .sl i g k lo n=>xAp4 H i g k lo n (t=t'∧vc) size bytes xs (qaj H i)
  | _=>none
 | some (vc,xs,h::hs)=>match d with
  | .d .nil=>some ((t=t'∧vc)∧0<size∧xs.length*bytes≤140737488355328∧0<bytes,.sl H.length 0 size 0 xs.length,H ++ [.row 0 size (.own (h::hs)) xs])
  | .sl i g k lo n=>xAp5 H i g k lo n (t=t'∧vc) size bytes xs (h::hs) (qaj H i)
  | _=>none
 | none=>none
def xAp2 (H:List R) (t t':Nat) (d x:I):Option TI→Option (Prop×I×List R)
 | some ei=>xAp3 H t t' ei.size ei.bytes d (srcX H ei.size x)
 | none=>none
def xAp1 (T:Nat→Option TI) (H:List R) (t t':Nat) (d x:I):Option TI→Option (Prop×I×List R)
 | some ⟨.slice e,_,_,_⟩=>xAp2 H t t' d x (T e)
 | _=>none
def xAz2 (H:List R) (n:Int):Option TI→Option (Prop×I×List R)
 | some ei=>some (0<n∧n*(ei.bytes:Int)≤140737488355328∧0<ei.bytes∧ei.size=1∧ei.zero.scalar=true,.sl H.length 0 1 0 n.toNat,H ++ [.row 0 1 (.own []) (List.replicate n.toNat ei.zero)])
 | none=>none
def xAz3 (T:Nat→Option TI) (H:List R) (e:Nat) (d x:I):Option (Prop×I×List R):=
 match d,x with
 | .d .nil,.d (.int .i64 n)=>xAz2 H n (T e)
 | _,_=>none
def xAy2 (H:List R) (i g k lo m:Nat) (n:Int):Option TI→Option R→Option (Prop×I×List R)
 | some ei,some (.row g' k' (.own []) l)=>some (0≤n∧g=g'∧k'=1∧k=1∧lo=0∧m=l.length∧(m+n)*(ei.bytes:Int)≤140737488355328∧0<ei.bytes∧ei.size=1∧ei.zero.scalar=true,
     .sl i (g+1) 1 0 (m+n.toNat),H.set i (.row (g+1) 1 (.own []) (l++List.replicate n.toNat ei.zero)))
 | _,_=>none
def xAy3 (T:Nat→Option TI) (H:List R) (e:Nat) (d x:I):Option (Prop×I×List R):=
 match d,x with
 | .sl i g k lo m,.d (.int .i64 n)=>xAy2 H i g k lo m n (T e) (qaj H i)
 | _,_=>none
def orA (x y:Option (Prop×I×List R)):Option (Prop×I×List R):=match x with|some r=>some r|none=>y
def xApZ (T:Nat→Option TI) (H:List R) (t t':Nat) (d x:I):Option TI→Option TI→Option (Prop×I×List R)
 | some ⟨.slice e,_,_,_⟩,some ⟨.int .i64,_,_,_⟩=>orA (xAz3 T H e d x) (orA (xAy3 T H e d x) (qb5 T H t t' d x))
 | _,_=>qb5 T H t t' d x
def xAZ (T:Nat→Option TI) (H:List R) (d x:I):Option TI→Option TI→Option (Prop×I×List R)
 | some ⟨.slice e,_,_,_⟩,some ⟨.int .i64,_,_,_⟩=>xAz3 T H e d x
 | _,_=>none
def xAY (T:Nat→Option TI) (H:List R) (d x:I):Option TI→Option TI→Option (Prop×I×List R)
 | some ⟨.slice e,_,_,_⟩,some ⟨.int .i64,_,_,_⟩=>xAy3 T H e d x
 | _,_=>none
theorem qlX {t t':Nat}{d x:I}:qjc T H t t' d x=xAZ T H d x (T t) (T t'):=by
 unfold qjc
 cases T t with
 | none=>rfl
 | some ti=>
  obtain⟨ty,sz,b,z⟩:=ti
  cases T t' with
  | none=>cases ty <;> rfl
  | some ti'=>
   obtain⟨ty',sz',b',z'⟩:=ti'
   cases d with
   | d dd=>
    cases dd with
    | nil=>
     cases x with
     | d xd=>
      cases xd with
      | int k n=>
       cases k <;> (cases ty <;> first|rfl|(cases ty' <;> first|rfl|(rename_i e k2;cases k2 <;> first|rfl|(simp only[xAZ,xAz3,xAz2];cases T e <;> rfl))))
      | _=>cases ty <;> first|rfl|(cases ty' <;> first|rfl|(rename_i e k2;cases k2 <;> rfl))
     | _=>cases ty <;> first|rfl|(cases ty' <;> first|rfl|(rename_i e k2;cases k2 <;> rfl))
    | _=>cases ty <;> first|rfl|(cases ty' <;> first|rfl|(rename_i e k2;cases k2 <;> rfl))
   | _=>cases ty <;> first|rfl|(cases ty' <;> first|rfl|(rename_i e k2;cases k2 <;> rfl))
theorem qlY {t t':Nat}{d x:I}:qje T H t t' d x=xAY T H d x (T t) (T t'):=by
 unfold qje
 cases T t with
 | none=>rfl
 | some ti=>
  obtain⟨ty,sz,b,z⟩:=ti
  cases T t' with
  | none=>cases ty <;> rfl
  | some ti'=>
   obtain⟨ty',sz',b',z'⟩:=ti'
   cases d with
   | sl i g k lo m=>
    cases x with
    | d xd=>
     cases xd with
     | int kx n=>
      cases kx <;> (cases ty <;> first|rfl|(cases ty' <;> first|rfl|(rename_i e k2;cases k2 <;> first|rfl|(simp only[xAY,xAy3,qam];cases T e <;> first|rfl|(cases H[i]? <;> first|rfl|(rename_i r;cases r <;> first|rfl|(rename_i dp _;cases dp <;> first|rfl|(rename_i hs;cases hs <;> rfl))))))))
     | _=>cases ty <;> first|rfl|(cases ty' <;> first|rfl|(rename_i e k2;cases k2 <;> rfl))
    | _=>cases ty <;> first|rfl|(cases ty' <;> first|rfl|(rename_i e k2;cases k2 <;> rfl))
   | _=>cases ty <;> first|rfl|(cases ty' <;> first|rfl|(rename_i e k2;cases k2 <;> rfl))
@[go_sem] theorem sApp_eq {t t':Nat}{d x:I}:sApp T H t t' d x=xApZ T H t t' d x (T t) (T t'):=by
 unfold sApp
 rw[qlX,qlY]
 cases T t with
 | none=>rfl
 | some ti=>
  obtain⟨ty,sz,b,z⟩:=ti
  cases T t' with
  | none=>cases ty <;> rfl
  | some ti'=>
   obtain⟨ty',sz',b',z'⟩:=ti'
   cases ty <;> first|rfl|(cases ty' <;> first|rfl|(rename_i e k2;cases k2 <;> rfl))
@[go_sem] theorem xApZ_s {t t' e e' sz' b':Nat}{z':D}{d x:I}:xApZ T H t t' d x (some ⟨.slice e,sz,b,z⟩) (some ⟨.slice e',sz',b',z'⟩)=qb5 T H t t' d x:=rfl
@[go_sem] theorem orA_some {r:Prop×I×List R}{y:Option (Prop×I×List R)}:orA (some r) y=some r:=rfl
@[go_sem] theorem xAz2_s {n:Int}{ty:Ty}{sz b:Nat}{z:D}:xAz2 H n (some ⟨ty,sz,b,z⟩)=some (0<n∧n*(b:Int)≤140737488355328∧0<b∧sz=1∧z.scalar=true,.sl H.length 0 1 0 n.toNat,H ++ [.row 0 1 (.own []) (List.replicate n.toNat z)]):=rfl
@[go_sem] theorem xApZ_z {t t' e sz' b':Nat}{z':D}{n:Int}:xApZ T H t t' (.d .nil) (.d (.int .i64 n)) (some ⟨.slice e,sz,b,z⟩) (some ⟨.int .i64,sz',b',z'⟩)=orA (xAz2 H n (T e)) (qb5 T H t t' (.d .nil) (.d (.int .i64 n))):=by
 show orA (xAz2 H n (T e)) (orA none _)=_
 rfl
@[go_sem] theorem xApZ_y {t t' e sz' b' i g k lo m:Nat}{z':D}{n:Int}:xApZ T H t t' (.sl i g k lo m) (.d (.int .i64 n)) (some ⟨.slice e,sz,b,z⟩) (some ⟨.int .i64,sz',b',z'⟩)=orA (xAy2 H i g k lo m n (T e) (qaj H i)) (qb5 T H t t' (.sl i g k lo m) (.d (.int .i64 n))):=rfl
@[go_sem] theorem xAy2_s {i g k lo m g' k':Nat}{n:Int}{ty:Ty}{sz b:Nat}{z:D}{l:List D}:xAy2 H i g k lo m n (some ⟨ty,sz,b,z⟩) (some (.row g' k' (.own []) l))=some (0≤n∧g=g'∧k'=1∧k=1∧lo=0∧m=l.length∧(m+n)*(b:Int)≤140737488355328∧0<b∧sz=1∧z.scalar=true,
     .sl i (g+1) 1 0 (m+n.toNat),H.set i (.row (g+1) 1 (.own []) (l++List.replicate n.toNat z))):=rfl
@[go_sem] theorem sAppend_eq {t t':Nat}{d x:I}:qb5 T H t t' d x=xAp1 T H t t' d x (T t):=by
 unfold qb5
 cases T t with
 | none=>rfl
 | some ti=>
  obtain⟨ty,sz,b,z⟩:=ti
  cases ty with
  | slice e=>
   simp only[xAp1]
   cases T e with
   | none=>rfl
   | some ei=>
    simp only[xAp2]
    cases srcX H ei.size x with
    | none=>rfl
    | some q=>
     obtain⟨vc,xs,hs⟩:=q
     cases hs with
     | nil=>
      cases d with
      | d dd=>cases dd <;> simp only[xAp3,and_assoc]
      | sl i g k lo n=>
       simp only[xAp3,←qam]
       cases H[i]? with
       | none=>rfl
       | some r=>cases r <;> simp only[xAp4,and_assoc]
      | _=>rfl
     | cons h hs=>
      cases d with
      | d dd=>cases dd <;> simp only[xAp3,and_assoc]
      | sl i g k lo n=>
       simp only[xAp3,←qam]
       cases H[i]? with
       | none=>rfl
       | some r=>
        cases r with
        | row g' k' dp l=>
         rcases dp with _|hs2
         ·rfl
         ·cases hs2 <;> simp only[xAp5,and_assoc]
        | _=>rfl
      | _=>rfl
  | _=>rfl
@[go_sem] theorem xAp1_s {t t' e:Nat}{d x:I}:xAp1 T H t t' d x (some ⟨.slice e,sz,b,z⟩)=xAp2 H t t' d x (T e):=rfl
@[go_sem] theorem xAp2_s {t t':Nat}{d x:I}:xAp2 H t t' d x (some ⟨ty,sz,b,z⟩)=xAp3 H t t' sz b d (srcX H sz x):=rfl
@[go_sem] theorem xAp3_nil {t t' bytes:Nat}{vc:Prop}{xs:List D}:xAp3 H t t' sz bytes (.d .nil) (some (vc,xs,[]))=some ((t=t'∧vc)∧0<sz∧xs.length*bytes≤140737488355328∧0<bytes,.sl H.length 0 sz 0 xs.length,H ++ [.row 0 sz (scalars xs) xs]):=rfl
@[go_sem] theorem xAp3_nilh {t t' bytes:Nat}{vc:Prop}{xs:List D}{h:Hole}{hs:List Hole}:xAp3 H t t' sz bytes (.d .nil) (some (vc,xs,h::hs))=some ((t=t'∧vc)∧0<sz∧xs.length*bytes≤140737488355328∧0<bytes,.sl H.length 0 sz 0 xs.length,H ++ [.row 0 sz (.own (h::hs)) xs]):=rfl
@[go_sem] theorem xAp3_sl {t t' bytes i g k lo n:Nat}{vc:Prop}{xs:List D}:xAp3 H t t' sz bytes (.sl i g k lo n) (some (vc,xs,[]))=xAp4 H i g k lo n (t=t'∧vc) sz bytes xs (qaj H i):=rfl
@[go_sem] theorem xAp3_slh {t t' bytes i g k lo n:Nat}{vc:Prop}{xs:List D}{h:Hole}{hs:List Hole}:xAp3 H t t' sz bytes (.sl i g k lo n) (some (vc,xs,h::hs))=xAp5 H i g k lo n (t=t'∧vc) sz bytes xs (h::hs) (qaj H i):=rfl
@[go_sem] theorem xAp4_s {bytes i g k lo n g' k':Nat}{c:Prop}{xs l:List D}{dp:DP}:xAp4 H i g k lo n c sz bytes xs (some (.row g' k' dp l)) =
  some (c∧g=g'∧k=k'∧k=sz∧lo=0∧n=l.length∧dp.shut=true∧(dp.o=true→appC l (scalars xs))∧(n+xs.length)*bytes≤140737488355328∧0<bytes,.sl i (g+1) k 0 (n+xs.length),H.set i (.row (g+1) k (qdu dp l (scalars xs)) (l++xs))):=rfl
attribute [go_sem] appDP_t qk8 qjb appDP_c appDP_a appC_t appC_n appC_c appC_a
@[go_sem] theorem xAp5_s {bytes i g k lo n g' k':Nat}{c:Prop}{xs l:List D}{hs:List Hole}:xAp5 H i g k lo n c sz bytes xs hs (some (.row g' k' (.own []) l)) =
  some (c∧g=g'∧k=k'∧k=sz∧lo=0∧n=l.length∧(n+xs.length)*bytes≤140737488355328∧0<bytes,.sl i (g+1) k 0 (n+xs.length),H.set i (.row (g+1) k (.own (qcd l.length hs)) (l++xs))):=rfl
@[go_sem] theorem shiftH_nil {n:Nat}:qcd n []=[]:=rfl
@[go_sem] theorem shiftH_cons {n a c:Nat}{x:I}{r:List Hole}:qcd n ((a,c,x)::r)=(n+a,c,x)::qcd n r:=rfl
@[go_sem] theorem scalH_nil {k j:Nat}{hs:List Hole}:qgb k hs j []=True:=rfl
def qjO:Option I→D→Prop
 | some _,_=>True
 | none,c=>c.scalar=true
@[go_sem] theorem scalOp_s {x:I}{c:D}:qjO (some x) c=True:=rfl
@[go_sem] theorem scalOp_n {c:D}:qjO none c=(c.scalar=true):=rfl
@[go_sem] theorem scalH_cons {k j:Nat}{hs:List Hole}{c:D}{r:List D}:qgb k hs j (c::r)=(qjO (qan k hs j) c∧qgb k hs (j+1) r):=by
 simp only[qgb];cases qan k hs j <;> rfl
@[go_sem] theorem addNil_s {vc:Prop}{xs:List D}:qdQ (some (vc,xs))=some (vc,xs,[]):=rfl
@[go_sem] theorem srcX_d {size:Nat}{xd:D}:srcX H size (.d xd)=some (xd.isLst size∧0<size,xd.elems,[]):=rfl
def qiB (size g k lo n:Nat):Option R→Option (Prop×List D×List Hole)
 | some (.row g' k' (.own (h::hs)) l)=>some (g=g'∧k=k'∧k=size∧lo=0∧n=l.length∧0<n∧qgb k (h::hs) 0 (flat l),l,h::hs)
 | r=>qdQ (qjN size g k lo n r)
@[go_sem] theorem srcX_sl {size i g k lo n:Nat}:srcX H size (.sl i g k lo n)=qiB size g k lo n (qaj H i):=by
 simp only[srcX,srcD_sl,qam]
 cases qaj H i with
 | none=>rfl
 | some r=>
  cases r with
  | row g' k' dp l=>
   rcases dp with _|hs
   ·rfl
   ·cases hs <;> rfl
  | _=>rfl
@[go_sem] theorem xSrcX_h {size g k lo n g' k':Nat}{h:Hole}{hs:List Hole}{l:List D}:qiB size g k lo n (some (.row g' k' (.own (h::hs)) l))=some (g=g'∧k=k'∧k=size∧lo=0∧n=l.length∧0<n∧qgb k (h::hs) 0 (flat l),l,h::hs):=rfl
@[go_sem] theorem xSrcX_o {size g k lo n g' k':Nat}{l:List D}:qiB size g k lo n (some (.row g' k' (.own []) l))=some (g=g'∧k=k'∧k=size∧(scalars ((l.drop lo).take n)=true),(l.drop lo).take n,[]):=by
 simp only[qiB,qjN,qdQ,DP.o,true_implies]
@[go_sem] theorem xSrcX_f {size g k lo n g' k':Nat}{l:List D}:qiB size g k lo n (some (.row g' k' .fz l))=some (g=g'∧k=k'∧k=size,(l.drop lo).take n,[]):=by
 simp[qiB,qjN,qdQ,DP.o]
@[go_sem] theorem flat_one {x:D}:flat [x]=x.cells ++ []:=rfl
def xZr4 (H:List R) (i g k lo n size:Nat) (z:D):Option R→Option (Prop×I×List R)
 | some (.row g' k' dp l)=>some (g=g'∧k=k'∧k=size∧size=1∧z.scalar=true∧l.all D.scalar=true,.d (.tup []),H.set i (.row g' k' dp (qaA l lo (List.replicate n z))))
 | _=>none
def xZr3 (H:List R) (size:Nat) (z:D):I→Option (Prop×I×List R)
 | .sl i g k lo n=>xZr4 H i g k lo n size z (qaj H i)
 | _=>none
def xZr2 (H:List R) (d:I):Option TI→Option (Prop×I×List R)
 | some ei=>xZr3 H ei.size ei.zero d
 | none=>none
def xZr1 (T:Nat→Option TI) (H:List R) (d:I):Option TI→Option (Prop×I×List R)
 | some ⟨.slice e,_,_,_⟩=>xZr2 H d (T e)
 | _=>none
@[go_sem] theorem sClear_eq {t:Nat}{d:I}:qfG T H t d=xZr1 T H d (T t):=by
 unfold qfG
 cases T t with
 | none=>rfl
 | some ti=>
  obtain⟨ty,sz,b,z⟩:=ti
  cases ty with
  | slice e=>
   simp only[xZr1]
   cases T e with
   | none=>rfl
   | some ei=>
    cases d <;> simp only[xZr2,xZr3,←qam]
    rename_i i g k lo n
    cases H[i]? with
    | none=>rfl
    | some r=>cases r <;> rfl
  | _=>rfl
@[go_sem] theorem xZr1_s {d:I}{e sz b:Nat}{z:D}:xZr1 T H d (some ⟨.slice e,sz,b,z⟩)=xZr2 H d (T e):=rfl
@[go_sem] theorem xZr2_s {d:I}{ty:Ty}{sz b:Nat}{z:D}:xZr2 H d (some ⟨ty,sz,b,z⟩)=xZr3 H sz z d:=rfl
@[go_sem] theorem xZr3_s {i g k lo n sz:Nat}{z:D}:xZr3 H sz z (.sl i g k lo n)=xZr4 H i g k lo n sz z (qaj H i):=rfl
@[go_sem] theorem xZr4_s {i g k lo n sz g' k':Nat}{z:D}{dp:DP}{l:List D}:xZr4 H i g k lo n sz z (some (.row g' k' dp l))=some (g=g'∧k=k'∧k=sz∧sz=1∧z.scalar=true∧l.all D.scalar=true,.d (.tup []),H.set i (.row g' k' dp (qaA l lo (List.replicate n z)))):=rfl
def xCp4 (H:List R) (i g k lo n:Nat) (vc:Prop) (size:Nat) (xs:List D):Option R→Option (Prop×I×List R)
 | some (.row g' k' dp l)=>some (vc∧g=g'∧k=k'∧k=size∧size=1∧xs.length≤n∧lo+n≤l.length∧xs.all D.scalar=true∧l.all D.scalar=true,
       .d (.int .i64 (xs.length:Nat)),H.set i (.row g' k' dp (qaA l lo xs)))
 | _=>none
def xCp3 (H:List R) (size:Nat):Option (Prop×List D)→I→Option (Prop×I×List R)
 | some (vc,xs),.sl i g k lo n=>xCp4 H i g k lo n vc size xs (qaj H i)
 | _,_=>none
def xCp2 (H:List R) (d x:I):Option TI→Option (Prop×I×List R)
 | some ei=>xCp3 H ei.size (srcD H ei.size x) d
 | none=>none
def xCp1 (T:Nat→Option TI) (H:List R) (d x:I):Option TI→Option (Prop×I×List R)
 | some ⟨.slice e,_,_,_⟩=>xCp2 H d x (T e)
 | _=>none
@[go_sem] theorem sCopy_eq {t t':Nat}{d x:I}:qir T H t t' d x=xCp1 T H d x (T t):=by
 unfold qir
 cases T t with
 | none=>rfl
 | some ti=>
  obtain⟨ty,sz,b,z⟩:=ti
  cases ty with
  | slice e=>
   simp only[xCp1]
   cases T e with
   | none=>rfl
   | some ei=>
    simp only[xCp2]
    cases srcD H ei.size x with
    | none=>cases d <;> rfl
    | some q=>
     obtain⟨vc,xs⟩:=q
     cases d <;> simp only[xCp3,←qam]
     rename_i i g k lo n
     cases H[i]? with
     | none=>rfl
     | some r=>cases r <;> rfl
  | _=>rfl
@[go_sem] theorem xCp1_s {e:Nat}{d x:I}:xCp1 T H d x (some ⟨.slice e,sz,b,z⟩)=xCp2 H d x (T e):=rfl
@[go_sem] theorem xCp2_s {d x:I}:xCp2 H d x (some ⟨ty,sz,b,z⟩)=xCp3 H sz (srcD H sz x) d:=rfl
@[go_sem] theorem xCp3_s {i g k lo n:Nat}{vc:Prop}{xs:List D}:xCp3 H sz (some (vc,xs)) (.sl i g k lo n)=xCp4 H i g k lo n vc sz xs (qaj H i):=rfl
@[go_sem] theorem xCp4_s {i g k lo n g' k':Nat}{vc:Prop}{xs l:List D}{dp:DP}:xCp4 H i g k lo n vc sz xs (some (.row g' k' dp l)) =
  some (vc∧g=g'∧k=k'∧k=sz∧sz=1∧xs.length≤n∧lo+n≤l.length∧xs.all D.scalar=true∧l.all D.scalar=true,.d (.int .i64 (xs.length:Nat)),H.set i (.row g' k' dp (qaA l lo xs))):=rfl
@[go_sem] theorem fnOf_d {g:Nat}{cs:List D}:fnOf (.d (.fn g cs))=some (g,cs.map .d):=rfl
@[go_sem] theorem fnOf_fn {g:Nat}{cs:List I}:fnOf (.fn g cs)=some (g,cs):=rfl
def qjP (E:Env) (c:Prop) (f:Nat) (H:List R) (K:I→List R→Prop):Option (Prop×List D)→Prop
 | some (vc,ds)=>c∧vc∧qjq E f ds H K
 | none=>False
def qg0 (E:Env) (c:Prop) (f:Nat) (H:List R) (K:I→List R→Prop):Option (Prop×List D)→Prop
 | some (vc,ds)=>c∧vc∧qjr E f ds H K
 | none=>False
def qfN (E:Env) (c:Prop) (f:Nat) (args:List I) (H:List R) (K:I→List R→Prop):Kind→Prop
 | .own=>qjP E c f H K (qcT H args)
 | .fz=>qg0 E c f H K (qew args)
 | .proc=>c∧ICall E.P f args H K
@[go_sem] theorem callM_s {c:Prop}{f:Nat}{caps args:List I}{K:I→List R→Prop}:qdS E c (some (f,caps)) args H K=qfN E c f (args++caps) H K (E.pf f):=by
 simp only[qdS]
 cases E.pf f with
 | own=>simp only[qfN];cases qcT H (args++caps) <;> rfl
 | fz=>simp only[qfN];cases qew (args++caps) <;> rfl
 | proc=>rfl
@[go_sem] theorem xCall1_own {c:Prop}{f:Nat}{args:List I}{K:I→List R→Prop}:qfN E c f args H K .own=qjP E c f H K (qcT H args):=rfl
@[go_sem] theorem xCall1_fz {c:Prop}{f:Nat}{args:List I}{K:I→List R→Prop}:qfN E c f args H K .fz=qg0 E c f H K (qew args):=rfl
@[go_sem] theorem xCall1_proc {c:Prop}{f:Nat}{args:List I}{K:I→List R→Prop}:qfN E c f args H K .proc=(c∧ICall E.P f args H K):=rfl
@[go_sem] theorem xCall2_s {c vc:Prop}{f:Nat}{ds:List D}{K:I→List R→Prop}:qjP E c f H K (some (vc,ds))=(c∧vc∧qjq E f ds H K):=rfl
@[go_sem] theorem xCall3_s {c vc:Prop}{f:Nat}{ds:List D}{K:I→List R→Prop}:qg0 E c f H K (some (vc,ds))=(c∧vc∧qjr E f ds H K):=rfl
def qjQ (E:Env) (c:Prop) (e:Bool) (f:Nat) (K:I→Prop):Option (Prop×List D)→Prop
 | some (vc,ds)=>(e=true→c∧vc)∧qlh E e f ds K
 | none=>False
def qfO (E:Env) (c:Prop) (e:Bool) (f:Nat) (args:List I) (H:List R) (K:List R→I→Prop):Kind→Prop
 | .own=>qjQ E c e f (K H) (qcT H args)
 | .proc=>(e=false→∃ x,K H (.cond e x))∧(e=true→c∧ICall E.P f args H (fun r H'=>K H' (.cond e r)))
 | .fz=>(e=false→∃ x,K H (.cond e x))∧(e=true→qg0 E c f H (fun r H'=>K H' (.cond e r)) (qew args))
@[go_sem] theorem callN_s {c:Prop}{e:Bool}{f:Nat}{caps args:List I}{K:List R→I→Prop}:qhs E c e (some (f,caps)) args H K=qfO E c e f (args++caps) H K (E.pf f):=by
 simp only[qhs]
 cases E.pf f with
 | own=>simp only[qfO];cases qcT H (args++caps) <;> rfl
 | fz=>simp only[qfO];cases qew (args++caps) <;> rfl
 | proc=>rfl
@[go_sem] theorem xCall4_proc {c:Prop}{e:Bool}{f:Nat}{args:List I}{K:List R→I→Prop}:qfO E c e f args H K .proc=((e=false→∃ x,K H (.cond e x))∧(e=true→c∧ICall E.P f args H (fun r H'=>K H' (.cond e r)))):=rfl
@[go_sem] theorem xCall4_fz {c:Prop}{e:Bool}{f:Nat}{args:List I}{K:List R→I→Prop}:qfO E c e f args H K .fz=((e=false→∃ x,K H (.cond e x))∧(e=true→qg0 E c f H (fun r H'=>K H' (.cond e r)) (qew args))):=rfl
@[go_sem] theorem xCall4_own {c:Prop}{e:Bool}{f:Nat}{args:List I}{K:List R→I→Prop}:qfO E c e f args H K .own=qjQ E c e f (K H) (qcT H args):=rfl
@[go_sem] theorem xCall5_s {c vc:Prop}{e:Bool}{f:Nat}{ds:List D}{K:I→Prop}:qjQ E c e f K (some (vc,ds))=((e=true→c∧vc)∧qlh E e f ds K):=rfl
def qlZ:Option (Prop×D)→Option (Prop×List D)→Option (Prop×List D)
 | some (vc,d),some (vc',ds)=>some (vc∧vc',d::ds)
 | _,_=>none
def consO:Option (Prop×D)→Option (Prop×List D)→Option (Prop×List D)
 | some (vc,d),some (vc',ds)=>some (vc∧d.one=true∧vc',d::ds)
 | _,_=>none
@[go_sem] theorem consV_s {vc vc':Prop}{d:D}{ds:List D}:qlZ (some (vc,d)) (some (vc',ds))=some (vc∧vc',d::ds):=rfl
@[go_sem] theorem consO_s {vc vc':Prop}{d:D}{ds:List D}:consO (some (vc,d)) (some (vc',ds))=some (vc∧d.one=true∧vc',d::ds):=rfl
@[go_sem] theorem views_nil:qcT H []=some (True,[]):=rfl
@[go_sem] theorem qiC {x:I}{r:List I}:qcT H (x::r)=qlZ (view H 3 x) (qcT H r):=by
 simp only[qcT,qbX]
 cases view H 3 x with
 | none=>rfl
 | some p=>obtain⟨vc,d⟩:=p;cases qbX (view H 3) r <;> rfl
@[go_sem] theorem datas_nil:qew []=some (True,[]):=rfl
@[go_sem] theorem datas_cons {x:D}{r:List I}:qew (.d x::r)=qlZ (some (True,x)) (qew r):=by
 simp only[qew,qbX,view]
 cases qbX (view [] 0) r <;> rfl
@[go_sem] theorem viewL_nil {f:I→Option (Prop×D)}:qdf f []=some (True,[]):=rfl
@[go_sem] theorem viewL_cons {f:I→Option (Prop×D)}{x:I}{r:List I}:qdf f (x::r)=consO (f x) (qdf f r):=by
 simp only[qdf]
 cases f x with
 | none=>rfl
 | some p=>obtain⟨vc,d⟩:=p;cases qdf f r <;> rfl
@[go_sem] theorem viewF_nil {f:I→Option (Prop×D)}:qbX f []=some (True,[]):=rfl
@[go_sem] theorem viewF_cons {f:I→Option (Prop×D)}{x:I}{r:List I}:qbX f (x::r)=qlZ (f x) (qbX f r):=by
 simp only[qbX]
 cases f x with
 | none=>rfl
 | some p=>obtain⟨vc,d⟩:=p;cases qbX f r <;> rfl
def vSl (g k lo n:Nat):Option R→Option (Prop×D)
 | some (.row g' k' dp l)=>some (g=g'∧k=k'∧dp.shut=true,.lst k ((l.drop lo).take n))
 | _=>none
def vPtr:Option (Prop×List D)→Option (Prop×D)
 | some (vc,ds)=>some (vc,.ptr ds)
 | none=>none
def vBox (H:List R) (f off:Nat):Option R→Option (Prop×D)
 | some (.box cs)=>vPtr (qdf (view H f) (cs.drop off))
 | _=>none
def vAgg:Option (Prop×List D)→Option (Prop×D)
 | some (vc,ds)=>some (vc,.agg ds)
 | none=>none
def vTup:Option (Prop×List D)→Option (Prop×D)
 | some (vc,ds)=>some (vc,.tup ds)
 | none=>none
def vFn (g:Nat):Option (Prop×List D)→Option (Prop×D)
 | some (vc,ds)=>some (vc,.fn g ds)
 | none=>none
def vE (g k idx off:Nat) (z:D):Option R→Option (Prop×D)
 | some (.row g' k' dp l)=>some (g=g'∧k=k'∧dp.shut=true∧idx<l.length,.ptr ((qab (l.getD idx z) 0 k).drop off))
 | _=>none
@[go_sem] theorem view_d0 {x:D}:view H 0 (.d x)=some (True,x):=rfl
@[go_sem] theorem view_d {f:Nat}{x:D}:view H (f+1) (.d x)=some (True,x):=rfl
@[go_sem] theorem view_sl {f i g k lo n:Nat}:view H (f+1) (.sl i g k lo n)=vSl g k lo n (qaj H i):=by
 simp only[view,qam]
 cases qaj H i with
 | none=>rfl
 | some r=>cases r <;> rfl
@[go_sem] theorem view_ptr {f i off:Nat}:view H (f+1) (.ptr i off)=vBox H f off (qaj H i):=by
 simp only[view,qam]
 cases qaj H i with
 | none=>rfl
 | some r=>
  cases r <;> simp only[vBox]
  rename_i cs
  cases qdf (view H f) (cs.drop off) <;> rfl
@[go_sem] theorem view_eptr {f i g k idx off:Nat}{z':D}:view H (f+1) (.eptr i g k idx off z')=vE g k idx off z' (qaj H i):=by
 simp only[view,qam]
 cases qaj H i with
 | none=>rfl
 | some r=>cases r <;> rfl
@[go_sem] theorem view_agg {f:Nat}{cs:List I}:view H (f+1) (.agg cs)=vAgg (qdf (view H f) cs):=by
 simp only[view];cases qdf (view H f) cs <;> rfl
@[go_sem] theorem view_fn {f g:Nat}{cs:List I}:view H (f+1) (.fn g cs)=vFn g (qbX (view H f) cs):=by
 simp only[view];cases qbX (view H f) cs <;> rfl
@[go_sem] theorem view_tup {f:Nat}{cs:List I}:view H (f+1) (.tup cs)=vTup (qbX (view H f) cs):=by
 simp only[view];cases qbX (view H f) cs <;> rfl
@[go_sem] theorem vTup_s {vc:Prop}{ds:List D}:vTup (some (vc,ds))=some (vc,.tup ds):=rfl
@[go_sem] theorem vSl_s {g k lo n g' k':Nat}{dp:DP}{l:List D}:vSl g k lo n (some (.row g' k' dp l))=some (g=g'∧k=k'∧dp.shut=true,.lst k ((l.drop lo).take n)):=rfl
@[go_sem] theorem vBox_s {f off:Nat}{cs:List I}:vBox H f off (some (.box cs))=vPtr (qdf (view H f) (cs.drop off)):=rfl
@[go_sem] theorem vPtr_s {vc:Prop}{ds:List D}:vPtr (some (vc,ds))=some (vc,.ptr ds):=rfl
@[go_sem] theorem vAgg_s {vc:Prop}{ds:List D}:vAgg (some (vc,ds))=some (vc,.agg ds):=rfl
@[go_sem] theorem vFn_s {vc:Prop}{g:Nat}{ds:List D}:vFn g (some (vc,ds))=some (vc,.fn g ds):=rfl
@[go_sem] theorem vE_s {g k idx off g' k':Nat}{z':D}{dp:DP}{l:List D}:vE g k idx off z' (some (.row g' k' dp l))=some (g=g'∧k=k'∧dp.shut=true∧idx<l.length,.ptr ((qab (l.getD idx z') 0 k).drop off)):=rfl
def endR (Po:I→List R→Prop) (H:List R):Option (Prop×I)→Prop
 | some (vc,r)=>vc∧Po r H
 | none=>False
def resO:Option (Prop×List I)→Option (Prop×I)
 | some (vc,[x])=>some (vc,x)
 | some (vc,l)=>some (vc,.tup l)
 | none=>none
def consT (x:I):Option (Prop×List I)→Option (Prop×List I)
 | some (vc,l)=>some (vc,x::l)
 | none=>none
def consC:Option (Prop×I)→Option (Prop×List I)→Option (Prop×List I)
 | some (c,x),some (vc,l)=>some (c∧vc,x::l)
 | _,_=>none
@[go_sem] theorem qjR {fn:Func}{Po:Fr→I→List R→Prop}:endsWith T fn Po .normal fr H=endR (Po fr) H (resI T H fr fn.results.toList):=by
 simp only[endsWith];cases resI T H fr fn.results.toList <;> rfl
@[go_sem] theorem qnh {fn:Func}{Po:Fr→I→List R→Prop}:endsWith T fn Po .ret fr H=endR (Po fr) H (resI T H fr fn.results.toList):=by
 simp only[endsWith];cases resI T H fr fn.results.toList <;> rfl
@[go_sem] theorem endR_s {Po:I→List R→Prop}{vc:Prop}{r:I}:endR Po H (some (vc,r))=(vc∧Po r H):=rfl
@[go_sem] theorem resI_eq {rs:List ResultVar}:resI T H fr rs=resO (resC T H fr rs):=by
 simp only[resI]
 cases resC T H fr rs with
 | none=>rfl
 | some p=>obtain⟨vc,l⟩:=p;match l with|[]=>rfl|[x]=>rfl|x::y::r=>rfl
@[go_sem] theorem resC_nil:resC T H fr []=some (True,[]):=rfl
@[go_sem] theorem resC_tmp {t:Nat}{r:List ResultVar}:resC T H fr (.tmp t::r)=consT (fr.get t) (resC T H fr r):=by
 simp only[resC]
 cases resC T H fr r <;> rfl
@[go_sem] theorem resC_cell {x t:Nat}{r:List ResultVar}:resC T H fr (.cell x t::r)=consC (qdl T H t (fr.get x)) (resC T H fr r):=by
 simp only[resC]
 cases qdl T H t (fr.get x) with
 | none=>rfl
 | some p=>cases resC T H fr r <;> rfl
@[go_sem] theorem consT_s {x:I}{vc:Prop}{l:List I}:consT x (some (vc,l))=some (vc,x::l):=rfl
@[go_sem] theorem consC_s {x:I}{c vc:Prop}{l:List I}:consC (some (c,x)) (some (vc,l))=some (c∧vc,x::l):=rfl
@[go_sem] theorem resO_one {vc:Prop}{x:I}:resO (some (vc,[x]))=some (vc,x):=rfl
@[go_sem] theorem resO_nil {vc:Prop}:resO (some (vc,[]))=some (vc,.tup []):=rfl
@[go_sem] theorem resO_two {vc:Prop}{x y:I}{r:List I}:resO (some (vc,x::y::r))=some (vc,.tup (x::y::r)):=rfl
@[go_sem] theorem pkR_s {vc:Prop}{x x':D}{ids:List Nat}:pkR x (some (vc,x',ids))=(vc∧ids.Nodup∧wk x' x):=rfl
@[go_sem] theorem vwR_s {vc:Prop}{x x':D}:vwR x (some (vc,x'))=(vc∧wk x' x):=rfl
def pkS (i g k lo m:Nat):Option R→Option (Prop×D×List Nat)
 | some (.row g' k' (.own []) l)=>some (g=g'∧k=k'∧lo=0∧m=l.length,.lst k l,[i])
 | _=>none
@[go_sem] theorem pkS_s {i g k lo m g' k':Nat}{l:List D}:pkS i g k lo m (some (.row g' k' (.own []) l))=some (g=g'∧k=k'∧lo=0∧m=l.length,.lst k l,[i]):=rfl
@[go_sem] theorem pk_d {f:Nat}{x:D}:pk H f (.d x)=some (qe0 x=true,x,[]):=by cases f <;> rfl
@[go_sem] theorem pk_sl {f i g k lo m:Nat}:pk H f (.sl i g k lo m)=pkS i g k lo m (qaj H i):=by
 rw[←qam]
 cases f <;> simp only[pk] <;> (cases H[i]? with
  | none=>rfl
  | some r=>cases r <;> first|rfl|(rename_i dp _;rcases dp with _|hs;rfl;cases hs <;> rfl))
def pkA:Option (Prop×List D×List Nat)→Option (Prop×D×List Nat)
 | some (vc,ds,l)=>some (vc∧ones ds,.agg ds,l)
 | none=>none
def pkT:Option (Prop×List D×List Nat)→Option (Prop×D×List Nat)
 | some (vc,ds,l)=>some (vc,.tup ds,l)
 | none=>none
def pkC:Option (Prop×D×List Nat)→Option (Prop×List D×List Nat)→Option (Prop×List D×List Nat)
 | some (vc,d,l),some (vc',ds,l')=>some (vc∧vc',d::ds,l++l')
 | _,_=>none
@[go_sem] theorem pk_agg {f:Nat}{cs:List I}:pk H (f+1) (.agg cs)=pkA (pkL (pk H f) cs):=by simp only[pk];cases pkL (pk H f) cs <;> rfl
@[go_sem] theorem pk_tup {f:Nat}{cs:List I}:pk H (f+1) (.tup cs)=pkT (pkL (pk H f) cs):=by simp only[pk];cases pkL (pk H f) cs <;> rfl
@[go_sem] theorem pkA_s {vc:Prop}{ds:List D}{l:List Nat}:pkA (some (vc,ds,l))=some (vc∧ones ds,.agg ds,l):=rfl
@[go_sem] theorem pkT_s {vc:Prop}{ds:List D}{l:List Nat}:pkT (some (vc,ds,l))=some (vc,.tup ds,l):=rfl
@[go_sem] theorem pkC_s {vc vc':Prop}{d:D}{ds:List D}{l l':List Nat}:pkC (some (vc,d,l)) (some (vc',ds,l'))=some (vc∧vc',d::ds,l++l'):=rfl
@[go_sem] theorem pkL_nil {f:I→Option (Prop×D×List Nat)}:pkL f []=some (True,[],[]):=rfl
@[go_sem] theorem pkL_cons {f:I→Option (Prop×D×List Nat)}{x:I}{r:List I}:pkL f (x::r)=pkC (f x) (pkL f r):=by
 simp only[pkL]
 cases f x with
 | none=>rfl
 | some p=>obtain⟨vc,d,l⟩:=p;cases pkL f r <;> rfl
@[go_sem] theorem ones_nil:ones []=True:=rfl
@[go_sem] theorem ones_cons {x:D}{r:List D}:ones (x::r)=(x.one=true∧ones r):=rfl
@[go_sem] theorem free3_int {k:IntKind}{n:Int}:qe0 (.int k n)=true:=rfl
@[go_sem] theorem free3_bool {b:Bool}:qe0 (.bool b)=true:=rfl
@[go_sem] theorem free3_nil:qe0 .nil=true:=rfl
@[go_sem] theorem free3_raw {v:Value}:qe0 (.raw v)=true:=rfl
@[go_sem] theorem free3_agg {cs:List D}:qe0 (.agg cs)=cs.all qgf:=rfl
@[go_sem] theorem free3_tup {cs:List D}:qe0 (.tup cs)=cs.all qgg:=rfl
@[go_sem] theorem free1_int {k:IntKind}{n:Int}:qgf (.int k n)=true:=rfl
@[go_sem] theorem free1_bool {b:Bool}:qgf (.bool b)=true:=rfl
@[go_sem] theorem free1_nil:qgf .nil=true:=rfl
@[go_sem] theorem free2_int {k:IntKind}{n:Int}:qgg (.int k n)=true:=rfl
@[go_sem] theorem free2_bool {b:Bool}:qgg (.bool b)=true:=rfl
@[go_sem] theorem free2_nil:qgg .nil=true:=rfl
@[go_sem] theorem free2_agg {cs:List D}:qgg (.agg cs)=cs.all qgf:=rfl
@[go_sem] theorem wk_int {k:IntKind}{n:Int}{y:D}:wk (.int k n) y=(D.int k n=y):=by cases y <;> rfl
@[go_sem] theorem wk_bool {b:Bool}{y:D}:wk (.bool b) y=(D.bool b=y):=by cases y <;> rfl
@[go_sem] theorem wk_lst {k:Nat}{l:List D}{y:D}:wk (.lst k l) y=(D.lst k l=y):=by cases y <;> rfl
@[go_sem] theorem wk_nil {k:Nat}{l:List D}:wk .nil (.lst k l)=(0<k∧l=[]):=rfl
@[go_sem] theorem wk_agg {xs ys:List D}:wk (.agg xs) (.agg ys)=wkL xs ys:=rfl
@[go_sem] theorem wk_tup {xs ys:List D}:wk (.tup xs) (.tup ys)=wkT xs ys:=rfl
@[go_sem] theorem wkL_nil:wkL [] []=True:=rfl
@[go_sem] theorem wkL_cons {x y:D}{xs ys:List D}:wkL (x::xs) (y::ys)=(wk1 x y∧wkL xs ys):=rfl
@[go_sem] theorem wkT_nil:wkT [] []=True:=rfl
@[go_sem] theorem wkT_cons {x y:D}{xs ys:List D}:wkT (x::xs) (y::ys)=(wk2 x y∧wkT xs ys):=rfl
@[go_sem] theorem wk1_int {k:IntKind}{n:Int}{y:D}:wk1 (.int k n) y=(D.int k n=y):=by cases y <;> rfl
@[go_sem] theorem wk1_bool {b:Bool}{y:D}:wk1 (.bool b) y=(D.bool b=y):=by cases y <;> rfl
@[go_sem] theorem wk1_lst {k:Nat}{l:List D}{y:D}:wk1 (.lst k l) y=(D.lst k l=y):=by cases y <;> rfl
@[go_sem] theorem wk1_nil {k:Nat}{l:List D}:wk1 .nil (.lst k l)=(0<k∧l=[]):=rfl
@[go_sem] theorem wk1_nil':wk1 .nil .nil=True:=by simp[wk1]
@[go_sem] theorem wk2_int {k:IntKind}{n:Int}{y:D}:wk2 (.int k n) y=(D.int k n=y):=by cases y <;> rfl
@[go_sem] theorem wk2_bool {b:Bool}{y:D}:wk2 (.bool b) y=(D.bool b=y):=by cases y <;> rfl
@[go_sem] theorem wk2_lst {k:Nat}{l:List D}{y:D}:wk2 (.lst k l) y=(D.lst k l=y):=by cases y <;> rfl
@[go_sem] theorem wk2_nil {k:Nat}{l:List D}:wk2 .nil (.lst k l)=(0<k∧l=[]):=rfl
@[go_sem] theorem wk2_agg {xs ys:List D}:wk2 (.agg xs) (.agg ys)=wkL xs ys:=rfl
theorem pure_of {E : Env} (hT : TOK E.P E.T) (hn : E.n = 0) {f : Nat} {fn : Func} {c : Code} {nt : Nat} {ds : List D} {x : D} (fuel : Nat) (hf : E.P.funcs[f]? = some fn) (hb : fn.body = some c) (hnm : (fn.name == "runtime.NumGoroutine") = false) (hnt : fn.ntmps = nt) (hl : ds.length ≤ nt)
  (h:qaB E fuel c [] (endsWith E.T fn (fun fr r H'=>pkR x (pk H' 3 r))) ⟨nt,qcv 0 (ds.map .d)⟩ []):Pure E.P f ds x:=by
 subst hnt
 refine qfJ hT hf hb hnm hl ?_
 have:=qc9 hT fuel h
 rw[hn] at this
 exact this
theorem ql0 {E : Env} (hT : TOK E.P E.T) (hn : E.n = 0) {f : Nat} {fn : Func} {c : Code} {nt : Nat} {ds : List D} {x : D} (fuel : Nat) (hf : E.P.funcs[f]? = some fn) (hb : fn.body = some c) (hnm : (fn.name == "runtime.NumGoroutine") = false) (hnt : fn.ntmps = nt) (hl : ds.length ≤ nt)
  (h:qaB E fuel c [] (endsWith E.T fn (fun fr r H'=>vwR x (view H' 3 r))) ⟨nt,qcv 0 (ds.map .d)⟩ []):PureF E.P f ds x:=by
 subst hnt
 refine qhr hT hf hb hnm hl ?_
 have:=qc9 hT fuel h
 rw[hn] at this
 exact this
theorem qad {f:Nat}{ds:List D}{k:I→List R→Prop}{x:D}(h:Pure E.P f ds x) (hk:k (.d x) H):qjq E f ds H k:=⟨_,h.toE,fun y hy=>by rw[hy];exact .inl hk⟩
theorem qgj {f:Nat}{ds:List D}{k:I→List R→Prop}{x:D}(h:PureF E.P f ds x) (hk:k (.d x) H):qjr E f ds H k:=⟨_,h.toE,fun y hy=>by rw[hy];exact hk⟩
theorem qbM {e:Bool}{f:Nat}{ds:List D}{k:I→Prop}{x:D}(h:e=true→Pure E.P f ds x) (hk:k (.cond e (.d x))):qlh E e f ds k:=⟨x,h,hk⟩
end Go.VL
namespace Go.VL
variable {E:Env}{Q:Post}{fr:Fr}{H:List R}{n:Nat}
variable {S:Nat→Prop}{φ : List (List Nat)}{w:World}
def qaZ:Nat→List R→List R
 | _,[]=>[]
 | 0,H=>H
 | n+1,r::H=>.dead r.gen::qaZ n H
@[go_sem] theorem killH_zero {H:List R}:qaZ 0 H=H:=by cases H <;> rfl
@[go_sem] theorem killH_nil {n:Nat}:qaZ n []=[]:=by cases n <;> rfl
@[go_sem] theorem killH_succ {n:Nat}{r:R}{H:List R}:qaZ (n+1) (r::H)=.dead r.gen::qaZ n H:=rfl
@[go_sem] theorem gen_box {cs:List I}:(R.box cs).gen=0:=rfl
@[go_sem] theorem gen_row {g k:Nat}{dp:DP}{l:List D}:(R.row g k dp l).gen=g:=rfl
@[go_sem] theorem gen_map {es:List (D×D)}:(R.map es).gen=0:=rfl
@[go_sem] theorem gen_dead {g:Nat}:(R.dead g).gen=g:=rfl
theorem qbC : ∀ (n:Nat) (H:List R),(qaZ n H).length=H.length
 | 0,H=>by simp[go_sem]
 | n+1,[]=>rfl
 | n+1,r::H=>by simp[qaZ,qbC n H]
theorem qgk : ∀ (n:Nat) (H:List R) (i:Nat),i<n→i<H.length→∃ g,(qaZ n H)[i]?=some (.dead g)∧g=(H.getD i (.dead 0)).gen
 | 0,H,i,h,_=>by omega
 | n+1,[],i,_,h=>by simp at h
 | n+1,r::H,0,_,_=>⟨_,rfl,rfl⟩
 | n+1,r::H,i+1,h1,h2=>by simpa [qaZ] using qgk n H i (by omega) (by simpa using h2)
theorem qgl : ∀ (n:Nat) (H:List R) (i:Nat),n≤i→(qaZ n H)[i]?=H[i]?
 | 0,H,i,_=>by simp[go_sem]
 | n+1,[],i,_=>rfl
 | n+1,r::H,0,h=>by omega
 | n+1,r::H,i+1,h=>by simpa [qaZ] using qgl n H i (by omega)
def qbT (n:Nat) (φ : List (List Nat)):List (List Nat):=(List.range φ.length).map fun i=>if i<n then [] else φ.getD i []
theorem qa6 (n:Nat) (φ : List (List Nat)) (i:Nat):(qbT n φ).getD i []=if i<n then [] else φ.getD i []:=by
 simp only[qbT,List.getD,List.getElem?_map]
 by_cases h:i < φ.length
 ·simp[h]
 ·simp[h]
theorem Sim.kill (s:Sim S φ H w) (n:Nat):Sim S (qbT n φ) (qaZ n H) w∧Tr H.length S φ H w S (qbT n φ) (qaZ n H) w:=by
 have hfoot : ∀ b,Foot (qbT n φ) b→Foot φ b:=by
  rintro b ⟨i,hi⟩
  rw[qa6] at hi
  split at hi
  ·simp at hi
  ·exact⟨i,hi⟩
 have hsome : ∀ i r,(qaZ n H)[i]?=some r→(∃ g,r=.dead g)∨n≤i∧H[i]?=some r:=by
  intro i r hr
  by_cases h:i<n
  ·have hl:=(List.getElem?_eq_some_iff.1 hr).1
   rw[qbC] at hl
   obtain⟨g,hg,_⟩:=qgk n H i h hl
   rw[hg] at hr
   simp at hr
   exact .inl ⟨g,hr.symm⟩
  ·rw[qgl n H i (by omega)] at hr
   exact .inr ⟨by omega,hr⟩
 have htr:Tr H.length S φ H w S (qbT n φ) (qaZ n H) w:=by
  refine⟨fun _ h=>h,fun _ _=>rfl,Nat.le_refl _,by rw[qbC];exact Nat.le_refl _,?_,?_,?_,?_,?_⟩
  ·intro i hi
   by_cases h:i<n
   ·obtain⟨g,hg,e⟩:=qgk n H i h hi
    have:(qaZ n H).getD i (.dead 0)=.dead g:=by simp[List.getD,hg]
    rw[this,e]
    exact Nat.le_refl _
   ·have:(qaZ n H).getD i (.dead 0)=H.getD i (.dead 0):=by simp only[List.getD,qgl n H i (by omega)]
    rw[this]
    exact Nat.le_refl _
  ·intro i g k dp' l' hi hl'
   rcases hsome i _ hl' with⟨_,h⟩|⟨h,h2⟩
   ·cases h
   ·exact .inr ⟨dp',l',h2,by rw[qa6,if_neg (by omega)],Nat.le_refl _,fun b rest arr ty e1 e2=>⟨arr,ty,e2,Nat.le_refl _⟩⟩
  ·intro i cs hi hl'
   rcases hsome i _ hl' with⟨_,h⟩|⟨h,h2⟩
   ·cases h
   ·exact⟨cs,h2,by rw[qa6,if_neg (by omega)]⟩
  ·intro i cs hi hl'
   rcases hsome i _ hl' with⟨_,h⟩|⟨h,h2⟩
   ·cases h
   ·exact⟨cs,h2,by rw[qa6,if_neg (by omega)]⟩
  ·intro i x hi hl'
   rcases hsome i _ hl' with⟨_,h⟩|⟨h,h2⟩
   ·cases h
   ·exact⟨h2,by rw[qa6,if_neg (by omega)],fun _ _=>rfl⟩
 refine⟨⟨?_,?_,?_,fun b hb=>s.lt b (hfoot b hb),fun b hb=>s.off b (hfoot b hb),s.slt,?_⟩,htr⟩
 ·simp[qbT,qbC,s.len]
 ·intro i
  rw[qa6]
  split
  ·simp
  ·exact s.nd i
 ·intro i j b hb hb'
  rw[qa6] at hb hb'
  split at hb
  ·simp at hb
  ·split at hb'
   ·simp at hb'
   ·exact s.dj i j b hb hb'
 ·intro i r hr
  rcases hsome i r hr with⟨g,rfl⟩|⟨h,h2⟩
  ·trivial
  ·rw[qa6,if_neg (by omega)]
   exact(s.rel i r h2).tr htr fun _ _=>rfl
theorem qfd (s:Sim S φ H w) {n:Nat}(hn:n≤H.length) (hH:qbL n (H.take n)) :
  Sim (fun b=>S b∨Foot (qbT n φ) b) (φ.take n) (H.take n) w∧Tr n S φ H w (fun b=>S b∨Foot (qbT n φ) b) (φ.take n) (H.take n) w∧Ext S φ w (fun b=>S b∨Foot (qbT n φ) b) (φ.take n) w:=by
 obtain⟨S1,φ1,s1,hf1,he1,ht1⟩:=Ghost.drop (n:=n) n (fr:=⟨0,[]⟩) (H:=H) (Nat.le_refl _) hn trivial hH S φ w { tmps:=#[],defers:=[] } hn s ⟨rfl,rfl,fun t=>.junk⟩
 have hget : ∀ i,(φ.take n).getD i []=if i<n then φ.getD i [] else []:=by
  intro i
  by_cases h:i<n
  ·rw[if_pos h,getD_take _ _ _ _ h]
  ·rw[if_neg h]
   simp[List.getD,List.getElem?_take,h]
 have hfoot : ∀ b,Foot (φ.take n) b→Foot φ b∧¬ Foot (qbT n φ) b:=by
  rintro b ⟨i,hi⟩
  rw[hget] at hi
  split at hi
  ·refine⟨⟨i,hi⟩,?_⟩
   rintro⟨j,hj⟩
   rw[qa6] at hj
   split at hj
   ·simp at hj
   ·have:=s.dj i j b hi hj
    omega
  ·simp at hi
 have hkill : ∀ b,Foot (qbT n φ) b→Foot φ b:=by
  rintro b ⟨i,hi⟩
  rw[qa6] at hi
  split at hi
  ·simp at hi
  ·exact⟨i,hi⟩
 have hsub:Tr n S φ H w (fun b=>S b∨Foot (qbT n φ) b) (φ.take n) (H.take n) w:=by
  refine⟨fun _ h=>.inl h,fun _ _=>rfl,hn,by simp;omega,fun i hi=>by rw[getD_take _ _ _ _ hi];exact Nat.le_refl _,?_,?_,?_,?_⟩
  ·intro i g k dp' l' hi hl'
   rw[qaD _ _ _ hi] at hl'
   exact .inr ⟨dp',l',hl',by rw[getD_take _ _ _ _ hi],Nat.le_refl _,fun b rest arr ty e1 e2=>⟨arr,ty,e2,Nat.le_refl _⟩⟩
  ·intro i cs hi hl'
   rw[qaD _ _ _ hi] at hl'
   exact⟨cs,hl',getD_take _ _ _ _ hi⟩
  ·intro i cs hi hl'
   rw[qaD _ _ _ hi] at hl'
   exact⟨cs,hl',getD_take _ _ _ _ hi⟩
  ·intro i x hi hl'
   rw[qaD _ _ _ hi] at hl'
   exact⟨hl',getD_take _ _ _ _ hi,fun _ _=>rfl⟩
 refine⟨⟨by simp[s.len],?_,?_,fun b hb=>s.lt b (hfoot b hb).1,?_,?_,?_⟩,hsub,⟨rfl,rfl,rfl,Nat.le_refl _,fun _ _ _=>rfl,fun b hb=>.inl (hfoot b hb).1,fun _ h=>.inl h,?_⟩⟩
 ·intro i
  rw[hget]
  split
  ·exact s.nd i
  ·simp
 ·intro i j b hb hb'
  rw[hget] at hb hb'
  split at hb
  ·split at hb'
   ·exact s.dj i j b hb hb'
   ·simp at hb'
  ·simp at hb
 ·intro b hb h
  rcases h with h|h
  ·exact s.off b (hfoot b hb).1 h
  ·exact(hfoot b hb).2 h
 ·intro b h
  rcases h with h|h
  ·exact s.slt b h
  ·exact s.lt b (hkill b h)
 ·intro i r hr
  have hlt:i<n:=by
   have:=(List.getElem?_eq_some_iff.1 hr).1
   simp at this
   omega
  rw[hget,if_pos hlt]
  have hb:=qcU hH i r hr
  rw[qaD _ _ _ hlt] at hr
  have h1:=(s.rel i r hr).take hn s.len hb
  have htr2:Tr (H.take n).length S (φ.take n) (H.take n) w (fun b=>S b∨Foot (qbT n φ) b) (φ.take n) (H.take n) w:=by
   refine⟨fun _ h=>.inl h,fun _ _=>rfl,Nat.le_refl _,Nat.le_refl _,fun _ _=>Nat.le_refl _,fun i g k dp' l' hi hl=>.inr ⟨dp',l',hl,rfl,Nat.le_refl _,fun b rest arr ty e1 e2=>⟨arr,ty,e2,Nat.le_refl _⟩⟩,
    fun i cs hi h=>⟨cs,h,rfl⟩,fun i es hi h=>⟨es,h,rfl⟩,fun i x hi h=>⟨h,rfl,fun _ _=>rfl⟩⟩
  exact h1.tr htr2 fun _ _=>rfl
 ·intro b h
  rcases h with h|h
  ·exact .inl h
  ·exact .inr (.inl (hkill b h))
def fit1 (K:List R) (x y:I):Prop:=
 match y with
 | .d b=>(match x with
  | .d a=>wk a b
  | _=>(match view K 3 x with|some (vc,a)=>vc∧wk a b|none=>False))
 | _=>x=y
def fitF (K:List R) (fr:Fr):List (Nat×I)→Prop
 | []=>True
 | (t,x)::r=>fit1 K (fr.get t) x∧fitF K fr r
def fitR:R→R→Prop
 | .row g k (.own []) l,.row g' k' .fz l'=>g=g'∧k=k'∧l=l'∧scalars l=true
 | x,y=>x=y
def fitH:List R→List R→Prop
 | _,[]=>True
 | x::r,y::s=>fitR x y∧fitH r s
 | [],_::_=>False
def fit (n nt:Nat) (fr:Fr) (H:List R) (m:List (Nat×I)) (H':List R):Prop:=
 fr.n=nt∧n≤H'.length∧fitF (qaZ H'.length H) fr m∧fitH H H'∧qeZ H'.length m∧qbL H'.length H'
theorem qbf {x y:R}(h:fitR x y):x=y∨∃ g k l,x=.row g k (.own []) l∧y=.row g k .fz l∧scalars l=true:=by
 unfold fitR at h
 split at h
 ·obtain⟨rfl,rfl,rfl,h⟩:=h
  exact .inr ⟨_,_,_,rfl,rfl,h⟩
 ·exact .inl h
theorem qh1 : ∀ {H H':List R},fitH H H'→H'.length≤H.length∧∀ (i:Nat) (y:R),H'[i]?=some y→∃ x:R,H[i]?=some x∧fitR x y
 | H,[],_=>by simp
 | x::r,y::s,h=>by
  obtain⟨h1,h2⟩:=qh1 h.2
  refine⟨by simp;omega,fun i z hz=>?_⟩
  cases i with
  | zero=>simp at hz;subst hz;exact⟨x,rfl,h.1⟩
  | succ i=>simpa using h2 i z (by simpa using hz)
 | [],_::_,h=>h.elim
theorem qdB : ∀ {l:List D},scalars l=true→∀ c∈flat l,c.scalar=true
 | [],_,c,hc=>by simp[flat] at hc
 | x::r,h,c,hc=>by
  simp only[scalars,Bool.and_eq_true,List.all_eq_true] at h
  simp only[flat,List.flatMap_cons,List.mem_append] at hc
  rcases hc with hc|hc
  ·exact h.1 c hc
  ·exact qdB h.2 c (by simpa [flat] using hc)
theorem qjS {w:World}{x:D}{v:Value}{fp:List Nat}(h:OW w x v fp) (hx:x.scalar=true):fp=[]:=by
 cases h <;> simp[D.scalar] at hx <;> rfl
theorem Sim.fitR (s:Sim S φ H w) {H':List R}(hl:H'.length=H.length) (h : ∀ (i:Nat) (y:R),H'[i]?=some y→∃ x:R,H[i]?=some x∧fitR x y):Sim S φ H' w∧Tr H.length S φ H w S φ H' w:=by
 have htr:Tr H.length S φ H w S φ H' w:=by
  refine⟨fun _ h=>h,fun _ _=>rfl,Nat.le_refl _,by omega,?_,?_,?_,?_,?_⟩
  ·intro i hi
   obtain⟨x,hx,hxy⟩:=h i (H'.getD i (.dead 0)) (by simp[List.getD,show i<H'.length by omega])
   have e:H.getD i (.dead 0)=x:=by simp[List.getD,hx]
   rw[e]
   rcases qbf hxy with h1|⟨g,k,l,h1,h2,_⟩
   ·rw[h1];exact Nat.le_refl _
   ·rw[h1,h2];exact Nat.le_refl _
  ·intro i g k dp' l' hi hl'
   obtain⟨x,hx,hxy⟩:=h i _ hl'
   rcases qbf hxy with rfl|⟨g,k,l,rfl,h2,_⟩
   ·exact .inr ⟨dp',l',hx,rfl,Nat.le_refl _,fun b rest arr ty e1 e2=>⟨arr,ty,e2,Nat.le_refl _⟩⟩
   ·cases h2
    exact .inr ⟨true,_,hx,rfl,Nat.le_refl _,fun b rest arr ty e1 e2=>⟨arr,ty,e2,Nat.le_refl _⟩⟩
  ·intro i cs hi hl'
   obtain⟨x,hx,hxy⟩:=h i _ hl'
   rcases qbf hxy with rfl|⟨g,k,l,rfl,h2,_⟩
   ·exact⟨cs,hx,rfl⟩
   ·cases h2
  ·intro i cs hi hl'
   obtain⟨x,hx,hxy⟩:=h i _ hl'
   rcases qbf hxy with rfl|⟨g,k,l,rfl,h2,_⟩
   ·exact⟨cs,hx,rfl⟩
   ·cases h2
  ·intro i z hi hl'
   obtain⟨x,hx,hxy⟩:=h i _ hl'
   rcases qbf hxy with rfl|⟨g,k,l,rfl,h2,_⟩
   ·exact⟨hx,rfl,fun _ _=>rfl⟩
   ·cases h2
 refine⟨⟨by rw[s.len,hl],s.nd,s.dj,s.lt,s.off,s.slt,fun i y hy=>?_⟩,htr⟩
 obtain⟨x,hx,hxy⟩:=h i y hy
 rcases qbf hxy with rfl|⟨g,k,l,rfl,rfl,hsc⟩
 ·exact(s.rel i _ hx).tr htr fun _ _=>rfl
 ·obtain⟨h1,h2,h3,h4,h5⟩:=s.rel i _ hx
  refine⟨h1,h2,h3,h4,?_⟩
  rcases h5 with h5|⟨b,rest,arr,ty,e1,e2,e3,F,hF,_,hr⟩
  ·exact .inl h5
  ·have hall:=qdB hsc
   have hz : ∀ j,j<(flat l).length→F j=[]:=fun j hj=>qjS (hr j hj) (hall _ (getD_mem hj))
   refine .inr ⟨b,rest,arr,ty,e1,e2,e3,?_,fun j hj=>qeI (hr j hj) (hall _ (getD_mem hj)) S⟩
   rw[hF]
   refine List.flatMap_eq_nil_iff.2 fun j hj=>hz j (List.mem_range.1 hj)
theorem qni {m:Nat}(s:Sim S φ H w) (hm:m≤H.length) {x y:I}{v:Value}(h:fit1 (qaZ m H) x y) (hy:y.idlt m) (hv:V S φ H w x v) :
  V (fun b=>S b∨Foot (qbT m φ) b) (φ.take m) (H.take m) w y v:=by
 have stay : ∀ {y:I},V S φ H w y v→y.idlt m→V (fun b=>S b∨Foot (qbT m φ) b) (φ.take m) (H.take m) w y v:=by
  intro y hv hy
  refine(hv.take hm s.len hy).tr ?_
  exact⟨fun _ h=>.inl h,fun _ _=>rfl,Nat.le_refl _,Nat.le_refl _,fun _ _=>Nat.le_refl _,fun i g k dp' l' hi hl=>.inr ⟨dp',l',hl,rfl,Nat.le_refl _,fun b rest arr ty e1 e2=>⟨arr,ty,e2,Nat.le_refl _⟩⟩,
    fun i cs hi h=>⟨cs,h,rfl⟩,fun i es hi h=>⟨es,h,rfl⟩,fun i x hi h=>⟨h,rfl,fun _ _=>rfl⟩⟩
 unfold fit1 at h
 split at h
 ·rename_i b
  split at h
  ·rename_i a
   exact .d (fz_wk h (hv.fz.mono (fun b hb=>.inl hb) fun _ _=>rfl))
  ·split at h
   ·rename_i vc a hvw
    obtain⟨s1,t1⟩:=s.kill m
    exact .d (fz_wk h.2 (qbQ s1 3 (hv.tr t1) hvw h.1))
   ·exact h.elim
 ·rw[h] at hv
  exact stay hv hy
theorem qfe {m:Nat}(s:Sim S φ H w) (hm:m≤H.length) {fr:Fr}{a:Act}(hf:FrR S φ H w fr a) : ∀ (l:List (Nat×I)),fitF (qaZ m H) fr l→qeZ m l→∀ t,V (fun b=>S b∨Foot (qbT m φ) b) (φ.take m) (H.take m) w (look t l) (a.tmps.getD t undef)
 | [],_,_,t=>.junk
 | (u,x)::r,h,hi,t=>by
  simp only[look]
  split
  ·rename_i hst
   subst hst
   exact qni s hm h.1 hi.1 (hf.val u)
  ·exact qfe s hm hf r h.2 hi.2 t
theorem qhx {H H':List R}(h : ∀ (i:Nat) (y:R),H'[i]?=some y→∃ x:R,H[i]?=some x∧Go.VL.fitR x y) : ∀ (i:Nat) (y:R),H'[i]?=some y→∃ x:R,(H.take H'.length)[i]?=some x∧Go.VL.fitR x y:=by
 intro i y hy
 obtain⟨x,hx,hxy⟩:=h i y hy
 exact⟨x,by rw[qaD _ _ _ (List.getElem?_eq_some_iff.1 hy).1];exact hx,hxy⟩
theorem qhy {H':List R}(m:Nat) : ∀ {K:List R},K.length=H'.length→(∀ (i:Nat) (y:R),H'[i]?=some y→∃ x:R,K[i]?=some x∧Go.VL.fitR x y)→qbL m H'→qbL m K:=by
 intro K
 induction K generalizing H' with
 | nil=>intro _ _ _;trivial
 | cons x r ih=>
  intro hl h hi
  cases H' with
  | nil=>simp at hl
  | cons y s=>
   obtain⟨x',hx,hxy⟩:=h 0 y rfl
   simp at hx
   subst hx
   refine⟨?_,ih (by simpa using hl) (fun i z hz=>by simpa using h (i+1) z (by simpa using hz)) hi.2⟩
   rcases qbf hxy with rfl|⟨g,k,l,rfl,rfl,_⟩
   ·exact hi.1
   ·trivial
theorem qdT {nt:Nat}{m:List (Nat×I)}{H':List R}(h:fit n nt fr H m H'):Ghost n fr H ⟨nt,m⟩ H':=by
 obtain⟨h1,h2,h3,h4,h5,h6⟩:=h
 obtain⟨e2,e1⟩:=qh1 h4
 have hl:(H.take H'.length).length=H'.length:=by simp;omega
 have e3:=qhx e1
 intro S φ w a hn s hf
 obtain⟨s2,t2,x2⟩:=qfd s e2 (qhy _ hl e3 h6)
 obtain⟨s3,t3⟩:=s2.fitR hl.symm e3
 rw[hl] at t3
 refine⟨_,_,s3,⟨hf.defers,hf.size.trans h1,fun t=>?_⟩,x2,(t2.trans t3).weaken h2⟩
 have:=qfe s e2 hf m h3 h5 t
 exact this.tr (by rw[hl];exact t3)
def qcF:List (Nat×Nat×Bool)→Fr→List R→Fr×List R
 | [],fr,H=>(fr,H)
 | (t,k,dp)::r,fr,H=>qcF r (fr.put (some t) (.sl H.length 0 k 0 0)) (H ++ [.row 0 k dp []])
def qg1:List (Nat×Nat×Bool)→Fr→List R→Prop
 | [],_,_=>True
 | (t,k,dp)::r,fr,H=>fr.get t=.d .nil∧t<fr.n∧0<k∧qg1 r (fr.put (some t) (.sl H.length 0 k 0 0)) (H ++ [.row 0 k dp []])
theorem qb3 : ∀ (l:List (Nat×Nat×Bool)) {fr:Fr}{H:List R},qg1 l fr H→Ghost n fr H (qcF l fr H).1 (qcF l fr H).2
 | [],fr,H,_=>Ghost.refl n fr H
 | (t,k,dp)::r,fr,H,h=>(Ghost.own t k dp h.1 h.2.1 h.2.2.1).trans (qb3 r h.2.2.2)
def qiD (E:Env) (ks:List Item) (Q:Post) (f:Nat) {σ : Type}(nt:Nat) (F : σ→List (Nat×I)) (Hp : σ→List R) (inv : σ→Prop) (mu : σ→Nat) (s : σ):Post
 | .normal,fr,H=>∃ s',inv s'∧mu s'<mu s∧fit E.n nt fr H (F s') (Hp s')
 | .exit id,fr,H=>qbS E f (exK id ks) id ks Q fr H
 | e,fr,H=>qaQ E ks Q e fr H
theorem qbb (hT:TOK E.P E.T) {σ : Type}(F : σ→List (Nat×I)) (Hp : σ→List R) (inv : σ→Prop) (mu : σ→Nat) (own:List (Nat×Nat×Bool)) (f1 f2:Nat) {ks:List Item}{c:Code}
  (hvc:qg1 own fr H) (h0 : ∃ s,inv s∧fit E.n fr.n (qcF own fr H).1 (qcF own fr H).2 (F s) (Hp s))
  (hr : ∀ s,inv s→qaB E f1 c [] (qiD E ks Q f2 fr.n F Hp inv mu s) ⟨fr.n,F s⟩ (Hp s)):iwp E.P E.n (.loop c) (qaQ E ks Q) fr H:=by
 obtain⟨s0,hi0,hf0⟩:=h0
 refine qgT (fun m fr' H'=>∃ s,inv s∧mu s=m∧fr'=⟨fr.n,F s⟩∧H'=Hp s) (mu s0) ⟨_,_,(qb3 own hvc).trans (qdT hf0),s0,hi0,rfl,rfl,rfl⟩ ?_
 rintro m fr' H' ⟨s,hi,rfl,rfl,rfl⟩
 refine qf1 (qc9 hT f1 (hr s hi)) ?_
 intro e fr' H' hq
 cases e with
 | normal=>
  obtain⟨s',hi',hmu,hfit⟩:=hq
  exact⟨_,_,qdT hfit,mu s',hmu,s',hi',rfl,rfl,rfl⟩
 | exit id=>
  simp only[qiD] at hq
  refine qcf id ks ?_
  generalize exK id ks=o at hq
  match f2,o with
  | 0,_=>simp only[qbS] at hq
  | f+1,some ks'=>
   simp only[qbS] at hq
   exact qeD hT f hq
  | f+1,none=>
   simp only[qbS] at hq
   exact hq
 | goto l=>exact hq
 | ret=>exact hq
 | panic ch=>exact hq
 | outgrown=>exact hq
section rules
variable {σ : Type}{F : σ→List (Nat×I)}{Hp : σ→List R}{inv : σ→Prop}{mu : σ→Nat}{s : σ}{ks:List Item}{f nt:Nat}
@[go_sem] theorem qnj:qiD E ks Q f nt F Hp inv mu s .normal fr H = ∃ s',inv s'∧mu s'<mu s∧fit E.n nt fr H (F s') (Hp s'):=rfl
@[go_sem] theorem loopQ_exit {id:Nat}:qiD E ks Q f nt F Hp inv mu s (.exit id) fr H=qbS E f (exK id ks) id ks Q fr H:=rfl
@[go_sem] theorem loopQ_ret:qiD E ks Q f nt F Hp inv mu s .ret fr H=qaQ E ks Q .ret fr H:=rfl
@[go_sem] theorem fit_eq {m:List (Nat×I)}{H':List R}:fit n nt fr H m H'=(fr.n=nt∧n≤H'.length∧fitF (qaZ H'.length H) fr m∧fitH H H'∧qeZ H'.length m∧qbL H'.length H'):=rfl
@[go_sem] theorem fitF_nil {K:List R}:fitF K fr []=True:=rfl
@[go_sem] theorem fitF_cons {K:List R}{t:Nat}{x:I}{r:List (Nat×I)}:fitF K fr ((t,x)::r)=(fit1 K (fr.get t) x∧fitF K fr r):=rfl
def frz1 (b:D):Option (Prop×D)→Prop
 | some (vc,a)=>vc∧wk a b
 | none=>False
@[go_sem] theorem frz1_s {b a:D}{vc:Prop}:frz1 b (some (vc,a))=(vc∧wk a b):=rfl
def fitS (K:List R) (x:I):I→Prop
 | .d b=>frz1 b (view K 3 x)
 | y=>x=y
@[go_sem] theorem fitS_d {K:List R}{x:I}{b:D}:fitS K x (.d b)=frz1 b (view K 3 x):=rfl
@[go_sem] theorem fitS_sl {K:List R}{x:I}{i g k lo n:Nat}:fitS K x (.sl i g k lo n)=(x=.sl i g k lo n):=rfl
@[go_sem] theorem fitS_ptr {K:List R}{x:I}{i o:Nat}:fitS K x (.ptr i o)=(x=.ptr i o):=rfl
@[go_sem] theorem fitS_agg {K:List R}{x:I}{cs:List I}:fitS K x (.agg cs)=(x=.agg cs):=rfl
@[go_sem] theorem fitS_tup {K:List R}{x:I}{cs:List I}:fitS K x (.tup cs)=(x=.tup cs):=rfl
@[go_sem] theorem fitS_map {K:List R}{x:I}{i:Nat}:fitS K x (.map i)=(x=.map i):=rfl
@[go_sem] theorem fitS_fn {K:List R}{x:I}{f:Nat}{cs:List I}:fitS K x (.fn f cs)=(x=.fn f cs):=rfl
theorem qg2 {K:List R}{x y:I}(hx : ∀ a,x≠.d a):fit1 K x y=fitS K x y:=by
 cases y <;> simp only[fit1,fitS,frz1]
@[go_sem] theorem fit1_d {K:List R}{x y:D}:fit1 K (.d x) (.d y)=wk x y:=rfl
@[go_sem] theorem fit1_sl {K:List R}{i g k lo n:Nat}{y:I}:fit1 K (.sl i g k lo n) y=fitS K (.sl i g k lo n) y:=qg2 nofun
@[go_sem] theorem fit1_ptr {K:List R}{i off:Nat}{y:I}:fit1 K (.ptr i off) y=fitS K (.ptr i off) y:=qg2 nofun
@[go_sem] theorem fit1_agg {K:List R}{cs:List I}{y:I}:fit1 K (.agg cs) y=fitS K (.agg cs) y:=qg2 nofun
@[go_sem] theorem fitH_nil:fitH H []=True:=by cases H <;> rfl
@[go_sem] theorem fitH_cons {x y:R}{r q:List R}:fitH (x::r) (y::q)=(fitR x y∧fitH r q):=rfl
@[go_sem] theorem fitR_row {g k g' k':Nat}{dp:DP}{l l':List D}:fitR (.row g k dp l) (.row g' k' dp l')=(g=g'∧k=k'∧l=l'):=by cases dp <;> simp[fitR]
@[go_sem] theorem fitR_tf {g k g' k':Nat}{l l':List D}:fitR (.row g k (.own []) l) (.row g' k' .fz l')=(g=g'∧k=k'∧l=l'∧scalars l=true):=rfl
@[go_sem] theorem fitR_box {cs:List I}{y:R}:fitR (.box cs) y=(.box cs=y):=by cases y <;> rfl
@[go_sem] theorem fitR_map {es:List (D×D)}{y:R}:fitR (.map es) y=(.map es=y):=by cases y <;> rfl
@[go_sem] theorem fitR_dead {g:Nat}{y:R}:fitR (.dead g) y=(.dead g=y):=by cases y <;> rfl
@[go_sem] theorem idltM_nil {m:Nat}:qeZ m []=True:=rfl
@[go_sem] theorem idltM_cons {m t:Nat}{x:I}{r:List (Nat×I)}:qeZ m ((t,x)::r)=(x.idlt m∧qeZ m r):=rfl
@[go_sem] theorem idltH_nil {m:Nat}:qbL m []=True:=rfl
@[go_sem] theorem idltH_cons {m:Nat}{x:R}{r:List R}:qbL m (x::r)=(x.idlt m∧qbL m r):=rfl
@[go_sem] theorem idltL_nil {m:Nat}:qdw m []=True:=rfl
@[go_sem] theorem idltL_cons {m:Nat}{x:I}{r:List I}:qdw m (x::r)=(x.idlt m∧qdw m r):=rfl
@[go_sem] theorem idlt_d {m:Nat}{x:D}:(I.d x).idlt m=True:=by simp only[I.idlt]
@[go_sem] theorem idlt_sl {m i g k lo n:Nat}:(I.sl i g k lo n).idlt m=(i<m):=by simp only[I.idlt]
@[go_sem] theorem idlt_ptr {m i off:Nat}:(I.ptr i off).idlt m=(i<m):=by simp only[I.idlt]
@[go_sem] theorem idlt_eptr {m i g k idx off:Nat}{z:D}:(I.eptr i g k idx off z).idlt m=(i<m):=by simp only[I.idlt]
@[go_sem] theorem idlt_agg {m:Nat}{cs:List I}:(I.agg cs).idlt m=qdw m cs:=by simp only[I.idlt]
@[go_sem] theorem idlt_map {m i:Nat}:(I.map i).idlt m=(i<m):=by simp only[I.idlt]
@[go_sem] theorem idlt_fn {m f:Nat}{cs:List I}:(I.fn f cs).idlt m=qdw m cs:=by simp only[I.idlt]
@[go_sem] theorem idltR_box {m:Nat}{cs:List I}:(R.box cs).idlt m=qdw m cs:=by simp only[R.idlt]
@[go_sem] theorem idltR_row {m g k:Nat}{l:List D}:(R.row g k (.own []) l).idlt m=True:=rfl
@[go_sem] theorem idltR_rowf {m g k:Nat}{l:List D}:(R.row g k .fz l).idlt m=True:=rfl
@[go_sem] theorem idltR_rowb {m g k:Nat}{b:Bool}{l:List D}:(R.row g k (.ofB b) l).idlt m=True:=by cases b <;> rfl
@[go_sem] theorem idltR_map {m:Nat}{l:List (D×D)}:(R.map l).idlt m=True:=by simp only[R.idlt]
@[go_sem] theorem idltR_dead {m g:Nat}:(R.dead g).idlt m=True:=by simp only[R.idlt]
@[go_sem] theorem ownAll_nil:qcF [] fr H=(fr,H):=rfl
@[go_sem] theorem ownAll_cons {t k:Nat}{dp:Bool}{r:List (Nat×Nat×Bool)}:qcF ((t,k,dp)::r) fr H=qcF r (fr.put (some t) (.sl H.length 0 k 0 0)) (H ++ [.row 0 k dp []]):=rfl
@[go_sem] theorem ownVC_nil:qg1 [] fr H=True:=rfl
@[go_sem] theorem ownVC_cons {t k:Nat}{dp:Bool}{r:List (Nat×Nat×Bool)}:qg1 ((t,k,dp)::r) fr H=(fr.get t=.d .nil∧t<fr.n∧0<k∧qg1 r (fr.put (some t) (.sl H.length 0 k 0 0)) (H ++ [.row 0 k dp []])):=rfl
end rules
attribute [go_sem] I.d.injEq I.sl.injEq I.ptr.injEq I.agg.injEq R.row.injEq R.box.injEq R.map.injEq D.int.injEq D.bool.injEq D.lst.injEq D.agg.injEq D.tup.injEq
theorem qaa {n:Int}:InK .i64 n↔-9223372036854775808≤n∧n≤9223372036854775807:=Iff.rfl
end Go.VL
namespace Go.VL
abbrev dI (n:Int):D:=.int .i64 n
abbrev dB (b:Bool):D:=.bool b
abbrev dIs (l:List Int):D:=.lst 1 (l.map (D.int .i64))
abbrev dUs (l:List Int):D:=.lst 1 (l.map (D.int .u8))
abbrev dBs (l:List Bool):D:=.lst 1 (l.map D.bool)
abbrev dBss (l:List (List Bool)):D:=.lst 1 (l.map fun x=>dBs x)
@[go_sem] theorem usOf_us {k:Nat}{l:List Int}:usOf (.lst k (l.map (D.int .u8)))=l:=by
 simp only[usOf,List.map_map]
 exact(List.map_congr_left fun x _=>rfl).trans (List.map_id _)
@[go_sem] theorem usOf_none {k:Nat}:usOf (.lst k [])=[]:=rfl
@[go_sem] theorem usOf_nil:usOf .nil=[]:=rfl
@[go_sem] theorem isUs_us {l:List Int}:isUs (.lst 1 (l.map (D.int .u8)))=True:=by
 refine propext ⟨fun _=>trivial,fun _=>⟨rfl,?_⟩⟩
 rw[show(l.map (D.int .u8)).map D.toInt=l from usOf_us (k:=1)]
@[go_sem] theorem isUs_none:isUs (.lst 1 [])=True:=by simp[isUs]
@[go_sem] theorem isUs_nil:isUs .nil=True:=rfl
theorem qcX {α β : Type}(f : α→β) (l:List α) (i:Nat) (z : α):(l.map f).getD i (f z)=f (l.getD i z):=by
 simp[List.getD_eq_getElem?_getD,List.getElem?_map]
@[go_sem] theorem getD_ints {k:IntKind}{l:List Int}{i:Nat}{z:Int}:(l.map (D.int k)).getD i (D.int k z)=D.int k (l.getD i z):=qcX _ _ _ _
@[go_sem] theorem getD_bools {l:List Bool}{i:Nat}{z:Bool}:(l.map D.bool).getD i (D.bool z)=D.bool (l.getD i z):=qcX _ _ _ _
theorem getD_lt {α β : Type}(f : α→β) (l:List α) (i:Nat) (z : β) (y : α) (h:i<l.length):(l.map f).getD i z=f (l.getD i y):=by
 simp[List.getD_eq_getElem?_getD,h]
attribute [go_sem] List.length_map Int.toNat_natCast List.nodup_nil List.length_append List.length_set
@[go_sem] theorem cast_lt {a b:Nat}:((a:Int)<(b:Int))=(a<b):=by simp
@[go_sem] theorem cast_le {a b:Nat}:((a:Int)≤(b:Int))=(a≤b):=by simp
@[go_sem] theorem cast_eq {a b:Nat}:((a:Int)=(b:Int))=(a=b):=propext Int.ofNat_inj
@[go_sem] theorem cast_nonneg {a:Nat}:((0:Int)≤(a:Int))=True:=by simp
@[go_sem] theorem lt0_cast {a:Nat}:((a:Int)<0)=False:=by simp
@[go_sem] theorem cast_succ {a:Nat}:((a:Int)+1)=((a+1:Nat):Int):=by simp
attribute [go_sem] Nat.le_refl Int.le_refl and_false false_and not_false_eq_true ge_iff_le gt_iff_lt
theorem qff {α β : Type}{f : α→β}(hf : ∀ x y,f x=f y→x=y) {l l':List α}:(l.map f=l'.map f)=(l=l'):=by
 refine propext ⟨fun h=>?_,fun h=>by rw[h]⟩
 induction l generalizing l' with
 | nil=>cases l' with
  | nil=>rfl
  | cons y r=>simp at h
 | cons x r ih=>cases l' with
  | nil=>simp at h
  | cons y r'=>
   simp only[List.map_cons,List.cons.injEq] at h
   rw[hf _ _ h.1,ih h.2]
@[go_sem] theorem ints_inj {k:IntKind}{l l':List Int}:(l.map (D.int k)=l'.map (D.int k))=(l=l'):=qff fun x y h=>by simpa using h
@[go_sem] theorem bools_inj {l l':List Bool}:(l.map D.bool=l'.map D.bool)=(l=l'):=qff fun x y h=>by simpa using h
@[go_sem] theorem ints_set {k:IntKind}{l:List Int}{i:Nat}{x:Int}:(l.map (D.int k)).set i (D.int k x)=(l.set i x).map (D.int k):=List.map_set.symm
@[go_sem] theorem bools_set {l:List Bool}{i:Nat}{x:Bool}:(l.map D.bool).set i (D.bool x)=(l.set i x).map D.bool:=List.map_set.symm
@[go_sem] theorem ints_push {k:IntKind}{l:List Int}{x:Int}:l.map (D.int k) ++ [D.int k x]=(l ++ [x]).map (D.int k):=by simp
@[go_sem] theorem bools_push {l:List Bool}{x:Bool}:l.map D.bool ++ [D.bool x]=(l ++ [x]).map D.bool:=by simp
@[go_sem] theorem ints_app {k:IntKind}{l l':List Int}:l.map (D.int k)++l'.map (D.int k)=(l++l').map (D.int k):=by simp
@[go_sem] theorem bools_app {l l':List Bool}:l.map D.bool++l'.map D.bool=(l++l').map D.bool:=by simp
@[go_sem] theorem ints_rep {k:IntKind}{n:Nat}{x:Int}:List.replicate n (D.int k x)=(List.replicate n x).map (D.int k):=by simp
@[go_sem] theorem bools_rep {n:Nat}{x:Bool}:List.replicate n (D.bool x)=(List.replicate n x).map D.bool:=by simp
@[go_sem] theorem ints_drop {k:IntKind}{l:List Int}{n:Nat}:(l.map (D.int k)).drop n=(l.drop n).map (D.int k):=by simp
@[go_sem] theorem bools_drop {l:List Bool}{n:Nat}:(l.map D.bool).drop n=(l.drop n).map D.bool:=by simp
@[go_sem] theorem ints_take {k:IntKind}{l:List Int}{n:Nat}:(l.map (D.int k)).take n=(l.take n).map (D.int k):=by simp
@[go_sem] theorem bools_take {l:List Bool}{n:Nat}:(l.map D.bool).take n=(l.take n).map D.bool:=by simp
theorem qjT {k:IntKind}{l:List Int}:(([]:List D)=l.map (D.int k))=(l=[]):=propext ⟨fun h=>by cases l with|nil=>rfl|cons x r=>simp at h,fun h=>by rw[h];rfl⟩
theorem qiE {l:List Bool}:(([]:List D)=l.map D.bool)=(l=[]):=propext ⟨fun h=>by cases l with|nil=>rfl|cons x r=>simp at h,fun h=>by rw[h];rfl⟩
attribute [go_sem] qjT qiE
attribute [go_sem] beq_self_eq_true beq_iff_eq beq_eq_false_iff_ne Bool.true_eq_false not_false_eq_true imp_self List.take_length List.drop_length List.nodup_cons List.not_mem_nil decide_true decide_false Bool.or_eq_true Bool.and_eq_true Bool.or_eq_false_iff Bool.and_eq_false_iff Int.one_mul Int.cast_ofNat_Int Int.add_zero Int.zero_add Int.sub_zero Nat.add_zero Nat.sub_zero Bool.or_false Bool.false_or Bool.or_true Bool.true_or Bool.not_not
@[go_sem] theorem dscalar_int {k:IntKind}{n:Int}:(D.int k n).scalar=true:=rfl
@[go_sem] theorem qnk {b:Bool}:(D.bool b).scalar=true:=rfl
attribute [go_sem] List.forall_mem_cons
end Go.VL

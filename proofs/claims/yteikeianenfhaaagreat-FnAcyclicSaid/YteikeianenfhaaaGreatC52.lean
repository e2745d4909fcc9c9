/- Contracts, plain definitions and lemmas. Conditions: none; lemmas. -/
import Derived.Test.YteikeianenfhaaaGreatC74
import Derived.Test.YteikeianenfhaaaGreatC50
set_option maxRecDepth 20000
set_option linter.unusedSimpArgs false
set_option linter.unusedVariables false
set_option maxHeartbeats 2000000
namespace Go.Proofs
set_option linter.defProp false
open Go Go.VL Tryz
variable {i:Nat}{c:Circ}{cells:List Cel}{place:List Int}{busy:List (List Bool)}
def qly {α β : Type}{f : β->α->Option β} : ∀ (l:List α),l.foldl (fun o t=>o.bind fun h=>f h t) (none:Option β)=none
 | []=>rfl
 | x::l=>qly l
def Tryz.c_l8Tree (g:Nat) (pins:List Int) (busy:List Bool) (hb:busy.length=25) (hp : ∀ t∈pins,0<=t/\t<=24) (hne:pins≠[]) (hpl:pins.length<=1000) :
  ICall prog 195 [.d (dIs pins),.sl 0 g 1 0 25] [.row g 1 true (busy.map D.bool)] (fun r H'=>r=.d (.tup [dPs ((qeH busy pins).getD []),dB (qeH busy pins).isSome])/\H'=[.row g 1 true (busy.map D.bool)]):=by
 obtain⟨p0,rest,rfl⟩ : ∃ p0 rest,pins=p0::rest:=by
  cases pins with
  | nil=>exact absurd rfl hne
  | cons a l=>exact⟨a,l,rfl⟩
 have hp0:=hp p0 (by simp);have htd:qeH busy (p0::rest)=if busy.getD p0.toNat false=true then none else rest.foldl (fun o t=>o.bind fun hops=>qaO busy hops t) (some [(p0,-1)]):=rfl
 have hg0:(p0::rest).getD 0 0=p0:=rfl;by_cases hbz:busy.getD p0.toNat false=true
 ·rw[if_pos hbz] at htd;rw[htd];refine qaL (E:=env 1) tok rfl 1000 func195 rfl rfl ntmps195 (by simp) ?_
  repeat' first|assumption|(simp (disch:=first|assumption|omega|(simp;done)|(simp;omega)) only[go_sem,seval,hg0,hbz,qaq,yaa,qaq])|(with_reducible first|apply And.intro|intro _)|((try rw[qaa]);omega)
  refine qcX (by simp) (by simp only[go_sem,seval]) ?_;simp only[go_sem,seval];rfl
 ·rw[if_neg hbz] at htd;rw[Bool.not_eq_true] at hbz;have base:TreeOk busy [(p0,-1)]:=by
   refine⟨fun x hx=>?_,by simp[qan],fun x hx=>?_,by simp,fun j hj=>?_⟩
   ·obtain rfl:x=(p0,-1):=by simpa using hx
    exact hp0
   ·obtain rfl:x=(p0,-1):=by simpa using hx
    exact hbz
   ·obtain rfl:j=0:=by simpa using hj
    exact .inl ⟨rfl,rfl⟩
  refine qaL (E:=env 1) tok rfl 1000 func195 rfl rfl ntmps195 (by simp) ?_
  repeat' first|assumption|(simp (disch:=first|assumption|omega|(simp;done)|(simp;omega)) only[go_sem,seval,hg0,hbz,qaq,yaa,qaq])|(with_reducible first|apply And.intro|intro _)|((try rw[qaa]);omega)
  rw[htd];generalize hP9:p0::rest=P at *
  have hPl:P.length=rest.length+1:=by rw[<-hP9];rfl
  have hPg : ∀ m,P.getD (m+1) 0=rest.getD m 0:=fun m=>by rw[<-hP9];rfl
  refine qah (E:=env 1) tok (σ:=Nat×List (Int×Int)) (fun s=>[(0,.d (dIs P)),(1,.sl 0 g 1 0 25),(6,.d (dPs s.2)),(7,.d (dI ((s.1+1:Nat):Int)))]) (fun s=>[.row g 1 true (busy.map D.bool)])
   (fun s=>s.1<=rest.length/\TreeOk busy s.2/\(rest.take s.1).foldl (fun o t=>o.bind fun hops=>qaO busy hops t) (some [(p0,-1)])=some s.2) (fun s=>rest.length-s.1) [] [] 1000 1000 ?_ ?_
  ·simp only[go_sem,seval];exact⟨(0,[(p0,-1)]),⟨by simp,base,rfl⟩,by simp⟩
  ·rintro⟨m,hops⟩ ⟨hm,hT,hfo⟩;simp only at hm hT hfo;by_cases hmt:m<rest.length
   ·have hrm:rest.getD m 0∈rest:=qae hmt;have hrr:=hp _ (by rw[<-hP9];exact yaj _ hrm);have hpa:=c_l8Path g hops (rest.getD m 0) busy hb hT hrr;have hfs:=qay (f:=fun(o:Option (List (Int×Int))) (t:Int)=>o.bind fun hops=>qaO busy hops t) (b:=some [(p0,-1)]) (0:Int) hmt;rw[hfo] at hfs;simp only[ybh] at hfs;have hex:=@qgx busy hops hT (rest.getD m 0) hrr;have hsplit:rest.foldl (fun o t=>o.bind fun hops=>qaO busy hops t) (some [(p0,-1)])=(rest.drop (m+1)).foldl (fun o t=>o.bind fun hops=>qaO busy hops t) ((rest.take (m+1)).foldl (fun o t=>o.bind fun hops=>qaO busy hops t) (some [(p0,-1)])):=by
     rw[<-yaO,List.take_append_drop]
    have hPm:=hPg m;generalize rest.getD m 0=x at *
    cases he:qaO busy hops x with
    | none=>
     rw[he] at hpa hfs;rw[hsplit,hfs,qly]
     repeat' first|assumption|(simp (disch:=first|assumption|omega|(simp;done)|(simp;omega)) only[go_sem,seval,hPm,hPl,qaq,yaa,qaq])|(with_reducible first|apply And.intro|intro _)|((try rw[qaa]);omega)
     refine qas hpa [0] (by simp only[go_sem,seval]) ?_;rintro r0 H1 ⟨rfl,rfl⟩
     repeat' first|assumption|(simp (disch:=first|assumption|omega|(simp;done)|(simp;omega)) only[go_sem,seval,hPm,hPl,qaq,yaa,qaq])|(with_reducible first|apply And.intro|intro _)|((try rw[qaa]);omega)
     refine qcX (by simp) (by simp only[go_sem,seval]) ?_;simp only[go_sem,seval];rfl
    | some h2=>
     rw[he] at hpa hfs;obtain⟨q1,-,-⟩:=hex he
     repeat' first|assumption|(simp (disch:=first|assumption|omega|(simp;done)|(simp;omega)) only[go_sem,seval,hPm,hPl,qaq,yaa,qaq])|(with_reducible first|apply And.intro|intro _)|((try rw[qaa]);omega)
     refine qas hpa [0] (by simp only[go_sem,seval]) ?_;rintro r0 H1 ⟨rfl,rfl⟩
     repeat' first|assumption|(simp (disch:=first|assumption|omega|(simp;done)|(simp;omega)) only[go_sem,seval,hPm,hPl,qaq,yaa,qaq])|(with_reducible first|apply And.intro|intro _)|((try rw[qaa]);omega)
     exact⟨(m+1,h2),⟨by simp only;omega,q1,hfs⟩,by simp only;omega,rfl,rfl⟩
   ·rw[show rest.take m=rest from yaa (by omega)] at hfo;rw[hfo]
    repeat' first|assumption|(simp (disch:=first|assumption|omega|(simp;done)|(simp;omega)) only[go_sem,seval,hPl,qaq,yaa,qaq])|(with_reducible first|apply And.intro|intro _)|((try rw[qaa]);omega)
    refine qcX (by simp) (by simp only[go_sem,seval]) ?_;simp only[go_sem,seval]
def netR (net:Int):Option (Nat×List (Int×Int))->D
 | some (t,h)=>dRt ⟨net,(t:Int),h⟩
 | none=>.agg [dI 0,dI 0,.nil]
def set_self {α : Type}{l:List α}{z : α}(h:i<l.length):l.set i (l.getD i z)=l:=by
 refine List.ext_getElem (by simp) fun j h1 h2=>?_
 rw[List.getElem_set];split
 ·rename_i e;subst e;simp[List.getD,h]
 ·rfl
def Tryz.c_l8Net (g:Nat) (net:Int) (pins:List Int) (busy:List (List Bool)) (hb:BusyOk busy) (hp : ∀ t∈pins,0<=t/\t<=24) (hne:pins≠[]) (hpl:pins.length<=1000) :
  ICall prog 141 [.d (dI net),.d (dIs pins),.sl 0 g 1 0 8] [.row g 1 true (busy.map fun x=>dBs x)] (fun r H'=>r=.d (.tup [netR net (netB pins busy 8 0),dB (netB pins busy 8 0).isSome])/\H'=[.row g 1 true (busy.map fun x=>dBs x)]):=by
 have hl:=hb.len;refine qaL (E:=env 1) tok rfl 1000 func141 rfl rfl ntmps141 (by simp) ?_
 repeat' first|assumption|(simp (disch:=first|assumption|omega|(simp;done)|(simp;omega)) only[go_sem,seval,qaq,yaa,qaq])|(with_reducible first|apply And.intro|intro _)|((try rw[qaa]);omega)
 refine qah (E:=env 1) tok (σ:=Nat) (fun t=>[(0,.d (dI net)),(1,.d (dIs pins)),(2,.sl 0 g 1 0 8),(6,.ptr 1 0),(7,.d (dB false)),(8,.d (dI t))]) (fun s=>[.row g 1 true (busy.map fun x=>dBs x),.box [.d (dI 0),.d (dI 0),.d .nil]]) (fun t=>t<=8/\netB pins busy (8-t) t=netB pins busy 8 0) (fun t=>8-t) [] [] 1000 1000 ?_ ?_
 ·simp only[go_sem,seval];exact⟨0,⟨by omega,rfl⟩,rfl⟩
 ·rintro t ⟨ht,hn⟩;by_cases htt:t<8
  ·have hrl:=hb.row t htt;have htr:=c_l8Tree 1 pins (busy.getD t []) (hb.row t htt) hp hne hpl;have hst:netB pins busy (8-t) t=match qeH (busy.getD t []) pins with|some h=>some (t,h)|none=>netB pins busy (8-(t+1)) (t+1):=by
    rw[show 8-t=(8-(t+1))+1 by omega];rfl
   rw[hn] at hst;cases he:qeH (busy.getD t []) pins with
   | none=>
    rw[he] at hst htr;simp only at hst;simp only[go_sem,seval]
    repeat' first|assumption|(simp (disch:=first|assumption|omega|(simp;done)|(simp;omega)) only[go_sem,seval,hrl,qaq,yaa,qaq])|(with_reducible first|apply And.intro|intro _)|((try rw[qaa]);omega)
    refine qas htr [2] (by simp only[go_sem,seval]) ?_;rintro r0 H1 ⟨rfl,rfl⟩
    repeat' first|assumption|(simp (disch:=first|assumption|omega|(simp;done)|(simp;omega)) only[go_sem,seval,hrl,qaq,yaa,qaq])|(with_reducible first|apply And.intro|intro _)|((try rw[qaa]);omega)
    refine⟨t+1,⟨by omega,hst.symm⟩,by omega,rfl,?_⟩;exact(qdG (f:=fun x=>dBs x)).trans (by rw[set_self (by omega)])
   | some h=>
    rw[he] at hst htr;simp only at hst;rw[hst];simp only[go_sem,seval]
    repeat' first|assumption|(simp (disch:=first|assumption|omega|(simp;done)|(simp;omega)) only[go_sem,seval,hrl,qaq,yaa,qaq])|(with_reducible first|apply And.intro|intro _)|((try rw[qaa]);omega)
    refine qas htr [2] (by simp only[go_sem,seval]) ?_;rintro r0 H1 ⟨rfl,rfl⟩
    repeat' first|assumption|(simp (disch:=first|assumption|omega|(simp;done)|(simp;omega)) only[go_sem,seval,hrl,qaq,yaa,qaq])|(with_reducible first|apply And.intro|intro _)|((try rw[qaa]);omega)
    have hpc:putC 1 (busy.map fun x=>dBs x) t 0 (D.lst 1 ((busy.getD t []).map D.bool))=busy.map fun x=>dBs x:=(qdG (f:=fun x=>dBs x)).trans (by rw[set_self (by omega)])
    have htk:List.take 25 ((busy.getD t []).map D.bool)=(busy.getD t []).map D.bool:=yaa (by rw[yah];omega);refine qps ?_;simp only[go_sem,seval,hpc,htk];refine⟨by omega,?_⟩;refine qcX (by simp) (by simp only[go_sem,seval]) ?_;simp only[go_sem,seval];rfl
  ·obtain rfl:t=8:=by omega
   have e:netB pins busy 8 0=none:=hn.symm;rw[e]
   repeat' first|assumption|(simp (disch:=first|assumption|omega|(simp;done)|(simp;omega)) only[go_sem,seval,qaq,yaa,qaq])|(with_reducible first|apply And.intro|intro _)|((try rw[qaa]);omega)
   refine qcX (by simp) (by simp only[go_sem,seval]) ?_;simp only[go_sem,seval];rfl

def qlz {c:Circ}{cells:List Cel}{place:List Int}{busy0:List (List Bool)} : ∀ {k n:Nat},k<=n->qcK c cells place busy0 k=none->qcK c cells place busy0 n=none
 | k,0,h,e=>by
           obtain rfl:k=0:=by omega
           exact e
 | k,n+1,h,e=>by
  by_cases hk:k<=n
  ·rw[qcK,qlz hk e]
  ·obtain rfl:k=n+1:=by omega
   exact e
def qmC {busy0:List (List Bool)}{out:List Rt}{k:Nat}(h:qcK c cells place busy0 k=some (busy,out)) :
  qcK c cells place busy0 (k+1)=if qdr c cells place ((k:Int)+1)=[] then some (busy,out) else match netB (qdr c cells place ((k:Int)+1)) busy 8 0 with
   | none=>none
   | some (t,hs)=>some (takeB busy t hs,out ++ [⟨(k:Int)+1,(t:Int),hs⟩]):=by
 rw[qcK,h];rfl
def qof (hci : ∀ x∈cells,x.inputs.length<=3) (net:Int) : ∀ n,n<=cells.length->(qbf cells net n).length<=3*n:=by
 intro n;induction n with
 | zero=>intro _;simp[qbf]
 | succ n ih=>
  intro h;have h1:=ih (by omega);have h2:=hci _ (qae (by omega):cells.getD n ce0∈cells);have h3:(qfa (cells.getD n ce0) net n).length<=(cells.getD n ce0).inputs.length:=by
   simp only[qfa,yah];exact List.length_filter_le _ _
  rw[qbf,yaf];omega
def qlA : ∀ (l out:List Int),(l.foldl addU out).length<=out.length+l.length
 | [],out=>by simp
 | x::l,out=>by
  have h1:=qlA l (addU out x);have h2:(addU out x).length<=out.length+1:=by unfold addU;split <;> simp
  rw[yan,yag];omega
def qg6 {c:Circ}{net:Int} : ∀ o,(qa6 c net o).length<=o
 | 0=>by simp[qa6]
 | o+1=>by
  have:=qg6 (c:=c) (net:=net) o;rw[qa6,yaf];split <;> simp <;> omega
def qhx {cells:List Cel}{place:List Int}{net:Int} : ∀ i,(qbi cells place net i).length<=i
 | 0=>by simp[qbi]
 | i+1=>by
  have:=qhx (cells:=cells) (place:=place) (net:=net) i;rw[qbi,yaf];split <;> simp <;> omega
def qpO (hc:c.Valid) (hcl:cells.length<=25) (hci : ∀ x∈cells,x.inputs.length<=3) {net:Int}:(qdr c cells place net).length<=1000:=by
 have hlo:=hc.lo;unfold qdr;split
 ·simp
 ·have h1:=qlA (qax c cells place net) (qg2 c net++qbi cells place net cells.length);have h2:=qof hci net cells.length (yad _);have h3:=qg6 (c:=c) (net:=net) c.outs.length;have h4:=qhx (cells:=cells) (place:=place) (net:=net) cells.length;have h5:(qg2 c net).length<=1:=by unfold qg2;split <;> simp
  have h6:(qax c cells place net).length=(qbf cells net cells.length).length+(qa6 c net c.outs.length).length:=by simp[qax,qdj]
  rw[yaf] at h1;omega
def qjN {t:Nat}(ht:t<busy.length) {hs:List (Int×Int)}(hi:i<hs.length) :
  takeB busy t (hs.take (i+1))=(takeB busy t (hs.take i)).set t (((takeB busy t (hs.take i)).getD t []).set (hs.getD i (0,0)).1.toNat true):=by
 have e:qgv (busy.getD t []) (hs.take (i+1))=(qgv (busy.getD t []) (hs.take i)).set (hs.getD i (0,0)).1.toNat true:=qay (f:=fun(b:List Bool) (h:Int×Int)=>b.set h.1.toNat true) (b:=busy.getD t []) ((0,0):Int×Int) hi;unfold takeB;rw[e,List.set_set];congr 1;simp[List.getD,ht]
def Tryz.c_l8Route (c:Circ) (hc:c.Valid) (cells:List Cel) (hcl:cells.length<=25) (hci : ∀ x∈cells,x.inputs.length<=3) (place:List Int) (hp:PlaceOk cells.length place) :
  PureF prog 109 [dC c,dCes cells,dIs place] (.tup [dRts ((qcz c cells place qdM).getD []),dB (qcz c cells place qdM).isSome]):=by
 have hf:=hc.first_bd;have hv:=hc.vars_bd;have hi0:=hc.i0;have hi1:=hc.i1;have hvv:c.vars=c.first+(c.gates.length:Int):=rfl
 have hfst:=c_l1First c (by omega);have k3:scal (dI c.first):=by show InK .i64 _;rw[qaa];omega
 have hpb:=fun net=>qgp hc hp (net:=net)
 refine qcF (E:=envd 0) tok rfl 1000 func109 rfl rfl ntmps109 (by simp) fun ok=>?_
 simp only[go_sem,seval,-List.reduceReplicate] at ok
 repeat' first|assumption|(simp (disch:=first|assumption|omega|(simp;done)|(simp;omega)) only[go_sem,seval,-List.reduceReplicate,qaq,yaa,qaq])|(with_reducible first|apply And.intro|intro _)|exact lexT|((try rw[qaa]);omega)
 refine qah (E:=envd 0) tok (σ:=Nat) (fun t=>[(0,.d (dC c)),(1,.d (dCes cells)),(2,.d (dIs place)),(3,.ptr 0 0),(6,.d .nil),(7,.d (dB false)),(8,.sl 1 t 1 0 t),(9,.d (dI t))]) (fun t=>[.box [.d (dI c.inputs),.d (dIs c.next),.d (dPs c.gates),.d (dIs c.outs)],.row t 1 true ((List.replicate t (List.replicate 25 false)).map fun x=>dBs x)]) (fun t=>t<=8) (fun t=>8-t) [] [] 1000 1000 ?_ ?_
 ·simp only[go_sem,seval,-List.reduceReplicate];exact⟨0,by omega,by simp⟩
 ·intro t ht;by_cases htt:t<8
  ·have hrl:(List.replicate t (List.replicate 25 false)).length=t:=by simp
   have hrs:List.replicate (t+1) (List.replicate 25 false)=List.replicate t (List.replicate 25 false) ++ [List.replicate 25 false]:=yba;generalize List.replicate t (List.replicate 25 false)=q at *
   simp only[go_sem,seval,-List.reduceReplicate]
   repeat' first|assumption|(simp (disch:=first|assumption|omega|(simp;done)|(simp;omega)) only[go_sem,seval,-List.reduceReplicate,hrl,qaq,yaa,qaq])|(with_reducible first|apply And.intro|intro _)|exact lexT|((try rw[qaa]);omega)
   refine⟨t+1,by omega,by omega,rfl,rfl,?_⟩;rw[hrs]
  ·obtain rfl:t=8:=by omega
   rw[show List.replicate 8 (List.replicate 25 false)=qdM from rfl]
   repeat' first|assumption|(simp (disch:=first|assumption|omega|(simp;done)|(simp;omega)) only[go_sem,seval,-List.reduceReplicate,qaq,yaa,qaq])|(with_reducible first|apply And.intro|intro _)|exact lexT|((try rw[qaa]);omega)
   have hrc:qcz c cells place qdM=(qcK c cells place qdM (c.vars.toNat-1)).map (·.2):=rfl;refine qah (E:=envd 0) tok (σ:=Nat×List (List Bool)×List Rt) (fun s=>[(0,.d (dC c)),(1,.d (dCes cells)),(2,.d (dIs place)),(3,.ptr 0 0),(6,.d .nil),(7,.d (dB false)),(8,.sl 1 8 1 0 8),(10,.sl 2 s.2.2.length 3 0 s.2.2.length),(11,.d (dI ((s.1+1:Nat):Int)))]) (fun s=>[.box [.d (dI c.inputs),.d (dIs c.next),.d (dPs c.gates),.d (dIs c.outs)],.row 8 1 true (s.2.1.map fun x=>dBs x),.row s.2.2.length 3 false (s.2.2.map fun x=>dRt x)])
    (fun s=>(s.1:Int)<=c.vars-1/\qcK c cells place qdM s.1=some (s.2.1,s.2.2)/\s.2.2.length<=s.1) (fun s=>c.vars.toNat-s.1) [] [] 1000 1000 ?_ ?_
   ·simp only[go_sem,seval,-List.reduceReplicate];exact⟨(0,qdM,[]),⟨by simp only;omega,rfl,by simp⟩,by simp⟩
   ·rintro⟨k,busy,out⟩ ⟨hk,hro,hol⟩;simp only at hk hro hol;have hR:=qgy hc hp free0_ok k hro;have hbl:=hR.bok.len;have ek:(k:Int)+1=((k+1:Nat):Int):=by omega
    by_cases hlt:(k:Int)<c.vars-1
    ·have hst:=qmC hro;rw[ek] at hst;have h1:=c_l7Pins c hc cells hcl hci place hp ((k+1:Nat):Int) (by omega);have hpbk:=hpb ((k+1:Nat):Int);have hpl:=qpO hc hcl hci (place:=place) (net:=((k+1:Nat):Int));generalize qdr c cells place ((k+1:Nat):Int)=pins at *
     by_cases hpe:pins=[]
     ·rw[if_pos hpe] at hst;subst hpe
      repeat' first|assumption|(simp (disch:=first|assumption|omega|(simp;done)|(simp;omega)) only[go_sem,seval,-List.reduceReplicate,qaq,yaa,qaq])|(with_reducible first|apply And.intro|intro _)|(refine qcE (fun _=>⟨hfst,k3⟩) ?_)|(refine qad h1 ?_)|exact lexT|((try rw[qaa]);omega)
      exact⟨(k+1,busy,out),⟨by simp only;omega,hst,by simp only;omega⟩,by simp only;omega,⟨rfl,rfl⟩,rfl,rfl,rfl⟩
     ·rw[if_neg hpe] at hst;have hpp:0<pins.length:=List.length_pos_iff.2 hpe;have hnt:=c_l8Net 8 ((k+1:Nat):Int) pins busy hR.bok hpbk hpe hpl;cases hne:netB pins busy 8 0 with
      | none=>
       rw[hne] at hst hnt;simp only at hst;have hrn:qcz c cells place qdM=none:=by rw[hrc,qlz (by omega) hst];rfl
       rw[hrn]
       repeat' first|assumption|(simp (disch:=first|assumption|omega|(simp;done)|(simp;omega)) only[go_sem,seval,-List.reduceReplicate,qaq,yaa,qaq])|(with_reducible first|apply And.intro|intro _)|(refine qcE (fun _=>⟨hfst,k3⟩) ?_)|(refine qad h1 ?_)|exact lexT|((try rw[qaa]);omega)
       refine qas hnt [1] (by simp only[go_sem,seval,-List.reduceReplicate]) ?_;rintro r0 H1 ⟨rfl,rfl⟩
       repeat' first|assumption|(simp (disch:=first|assumption|omega|(simp;done)|(simp;omega)) only[go_sem,seval,-List.reduceReplicate,netR,qaq,yaa,qaq])|(with_reducible first|apply And.intro|intro _)|exact lexT|((try rw[qaa]);omega)
      | some q=>
       obtain⟨t,hs⟩:=q;rw[hne] at hst hnt;simp only at hst;obtain⟨-,ht8,htr,-⟩:=qkA 8 0 hne;obtain⟨b1,b2,b3⟩:=qhN hpbk hpe htr
       repeat' first|assumption|(simp (disch:=first|assumption|omega|(simp;done)|(simp;omega)) only[go_sem,seval,-List.reduceReplicate,qaq,yaa,qaq])|(with_reducible first|apply And.intro|intro _)|(refine qcE (fun _=>⟨hfst,k3⟩) ?_)|(refine qad h1 ?_)|exact lexT|((try rw[qaa]);omega)
       refine qas hnt [1] (by simp only[go_sem,seval,-List.reduceReplicate]) ?_;rintro r0 H1 ⟨rfl,rfl⟩
       repeat' first|assumption|(simp (disch:=first|assumption|omega|(simp;done)|(simp;omega)) only[go_sem,seval,-List.reduceReplicate,netR,qaq,yaa,qaq])|(with_reducible first|apply And.intro|intro _)|exact lexT|((try rw[qaa]);omega)
       have hhl:=qcZ b1;refine qah (E:=envd 0) tok (σ:=Nat) (fun i=>[(0,.d (dC c)),(1,.d (dCes cells)),(2,.d (dIs place)),(3,.ptr 0 0),(6,.d .nil),(7,.d (dB false)),(8,.sl 1 8 1 0 8),(10,.sl 2 out.length 3 0 out.length),(11,.d (dI ((k+1:Nat):Int))),(13,.ptr 3 0),(15,.d (dI i))]) (fun i=>[.box [.d (dI c.inputs),.d (dIs c.next),.d (dPs c.gates),.d (dIs c.outs)],.row 8 1 true ((takeB busy t (hs.take i)).map fun x=>dBs x),.row out.length 3 false (out.map fun x=>dRt x),.box [.d (dI ((k+1:Nat):Int)),.d (dI t),.d (dPs hs)]])
        (fun i=>i<=hs.length) (fun i=>hs.length-i) [] [] 1000 1000 ?_ ?_
       ·simp only[go_sem,seval,-List.reduceReplicate];exact⟨0,by omega,rfl,by rw[show takeB busy t (hs.take 0)=busy from set_self (by omega)]⟩
       ·intro i hi;have hTl:(takeB busy t (hs.take i)).length=8:=by simp[takeB];omega
        have hTr:((takeB busy t (hs.take i)).getD t []).length=25:=(qhO hR.bok (by omega)).row t (by omega);by_cases hit:i<hs.length
        ·have hstp:=qjN (busy:=busy) (t:=t) (by omega) hit;have hr:=b1.rng _ (qae hit:hs.getD i (0,0)∈hs);generalize takeB busy t (hs.take i)=T at *
         generalize hh9:hs.getD i (0,0)=hh at *
         simp only[go_sem,seval,-List.reduceReplicate,hh9]
         repeat' first|assumption|(simp (disch:=first|assumption|omega|(simp;done)|(simp;omega)) only[go_sem,seval,-List.reduceReplicate,hh9,hTl,hTr,qaq,yaa,qaq])|(with_reducible first|apply And.intro|intro _)|exact lexT|((try rw[qaa]);omega)
         refine qhM (E:=envd 0) tok Tryz.follows 1000 1000 [12] (fsts [0,1,5,7,2,3,4,6,8,9,10,11] (.one 12 .done)) (by kernel_rfl) ?_
         repeat' first|assumption|(simp (disch:=first|assumption|omega|(simp;done)|(simp;omega)) only[go_sem,seval,-List.reduceReplicate,hh9,hTl,hTr,qaq,yaa,qaq])|(with_reducible first|apply And.intro|intro _)|exact lexT|((try rw[qaa]);omega)
         refine⟨i+1,by omega,by omega,rfl,?_⟩;rw[hstp,yaa (by rw[yae];omega)];exact qdG (f:=fun x=>dBs x)
        ·rw[show hs.take i=hs from yaa (by omega)];rw[show hs.take i=hs from yaa (by omega)] at hTl
         repeat' first|assumption|(simp (disch:=first|assumption|omega|(simp;done)|(simp;omega)) only[go_sem,seval,-List.reduceReplicate,netR,qaq,yaa,qaq])|(with_reducible first|apply And.intro|intro _)|exact lexT|((try rw[qaa]);omega)
         refine⟨(k+1,takeB busy t hs,out ++ [⟨((k+1:Nat):Int),(t:Int),hs⟩]),⟨by simp only;omega,hst,by simp only[yaf,ybo];omega⟩,by simp only;omega,⟨by simp,rfl⟩,rfl,by simp,by simp⟩
    ·have hkk:k=c.vars.toNat-1:=by omega
     have hrn:qcz c cells place qdM=some out:=by rw[hrc,<-hkk,hro];rfl
     rw[hrn]
     repeat' first|assumption|(simp (disch:=first|assumption|omega|(simp;done)|(simp;omega)) only[go_sem,seval,-List.reduceReplicate,qaq,yaa,qaq])|(with_reducible first|apply And.intro|intro _)|(refine qcE (fun _=>⟨hfst,k3⟩) ?_)|exact lexT|((try rw[qaa]);omega)

def frOk (p:Int×Tcfg):Bool:=(decide (0<=p.1)&&decide (p.1<=24))&&p.2.ok p.1
def frsOk (l:List (Int×Tcfg)):Prop:=∀ j,j<l.length->frOk (l.getD j (0,tc0))=true
noncomputable instance (l:List (Int×Tcfg)):Decidable (frsOk l):=Classical.propDecidable _
def qsW (l:List Tcfg) (fs:List (Int×Tcfg)):List Tcfg:=fs.foldl (fun l f=>l.set f.1.toNat f.2) l
def applyOk (c:Kcfg) (fs:List (Int×Tcfg)) (ps:List (Int×Bool)):Prop:=c.ok/\qjG ps/\frsOk fs
noncomputable instance (c:Kcfg) (fs:List (Int×Tcfg)) (ps:List (Int×Bool)):Decidable (applyOk c fs ps):=Classical.propDecidable _
end Go.Proofs

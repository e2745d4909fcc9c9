/- Contracts, plain definitions and lemmas. Conditions: none; lemmas. -/
import Derived.Test.YteikeianenfhaaaGreatC74
import Derived.Test.YteikeianenfhaaaGreatC9
import Derived.Test.YteikeianenfhaaaGreatC7
set_option maxRecDepth 20000
set_option linter.unusedSimpArgs false
set_option linter.unusedVariables false
set_option maxHeartbeats 2000000
namespace Go.Proofs
set_option linter.defProp false
open Go Go.VL Tryz
variable {α:Type}{i f:Nat}{c:Circ}{cells:List Cel}{place:List Int}{busy:List (List Bool)}{t:Int}{l:List (Int×Bool)}{z:D}
def qlH {α β : Type}{f : β->α->Option β} : ∀ (l:List α),l.foldl (fun o t=>o.bind fun h=>f h t) (none:Option β)=none
 | []=>rfl
 | x::l=>qlH l
def Tryz.c_l8Tree (g:Nat) (pins:List Int) (busy:List Bool) (hb:busy.length=25) (hp : ∀ t∈pins,0<=t/\t<=24) (hne:pins≠[]) (hpl:pins.length<=1000) :
  ICall prog 195 [.d (dIs pins),.sl 0 g 1 0 25] [.row g 1 true (busy.map D.bool)] (fun r H'=>r=.d (.tup [dPs ((qeQ busy pins).getD []),dB (qeQ busy pins).isSome])/\H'=[.row g 1 true (busy.map D.bool)]):=by
 obtain⟨p0,rest,rfl⟩ : ∃ p0 rest,pins=p0::rest:=by
  cases pins with
  | nil=>exact absurd rfl hne
  | cons a l=>exact⟨a,l,rfl⟩
 have hp0:=hp p0 (by simp);have htd:qeQ busy (p0::rest)=if busy.getD p0.toNat false=true then none else rest.foldl (fun o t=>o.bind fun hops=>qaJ busy hops t) (some [(p0,-1)]):=rfl
 have hg0:(p0::rest).getD 0 0=p0:=rfl;by_cases hbz:busy.getD p0.toNat false=true
 ·rw[if_pos hbz] at htd;rw[htd];refine qaz (E:=env 1) tok rfl 1000 func195 rfl rfl ntmps195 (by simp) ?_
  repeat' first|assumption|(simp (disch:=first|assumption|omega|(simp;done)|(simp;omega)) only[go_sem,seval,hg0,hbz,qag,yaa,qag])|(with_reducible first|apply And.intro|intro _)|((try rw[qaa]);omega)
  refine qcF (by simp) (by simp only[go_sem,seval]) ?_;simp only[go_sem,seval];rfl
 ·rw[if_neg hbz] at htd;rw[Bool.not_eq_true] at hbz;have base:TreeOk busy [(p0,-1)]:=by
   refine⟨fun x hx=>?_,by simp[qao],fun x hx=>?_,by simp,fun j hj=>?_⟩
   ·obtain rfl:x=(p0,-1):=by simpa using hx
    exact hp0
   ·obtain rfl:x=(p0,-1):=by simpa using hx
    exact hbz
   ·obtain rfl:j=0:=by simpa using hj
    exact .inl ⟨rfl,rfl⟩
  refine qaz (E:=env 1) tok rfl 1000 func195 rfl rfl ntmps195 (by simp) ?_
  repeat' first|assumption|(simp (disch:=first|assumption|omega|(simp;done)|(simp;omega)) only[go_sem,seval,hg0,hbz,qag,yaa,qag])|(with_reducible first|apply And.intro|intro _)|((try rw[qaa]);omega)
  rw[htd];generalize hP9:p0::rest=P at *
  have hPl:P.length=rest.length+1:=by rw[<-hP9];rfl
  have hPg : ∀ m,P.getD (m+1) 0=rest.getD m 0:=fun m=>by rw[<-hP9];rfl
  refine qaf (E:=env 1) tok (σ:=Nat×List (Int×Int)) (fun s=>[(0,.d (dIs P)),(1,.sl 0 g 1 0 25),(6,.d (dPs s.2)),(7,.d (dI ((s.1+1:Nat):Int)))]) (fun s=>[.row g 1 true (busy.map D.bool)])
   (fun s=>s.1<=rest.length/\TreeOk busy s.2/\(rest.take s.1).foldl (fun o t=>o.bind fun hops=>qaJ busy hops t) (some [(p0,-1)])=some s.2) (fun s=>rest.length-s.1) [] [] 1000 1000 ?_ ?_
  ·simp only[go_sem,seval];exact⟨(0,[(p0,-1)]),⟨by simp,base,rfl⟩,by simp⟩
  ·rintro⟨m,hops⟩ ⟨hm,hT,hfo⟩;simp only at hm hT hfo;by_cases hmt:m<rest.length
   ·have hrm:rest.getD m 0∈rest:=qad hmt;have hrr:=hp _ (by rw[<-hP9];exact yaj _ hrm);have hpa:=c_l8Path g hops (rest.getD m 0) busy hb hT hrr;have hfs:=qaA (f:=fun(o:Option (List (Int×Int))) (t:Int)=>o.bind fun hops=>qaJ busy hops t) (b:=some [(p0,-1)]) (0:Int) hmt;rw[hfo] at hfs;simp only[ybk] at hfs;have hex:=@qgH busy hops hT (rest.getD m 0) hrr;have hsplit:rest.foldl (fun o t=>o.bind fun hops=>qaJ busy hops t) (some [(p0,-1)])=(rest.drop (m+1)).foldl (fun o t=>o.bind fun hops=>qaJ busy hops t) ((rest.take (m+1)).foldl (fun o t=>o.bind fun hops=>qaJ busy hops t) (some [(p0,-1)])):=by
     rw[<-yaM,List.take_append_drop]
    have hPm:=hPg m;generalize rest.getD m 0=x at *
    cases he:qaJ busy hops x with
    | none=>
     rw[he] at hpa hfs;rw[hsplit,hfs,qlH]
     repeat' first|assumption|(simp (disch:=first|assumption|omega|(simp;done)|(simp;omega)) only[go_sem,seval,hPm,hPl,qag,yaa,qag])|(with_reducible first|apply And.intro|intro _)|((try rw[qaa]);omega)
     refine qan hpa [0] (by simp only[go_sem,seval]) ?_;rintro r0 H1 ⟨rfl,rfl⟩
     repeat' first|assumption|(simp (disch:=first|assumption|omega|(simp;done)|(simp;omega)) only[go_sem,seval,hPm,hPl,qag,yaa,qag])|(with_reducible first|apply And.intro|intro _)|((try rw[qaa]);omega)
     refine qcF (by simp) (by simp only[go_sem,seval]) ?_;simp only[go_sem,seval];rfl
    | some h2=>
     rw[he] at hpa hfs;obtain⟨q1,-,-⟩:=hex he
     repeat' first|assumption|(simp (disch:=first|assumption|omega|(simp;done)|(simp;omega)) only[go_sem,seval,hPm,hPl,qag,yaa,qag])|(with_reducible first|apply And.intro|intro _)|((try rw[qaa]);omega)
     refine qan hpa [0] (by simp only[go_sem,seval]) ?_;rintro r0 H1 ⟨rfl,rfl⟩
     repeat' first|assumption|(simp (disch:=first|assumption|omega|(simp;done)|(simp;omega)) only[go_sem,seval,hPm,hPl,qag,yaa,qag])|(with_reducible first|apply And.intro|intro _)|((try rw[qaa]);omega)
     exact⟨(m+1,h2),⟨by simp only;omega,q1,hfs⟩,by simp only;omega,rfl,rfl⟩
   ·rw[show rest.take m=rest from yaa (by omega)] at hfo;rw[hfo]
    repeat' first|assumption|(simp (disch:=first|assumption|omega|(simp;done)|(simp;omega)) only[go_sem,seval,hPl,qag,yaa,qag])|(with_reducible first|apply And.intro|intro _)|((try rw[qaa]);omega)
    refine qcF (by simp) (by simp only[go_sem,seval]) ?_;simp only[go_sem,seval]
def netR (net:Int):Option (Nat×List (Int×Int))->D
 | some (t,h)=>dRt ⟨net,(t:Int),h⟩
 | none=>.agg [dI 0,dI 0,.nil]
def set_self {l:List α}{z : α}(h:i<l.length):l.set i (l.getD i z)=l:=by
 refine ybf (by simp) fun j h1 h2=>?_
 rw[List.getElem_set];split
 ·rename_i e;subst e;simp[List.getD,h]
 ·rfl
def Tryz.c_l8Net (g:Nat) (net:Int) (pins:List Int) (busy:List (List Bool)) (hb:BusyOk busy) (hp : ∀ t∈pins,0<=t/\t<=24) (hne:pins≠[]) (hpl:pins.length<=1000) :
  ICall prog 141 [.d (dI net),.d (dIs pins),.sl 0 g 1 0 8] [.row g 1 true (busy.map fun x=>dBs x)] (fun r H'=>r=.d (.tup [netR net (netB pins busy 8 0),dB (netB pins busy 8 0).isSome])/\H'=[.row g 1 true (busy.map fun x=>dBs x)]):=by
 have hl:=hb.len;refine qaz (E:=env 1) tok rfl 1000 func141 rfl rfl ntmps141 (by simp) ?_
 repeat' first|assumption|(simp (disch:=first|assumption|omega|(simp;done)|(simp;omega)) only[go_sem,seval,qag,yaa,qag])|(with_reducible first|apply And.intro|intro _)|((try rw[qaa]);omega)
 refine qaf (E:=env 1) tok (σ:=Nat) (fun t=>[(0,.d (dI net)),(1,.d (dIs pins)),(2,.sl 0 g 1 0 8),(6,.ptr 1 0),(7,.d (dB false)),(8,.d (dI t))]) (fun s=>[.row g 1 true (busy.map fun x=>dBs x),.box [.d (dI 0),.d (dI 0),.d .nil]]) (fun t=>t<=8/\netB pins busy (8-t) t=netB pins busy 8 0) (fun t=>8-t) [] [] 1000 1000 ?_ ?_
 ·simp only[go_sem,seval];exact⟨0,⟨by omega,rfl⟩,rfl⟩
 ·rintro t ⟨ht,hn⟩;by_cases htt:t<8
  ·have hrl:=hb.row t htt;have htr:=c_l8Tree 1 pins (busy.getD t []) (hb.row t htt) hp hne hpl;have hst:netB pins busy (8-t) t=match qeQ (busy.getD t []) pins with|some h=>some (t,h)|none=>netB pins busy (8-(t+1)) (t+1):=by
    rw[show 8-t=(8-(t+1))+1 by omega];rfl
   rw[hn] at hst;cases he:qeQ (busy.getD t []) pins with
   | none=>
    rw[he] at hst htr;simp only at hst;simp only[go_sem,seval]
    repeat' first|assumption|(simp (disch:=first|assumption|omega|(simp;done)|(simp;omega)) only[go_sem,seval,hrl,qag,yaa,qag])|(with_reducible first|apply And.intro|intro _)|((try rw[qaa]);omega)
    refine qan htr [2] (by simp only[go_sem,seval]) ?_;rintro r0 H1 ⟨rfl,rfl⟩
    repeat' first|assumption|(simp (disch:=first|assumption|omega|(simp;done)|(simp;omega)) only[go_sem,seval,hrl,qag,yaa,qag])|(with_reducible first|apply And.intro|intro _)|((try rw[qaa]);omega)
    refine⟨t+1,⟨by omega,hst.symm⟩,by omega,rfl,?_⟩;exact(qgr (f:=fun x=>dBs x)).trans (by rw[set_self (by omega)])
   | some h=>
    rw[he] at hst htr;simp only at hst;rw[hst];simp only[go_sem,seval]
    repeat' first|assumption|(simp (disch:=first|assumption|omega|(simp;done)|(simp;omega)) only[go_sem,seval,hrl,qag,yaa,qag])|(with_reducible first|apply And.intro|intro _)|((try rw[qaa]);omega)
    refine qan htr [2] (by simp only[go_sem,seval]) ?_;rintro r0 H1 ⟨rfl,rfl⟩
    repeat' first|assumption|(simp (disch:=first|assumption|omega|(simp;done)|(simp;omega)) only[go_sem,seval,hrl,qag,yaa,qag])|(with_reducible first|apply And.intro|intro _)|((try rw[qaa]);omega)
    have hpc:putC 1 (busy.map fun x=>dBs x) t 0 (D.lst 1 ((busy.getD t []).map D.bool))=busy.map fun x=>dBs x:=(qgr (f:=fun x=>dBs x)).trans (by rw[set_self (by omega)])
    have htk:List.take 25 ((busy.getD t []).map D.bool)=(busy.getD t []).map D.bool:=yaa (by rw[yaw];omega);refine qpG ?_;simp only[go_sem,seval,hpc,htk];refine⟨by omega,?_⟩;refine qcF (by simp) (by simp only[go_sem,seval]) ?_;simp only[go_sem,seval];rfl
  ·obtain rfl:t=8:=by omega
   have e:netB pins busy 8 0=none:=hn.symm;rw[e]
   repeat' first|assumption|(simp (disch:=first|assumption|omega|(simp;done)|(simp;omega)) only[go_sem,seval,qag,yaa,qag])|(with_reducible first|apply And.intro|intro _)|((try rw[qaa]);omega)
   refine qcF (by simp) (by simp only[go_sem,seval]) ?_;simp only[go_sem,seval];rfl

def qlI {c:Circ}{cells:List Cel}{place:List Int}{busy0:List (List Bool)} : ∀ {k n:Nat},k<=n->qcL c cells place busy0 k=none->qcL c cells place busy0 n=none
 | k,0,h,e=>by
           obtain rfl:k=0:=by omega
           exact e
 | k,n+1,h,e=>by
  by_cases hk:k<=n
  ·rw[qcL,qlI hk e]
  ·obtain rfl:k=n+1:=by omega
   exact e
def qmH {busy0:List (List Bool)}{out:List Rt}{k:Nat}(h:qcL c cells place busy0 k=some (busy,out)) :
  qcL c cells place busy0 (k+1)=if qdx c cells place ((k:Int)+1)=[] then some (busy,out) else match netB (qdx c cells place ((k:Int)+1)) busy 8 0 with
   | none=>none
   | some (t,hs)=>some (takeB busy t hs,out ++ [⟨(k:Int)+1,(t:Int),hs⟩]):=by
 rw[qcL,h];rfl
def qon (hci : ∀ x∈cells,x.inputs.length<=3) (net:Int) : ∀ n,n<=cells.length->(qba cells net n).length<=3*n:=by
 intro n;induction n with
 | zero=>intro _;simp[qba]
 | succ n ih=>
  intro h;have h1:=ih (by omega);have h2:=hci _ (qad (by omega):cells.getD n ce0∈cells);have h3:(qfl (cells.getD n ce0) net n).length<=(cells.getD n ce0).inputs.length:=by
   simp only[qfl,yaw];exact List.length_filter_le _ _
  rw[qba,yae];omega
def qlJ : ∀ (l out:List Int),(l.foldl addU out).length<=out.length+l.length
 | [],out=>by simp
 | x::l,out=>by
  have h1:=qlJ l (addU out x);have h2:(addU out x).length<=out.length+1:=by unfold addU;split <;> simp
  rw[yao,yaf];omega
def qhj {c:Circ}{net:Int} : ∀ o,(qa3 c net o).length<=o
 | 0=>by simp[qa3]
 | o+1=>by
  have:=qhj (c:=c) (net:=net) o;rw[qa3,yae];split <;> simp <;> omega
def qhJ {cells:List Cel}{place:List Int}{net:Int} : ∀ i,(qbe cells place net i).length<=i
 | 0=>by simp[qbe]
 | i+1=>by
  have:=qhJ (cells:=cells) (place:=place) (net:=net) i;rw[qbe,yae];split <;> simp <;> omega
def qpZ (hc:c.Valid) (hcl:cells.length<=25) (hci : ∀ x∈cells,x.inputs.length<=3) {net:Int}:(qdx c cells place net).length<=1000:=by
 have hlo:=hc.lo;unfold qdx;split
 ·simp
 ·have h1:=qlJ (qay c cells place net) (qhf c net++qbe cells place net cells.length);have h2:=qon hci net cells.length (yad _);have h3:=qhj (c:=c) (net:=net) c.outs.length;have h4:=qhJ (cells:=cells) (place:=place) (net:=net) cells.length;have h5:(qhf c net).length<=1:=by unfold qhf;split <;> simp
  have h6:(qay c cells place net).length=(qba cells net cells.length).length+(qa3 c net c.outs.length).length:=by simp[qay,qdm]
  rw[yae] at h1;omega
def qjQ {t:Nat}(ht:t<busy.length) {hs:List (Int×Int)}(hi:i<hs.length) :
  takeB busy t (hs.take (i+1))=(takeB busy t (hs.take i)).set t (((takeB busy t (hs.take i)).getD t []).set (hs.getD i (0,0)).1.toNat true):=by
 have e:qgF (busy.getD t []) (hs.take (i+1))=(qgF (busy.getD t []) (hs.take i)).set (hs.getD i (0,0)).1.toNat true:=qaA (f:=fun(b:List Bool) (h:Int×Int)=>b.set h.1.toNat true) (b:=busy.getD t []) ((0,0):Int×Int) hi;unfold takeB;rw[e,List.set_set];congr 1;simp[List.getD,ht]

structure Tcfg where
 table:Int
 select:List Int
 reg:Bool
 drive:List Int
noncomputable instance:DecidableEq Tcfg:=fun _ _=>Classical.propDecidable _
variable {x:Tcfg}
abbrev dTc (t:Tcfg):D:=.agg [dI t.table,dIs t.select,dB t.reg,dIs t.drive]
abbrev dFr (n:Int) (t:Tcfg):D:=.agg [dI n,dI t.table,dIs t.select,dB t.reg,dIs t.drive]
def qcM (n:Int):Bool:=(decide (0<=n)&&decide (n<=7)) || decide (n=15)
def nbUp (t:Int):Int:=if 5<=t then t-5 else -1
def qd2 (t:Int):Int:=if 0<t%5 then t-1 else -1
def qcN (t:Int):Int:=if t%5<4 then t+1 else -1
def qd3 (t:Int):Int:=if t<20 then t+5 else -1
def nb (t d:Int):Int:=if d=2 then nbUp t else if d=3 then qd2 t else if d=4 then qcN t else if d=5 then qd3 t else -1
def qa1 (t d:Int):Bool:=decide (d=0∨d=1∨(2<=d/\d<=5/\0<=nb t d)∨(d=6/\t%5=0/\t/5<4))
def Tcfg.ok (t:Int) (x:Tcfg):Bool:=(decide (0<=x.table)&&decide (x.table<256))&&decide (x.select.length=3)&&decide (x.drive.length=8)&&x.select.all qcM&&x.drive.all (qa1 t)
def Tryz.c_isTrack (n:Int):Pure prog 184 [dI n] (.bool (qcM n)):=by
 refine qax func184 rfl ntmps184 fun ok=>?_
 simp only[go_sem,seval] at ok⊢;simp only[qcM];rw[Bool.eq_iff_iff];simp;omega
def Tryz.c_neighbours (t:Int) (ht:0<=t/\t<=24):Pure prog 185 [dI t] (.agg [dI (nbUp t),dI (qd2 t),dI (qcN t),dI (qd3 t)]):=by
 refine qax func185 rfl ntmps185 fun ok=>?_
 simp only[go_sem,seval] at ok⊢
 repeat' first|assumption|(simp (disch:=first|assumption|omega|(simp;done)|(simp;omega)) only[qab];try simp only[go_sem,seval])|(with_reducible first|apply And.intro|intro _)|((try rw[qaa]);omega)
 all_goals (simp only[nbUp,qd2,qcN,qd3];first|rw[if_pos (by assumption)]|rw[if_neg (by assumption)])
def Tryz.c_l9Neighbour (t d:Int) (ht:0<=t/\t<=24):Pure prog 196 [dI t,dI d] (dI (nb t d)):=by
 refine qax func196 rfl ntmps196 fun ok=>?_
 simp only[go_sem,seval] at ok⊢
 repeat' first|assumption|(simp (disch:=first|assumption|omega|(simp;done)|(simp;omega)) only[qab];try simp only[go_sem,seval])|(with_reducible first|apply And.intro|intro _)|((try rw[qaa]);omega)
 all_goals (simp only[nb,nbUp,qd2,qcN,qd3];(repeat' split) <;> omega)
def Tcfg.ok_iff:x.ok t=true↔(0<=x.table/\x.table<256)/\x.select.length=3/\x.drive.length=8/\(∀ j,j<x.select.length->qcM (x.select.getD j 0)=true)/\∀ j,j<x.drive.length->qa1 t (x.drive.getD j 0)=true:=by
 simp only[Tcfg.ok,yap,decide_eq_true_eq,qfg _ _ (0:Int),and_assoc]
def Tcfg.ok_no (h:x.ok t=true->False):false=x.ok t:=by
 cases e:x.ok t with
 | false=>rfl
 | true=>exact absurd e h
def Tryz.c_tileValid (x:Tcfg) (t:Int) (ht:0<=t/\t<=24):Pure prog 124 [dTc x,dI t] (.bool (x.ok t)):=by
 refine qax func124 rfl ntmps124 fun ok=>?_
 simp only[go_sem,seval] at ok⊢;refine⟨fun h=>Tcfg.ok_no fun h2=>by rw[Tcfg.ok_iff] at h2;omega,fun h=>?_⟩;refine qaw (E:=env 0) tok (σ:=Nat) (fun i=>[(1,.d (dI t)),(2,.ptr 0 0),(31,.d (dIs x.select)),(32,.d (dI x.select.length)),(33,.d (dI i))]) (fun i=>[.box [.d (dI x.table),.d (dIs x.select),.d (dB x.reg),.d (dIs x.drive)]])
  (fun i=>i<=x.select.length/\∀ j,j<i->qcM (x.select.getD j 0)=true) (fun i=>x.select.length-i) [] 1000 1000 ?_ ?_ ?_
 ·simp only[go_sem,seval]
 ·simp only[go_sem,seval];exact⟨0,⟨by omega,fun j hj=>absurd hj (by omega)⟩,rfl⟩
 ·rintro i ⟨hi,hinv⟩;simp only[go_sem,seval]
  repeat' first|assumption|(simp (disch:=first|assumption|omega|(simp;done)|(simp;omega)) only[qab];try simp only[go_sem,seval])|(with_reducible first|apply And.intro|intro _)|(refine qac (c_isTrack _) ?_;simp only[go_sem,seval])|(refine qac (c_neighbours t ht) ?_;simp only[go_sem,seval])|((try rw[qaa]);omega)
  ·rename_i h1 h2;refine Tcfg.ok_no fun h3=>?_
   have:=(Tcfg.ok_iff.1 h3).2.2.2.1 i h1;rw[h2] at this;exact absurd this (by simp)
  ·rename_i h1 h2;refine⟨i+1,⟨by omega,fun j hj=>?_⟩,by omega,rfl⟩;by_cases hji:j=i
   ·subst hji;exact h2
   ·exact hinv j (by omega)
  ·rename_i h1;have hs : ∀ j,j<x.select.length->qcM (x.select.getD j 0)=true:=fun j hj=>hinv j (by omega)
   clear hinv hi h1;refine qaw (E:=env 0) tok (σ:=Nat) (fun i=>[(1,.d (dI t)),(2,.ptr 0 0),(7,.ptr 1 0),(44,.d (dIs x.drive)),(45,.d (dI x.drive.length)),(46,.d (dI i))]) (fun i=>[.box [.d (dI x.table),.d (dIs x.select),.d (dB x.reg),.d (dIs x.drive)],.box [.d (dI (nbUp t)),.d (dI (qd2 t)),.d (dI (qcN t)),.d (dI (qd3 t))]])
    (fun i=>i<=x.drive.length/\∀ j,j<i->qa1 t (x.drive.getD j 0)=true) (fun i=>x.drive.length-i) [] 1000 1000 ?_ ?_ ?_
   ·simp only[go_sem,seval]
   ·simp only[go_sem,seval];exact⟨0,⟨by omega,fun j hj=>absurd hj (by omega)⟩,rfl⟩
   ·rintro i ⟨hi,hinv⟩;have step:i<x.drive.length->qa1 t (x.drive.getD i 0)=true->∃ s',(s'<=x.drive.length/\∀ j,j<s'->qa1 t (x.drive.getD j 0)=true)/\x.drive.length-s'<x.drive.length-i/\i+1=s':=by
     intro h1 h2;refine⟨i+1,⟨by omega,fun j hj=>?_⟩,by omega,rfl⟩;by_cases hji:j=i
     ·subst hji;exact h2
     ·exact hinv j (by omega)
    have stop:i<x.drive.length->qa1 t (x.drive.getD i 0)=false->false=x.ok t:=by
     intro h1 h2;refine Tcfg.ok_no fun h3=>?_
     have:=(Tcfg.ok_iff.1 h3).2.2.2.2 i h1;rw[h2] at this;exact absurd this (by simp)
    have fin : ¬ i<x.drive.length->true=x.ok t:=fun hge=>(Tcfg.ok_iff.2 ⟨by omega,by omega,by omega,hs,fun j hj=>hinv j (by omega)⟩).symm
    have hd:x.drive.getD i 0=0∨x.drive.getD i 0=1∨x.drive.getD i 0=2∨x.drive.getD i 0=3∨x.drive.getD i 0=4∨x.drive.getD i 0=5∨x.drive.getD i 0=6∨(x.drive.getD i 0<0∨6<x.drive.getD i 0):=by omega
    rcases hd with hd|hd|hd|hd|hd|hd|hd|hd
    ·simp only[go_sem,seval,hd];rw[hd] at step stop
     repeat' first|assumption|(simp (disch:=first|assumption|omega|(simp;done)|(simp;omega)) only[qab];try simp only[go_sem,seval])|(with_reducible first|apply And.intro|intro _)|((try rw[qaa]);omega)
     all_goals first
      | exact fin (by assumption)
      | exact stop (by assumption) (by simp[qa1,nb];omega)
      | exact step (by assumption) (by simp[qa1,nb] <;> omega)
    ·simp only[go_sem,seval,hd];rw[hd] at step stop
     repeat' first|assumption|(simp (disch:=first|assumption|omega|(simp;done)|(simp;omega)) only[qab];try simp only[go_sem,seval])|(with_reducible first|apply And.intro|intro _)|((try rw[qaa]);omega)
     all_goals first
      | exact fin (by assumption)
      | exact stop (by assumption) (by simp[qa1,nb];omega)
      | exact step (by assumption) (by simp[qa1,nb] <;> omega)
    ·simp only[go_sem,seval,hd];rw[hd] at step stop
     repeat' first|assumption|(simp (disch:=first|assumption|omega|(simp;done)|(simp;omega)) only[qab];try simp only[go_sem,seval])|(with_reducible first|apply And.intro|intro _)|((try rw[qaa]);omega)
     all_goals first
      | exact fin (by assumption)
      | exact stop (by assumption) (by simp[qa1,nb];omega)
      | exact step (by assumption) (by simp[qa1,nb] <;> omega)
    ·simp only[go_sem,seval,hd];rw[hd] at step stop
     repeat' first|assumption|(simp (disch:=first|assumption|omega|(simp;done)|(simp;omega)) only[qab];try simp only[go_sem,seval])|(with_reducible first|apply And.intro|intro _)|((try rw[qaa]);omega)
     all_goals first
      | exact fin (by assumption)
      | exact stop (by assumption) (by simp[qa1,nb];omega)
      | exact step (by assumption) (by simp[qa1,nb] <;> omega)
    ·simp only[go_sem,seval,hd];rw[hd] at step stop
     repeat' first|assumption|(simp (disch:=first|assumption|omega|(simp;done)|(simp;omega)) only[qab];try simp only[go_sem,seval])|(with_reducible first|apply And.intro|intro _)|((try rw[qaa]);omega)
     all_goals first
      | exact fin (by assumption)
      | exact stop (by assumption) (by simp[qa1,nb];omega)
      | exact step (by assumption) (by simp[qa1,nb] <;> omega)
    ·simp only[go_sem,seval,hd];rw[hd] at step stop
     repeat' first|assumption|(simp (disch:=first|assumption|omega|(simp;done)|(simp;omega)) only[qab];try simp only[go_sem,seval])|(with_reducible first|apply And.intro|intro _)|((try rw[qaa]);omega)
     all_goals first
      | exact fin (by assumption)
      | exact stop (by assumption) (by simp[qa1,nb];omega)
      | exact step (by assumption) (by simp[qa1,nb] <;> omega)
    ·simp only[go_sem,seval,hd];rw[hd] at step stop
     repeat' first|assumption|(simp (disch:=first|assumption|omega|(simp;done)|(simp;omega)) only[qab];try simp only[go_sem,seval])|(with_reducible first|apply And.intro|intro _)|((try rw[qaa]);omega)
     all_goals first
      | exact fin (by assumption)
      | exact stop (by assumption) (by simp[qa1,nb];omega)
      | exact step (by assumption) (by simp[qa1,nb] <;> omega)
    ·simp only[go_sem,seval]
     repeat' first|assumption|(simp (disch:=first|assumption|omega|(simp;done)|(simp;omega)) only[qab];try simp only[go_sem,seval])|(with_reducible first|apply And.intro|intro _)|((try rw[qaa]);omega)
     all_goals first
      | exact fin (by assumption)
      | exact stop (by assumption) (by simp only[qa1,decide_eq_false_iff_not];omega)
      | exact step (by assumption) (by simp only[qa1,decide_eq_true_eq];omega)

def Tryz.shp_ints (y:D) (h:shp tyT (f+2) 23 y) : ∃ l:List Int,y=dIs l:=
 shp_slice ty23 ty3 (fun y h=>shp_int ty3 h) h
def Tryz.shp_Gate (y:D) (h:shp tyT (f+2) 216 y) : ∃ a:Int×Int,y=dP a:=by
 obtain⟨ys,rfl,k0⟩:=shp_struct ty216 h;obtain⟨y1,r1,rfl,h1,k1⟩:=qhG k0;obtain⟨y2,r2,rfl,h2,k2⟩:=qhG k1;obtain rfl:=qpB k2;obtain⟨n,rfl⟩:=shp_int ty3 h1;obtain⟨m,rfl⟩:=shp_int ty3 h2;exact⟨(n,m),rfl⟩
def Tryz.shp_Gates (y:D) (h:shp tyT (f+3) 47 y) : ∃ l:List (Int×Int),y=dPs l:=
 shp_slice ty47 ty216 shp_Gate h
def Tryz.shp_Circuit (y:D) (h:shp tyT (f+4) 49 y) : ∃ c:Circ,y=dC c:=by
 obtain⟨ys,rfl,k0⟩:=shp_struct ty49 h;obtain⟨y1,r1,rfl,h1,k1⟩:=qhG k0;obtain⟨y2,r2,rfl,h2,k2⟩:=qhG k1;obtain⟨y3,r3,rfl,h3,k3⟩:=qhG k2;obtain⟨y4,r4,rfl,h4,k4⟩:=qhG k3;obtain rfl:=qpB k4;obtain⟨n,rfl⟩:=shp_int ty3 h1;obtain⟨a,rfl⟩:=shp_ints _ h2;obtain⟨b,rfl⟩:=shp_Gates _ h3;obtain⟨d,rfl⟩:=shp_ints _ h4;exact⟨⟨n,a,b,d⟩,rfl⟩

abbrev dQ (p:Int×Bool):D:=.agg [dI p.1,dB p.2]
abbrev dTcs (l:List Tcfg):D:=.lst 4 (l.map fun x=>dTc x)
abbrev dQs (l:List (Int×Bool)):D:=.lst 2 (l.map fun x=>dQ x)
structure Kcfg where
 tiles:List Tcfg
 pads:List (Int×Bool)
noncomputable instance:DecidableEq Kcfg:=fun _ _=>Classical.propDecidable _
abbrev dK (k:Kcfg):D:=.agg [dTcs k.tiles,dQs k.pads]
def tc0:Tcfg:=⟨0,[],false,[]⟩
abbrev dFp (p:Int×Tcfg):D:=dFr p.1 p.2
def qam {l:List Tcfg}(h:i<l.length):(l.map fun x=>dTc x).getD i z=dTc (l.getD i tc0):=getD_lt _ _ _ _ _ h
def qap (h:i<l.length):(l.map fun x=>dQ x).getD i z=dQ (l.getD i (0,false)):=getD_lt _ _ _ _ _ h
def getD_fp {l:List (Int×Tcfg)}(h:i<l.length):(l.map fun x=>dFp x).getD i z=dFp (l.getD i (0,tc0)):=getD_lt _ _ _ _ _ h
@[go_sem] def zqW:scalars (l.map fun x=>dQ x)=true:=by induction l with|nil=>rfl|cons x r ih=>simp[scalars,D.cells,D.scalar,ih]

def qak {l:List α}{x z : α}(h:i<l.length):(l.set i x).getD i z=x:=by simp[List.getD,h]
def qbG {l:List α}{j:Nat}{x z : α}(h:i≠j):(l.set i x).getD j z=l.getD j z:=by simp[List.getD,List.getElem?_set,h]
end Go.Proofs

/- Contracts, plain definitions and lemmas. Conditions: none; lemmas. -/
import Derived.Test.YteikeianenfhaaaGreatD9
import Derived.Test.YteikeianenfhaaaGreatD6
import Derived.Test.YteikeianenfhaaaGreatC74
set_option maxRecDepth 20000
set_option linter.unusedSimpArgs false
set_option linter.unusedVariables false
set_option maxHeartbeats 2000000
namespace Go.Proofs
open Go Go.VL Tryz
def qpS (busy:List (List Bool)) (o:Option (List (Int×Int))) (r:I) (H':List R):Prop:=
 match o with
 | none=>r=.tup [.d .nil,.d (dB false)]/\H'=[.box (bx (qbS busy))]
 | some h=>∃ g,r=.tup [.sl 1 g 2 0 h.length,.d (dB true)]/\H'=[.box (bx (qbS busy)),.row g 2 true (h.map fun x=>dP x)]
theorem Tryz.c_tree (busy:List (List Bool)) (tiles:List Int) (u:Nat) (hu:u<8) (hne:tiles≠[]) (hr : ∀ t∈tiles,0<=t/\t<=24) (htl:tiles.length<=1000) :
  ICall prog 188 [.ptr 0 0,.d (dIs tiles),.d (dI u)] [.box (bx (qbS busy))] (qpS busy (qd8 (busy.getD u []) tiles)):=by
 obtain⟨t0,l,rfl⟩ : ∃ t0 l,tiles=t0::l:=by
  cases tiles with
  | nil=>exact absurd rfl hne
  | cons t0 l=>exact⟨t0,l,rfl⟩
 have h0:=hr t0 (by simp);have hl:l.length<=1000:=by simp at htl;omega
 have hT:qd8 (busy.getD u []) (t0::l)=if(busy.getD u []).getD t0.toNat false=true then none else l.foldl (fun o t=>o.bind fun hops=>qaD (busy.getD u []) hops t) (some [(t0,-1)]):=rfl;have hbx:(bx (qbS busy)).getD (t0.toNat*8+u) I.junk=.d (.bool ((busy.getD u []).getD t0.toNat false)):=by
  rw[qla (by rw[qbe];omega),qki (by omega) hu]
 rw[hT];refine qaz (E:=env 1) tok rfl 1000 func188 rfl rfl ntmps188 (by simp) ?_
 repeat' first|assumption|(simp (disch:=first|assumption|omega|(simp;done)|(simp;omega)) only[go_sem,seval,hbx,yaK,qbe,yaa])|(with_reducible first|apply And.intro|intro _)|exact lexT|((try rw[qaa]);omega)
 ·rename_i hb;rw[if_pos hb];exact qbm ⟨rfl,rfl⟩
 rename_i hb;rw[if_neg (by rw[hb];simp)];have base:TreeOk (busy.getD u []) [(t0,-1)]:=by
  refine⟨fun x hx=>?_,by simp[qak],fun x hx=>?_,by simp,fun j hj=>?_⟩
  ·obtain rfl:x=(t0,-1):=by simpa using hx
   exact h0
  ·obtain rfl:x=(t0,-1):=by simpa using hx
   simpa using hb
  ·obtain rfl:j=0:=by simpa using hj
   exact .inl ⟨rfl,rfl⟩
 have hrl : ∀ t∈l,0<=t/\t<=24:=fun t ht=>hr t (by simp[ht])
 refine qai (E:=env 1) tok (σ:=Nat×Nat×List (Int×Int)) (fun s=>[(0,.ptr 0 0),(2,.d (dI u)),(8,.sl 1 s.2.1 2 0 s.2.2.length),(29,.d (dIs l)),(30,.d (dI l.length)),(31,.d (dI s.1))])
  (fun s=>[.box (bx (qbS busy)),.row s.2.1 2 true (s.2.2.map fun x=>dP x)]) (fun s=>s.1<=l.length/\TreeOk (busy.getD u []) s.2.2/\(l.take s.1).foldl (fun o t=>o.bind fun hops=>qaD (busy.getD u []) hops t) (some [(t0,-1)])=some s.2.2) (fun s=>l.length-s.1) [] [] 1000 1000 ?_ ?_
 ·simp only[go_sem,seval];exact⟨(0,0,[(t0,-1)]),⟨by simp,base,by simp⟩,by simp⟩
 ·rintro⟨i,g,hops⟩ ⟨hi,ht,hf⟩;simp only at hi ht hf;have hhl:=qcP ht;by_cases hlt:i<l.length
  ·have hfs:=qaw (f:=fun(o:Option (List (Int×Int))) (t:Int)=>o.bind fun hops=>qaD (busy.getD u []) hops t) (b:=some [(t0,-1)]) (0:Int) hlt;rw[hf,yba] at hfs;have htr:=hrl _ (qab hlt:l.getD i 0∈l);generalize hx9:l.getD i 0=x at *
   have hpa:=c_path g busy hops x u hu ht htr;have hdrop:l.foldl (fun o t=>o.bind fun hops=>qaD (busy.getD u []) hops t) (some [(t0,-1)])=(l.drop (i+1)).foldl (fun o t=>o.bind fun hops=>qaD (busy.getD u []) hops t) (qaD (busy.getD u []) hops x):=by
    conv=>lhs;rw[<-ybc (i+1) l]
    rw[ybf,hfs]
   repeat' first|assumption|(simp (disch:=first|assumption|omega|(simp;done)|(simp;omega)) only[go_sem,seval,hx9,yaa])|(with_reducible first|apply And.intro|intro _)|exact lexT|((try rw[qaa]);omega)
   refine qaq hpa [0,1] (by simp only[go_sem,seval]) ?_;rintro r0 H1 ⟨rfl,rfl⟩;cases hex:qaD (busy.getD u []) hops x with
   | none=>
    rw[hex,qfQ] at hdrop;rw[hdrop]
    repeat' first|assumption|(simp (disch:=first|assumption|omega|(simp;done)|(simp;omega)) only[go_sem,seval,yaa])|(with_reducible first|apply And.intro|intro _)|exact lexT|((try rw[qaa]);omega)
    refine qa3 (r0:=.tup [.d .nil,.d (dB false)]) (H1:=[.box (bx (qbS busy))]) ?_ ⟨rfl,rfl⟩;simp only[go_sem,seval]
   | some h2=>
    obtain⟨a1,a2,r1,a3⟩:=qfP ht htr hex;have hl2:=qcP a1;rw[hex] at hfs;subst a3
    repeat' first|assumption|(simp (disch:=first|assumption|omega|(simp;done)|(simp;omega)) only[go_sem,seval,yap,List.drop_left,yaa])|(with_reducible first|apply And.intro|intro _)|exact lexT|((try rw[qaa]);omega)
    ·have hll:(hops++r1).length=hops.length+r1.length:=yae ..;omega
    ·refine⟨(i+1,g+1,hops++r1),⟨by simp only;omega,a1,hfs⟩,by simp only;omega,⟨⟨rfl,by simp⟩,rfl⟩,rfl,rfl⟩
  ·obtain rfl:i=l.length:=by omega
   rw[yaq] at hf;rw[hf]
   repeat' first|assumption|(simp (disch:=first|assumption|omega|(simp;done)|(simp;omega)) only[go_sem,seval,yaa])|(with_reducible first|apply And.intro|intro _)|exact lexT|((try rw[qaa]);omega)
   exact qbm ⟨_,rfl,rfl⟩

theorem qkp {α β : Type}{f : β->α->Option β} : ∀ (l:List α),l.foldl (fun o t=>o.bind fun h=>f h t) (none:Option β)=none
 | []=>rfl
 | x::l=>qkp l
theorem Tryz.c_l8Tree (g:Nat) (pins:List Int) (busy:List Bool) (hb:busy.length=25) (hp : ∀ t∈pins,0<=t/\t<=24) (hne:pins≠[]) (hpl:pins.length<=1000) :
  ICall prog 195 [.d (dIs pins),.sl 0 g 1 0 25] [.row g 1 true (busy.map D.bool)] (fun r H'=>r=.d (.tup [dPs ((qd8 busy pins).getD []),dB (qd8 busy pins).isSome])/\H'=[.row g 1 true (busy.map D.bool)]):=by
 obtain⟨p0,rest,rfl⟩ : ∃ p0 rest,pins=p0::rest:=by
  cases pins with
  | nil=>exact absurd rfl hne
  | cons a l=>exact⟨a,l,rfl⟩
 have hp0:=hp p0 (by simp);have htd:qd8 busy (p0::rest)=if busy.getD p0.toNat false=true then none else rest.foldl (fun o t=>o.bind fun hops=>qaD busy hops t) (some [(p0,-1)]):=rfl
 have hg0:(p0::rest).getD 0 0=p0:=rfl;by_cases hbz:busy.getD p0.toNat false=true
 ·rw[if_pos hbz] at htd;rw[htd];refine qaz (E:=env 1) tok rfl 1000 func195 rfl rfl ntmps195 (by simp) ?_
  repeat' first|assumption|(simp (disch:=first|assumption|omega|(simp;done)|(simp;omega)) only[go_sem,seval,hg0,hbz,qal,yaa,qal])|(with_reducible first|apply And.intro|intro _)|((try rw[qaa]);omega)
  refine qcl (by simp) (by simp only[go_sem,seval]) ?_;simp only[go_sem,seval];rfl
 ·rw[if_neg hbz] at htd;rw[Bool.not_eq_true] at hbz;have base:TreeOk busy [(p0,-1)]:=by
   refine⟨fun x hx=>?_,by simp[qak],fun x hx=>?_,by simp,fun j hj=>?_⟩
   ·obtain rfl:x=(p0,-1):=by simpa using hx
    exact hp0
   ·obtain rfl:x=(p0,-1):=by simpa using hx
    exact hbz
   ·obtain rfl:j=0:=by simpa using hj
    exact .inl ⟨rfl,rfl⟩
  refine qaz (E:=env 1) tok rfl 1000 func195 rfl rfl ntmps195 (by simp) ?_
  repeat' first|assumption|(simp (disch:=first|assumption|omega|(simp;done)|(simp;omega)) only[go_sem,seval,hg0,hbz,qal,yaa,qal])|(with_reducible first|apply And.intro|intro _)|((try rw[qaa]);omega)
  rw[htd];generalize hP9:p0::rest=P at *
  have hPl:P.length=rest.length+1:=by rw[<-hP9];rfl
  have hPg : ∀ m,P.getD (m+1) 0=rest.getD m 0:=fun m=>by rw[<-hP9];rfl
  refine qai (E:=env 1) tok (σ:=Nat×List (Int×Int)) (fun s=>[(0,.d (dIs P)),(1,.sl 0 g 1 0 25),(6,.d (dPs s.2)),(7,.d (dI ((s.1+1:Nat):Int)))]) (fun s=>[.row g 1 true (busy.map D.bool)])
   (fun s=>s.1<=rest.length/\TreeOk busy s.2/\(rest.take s.1).foldl (fun o t=>o.bind fun hops=>qaD busy hops t) (some [(p0,-1)])=some s.2) (fun s=>rest.length-s.1) [] [] 1000 1000 ?_ ?_
  ·simp only[go_sem,seval];exact⟨(0,[(p0,-1)]),⟨by simp,base,rfl⟩,by simp⟩
  ·rintro⟨m,hops⟩ ⟨hm,hT,hfo⟩;simp only at hm hT hfo;by_cases hmt:m<rest.length
   ·have hrm:rest.getD m 0∈rest:=qab hmt;have hrr:=hp _ (by rw[<-hP9];exact yaB _ hrm);have hpa:=c_l8Path g hops (rest.getD m 0) busy hb hT hrr;have hfs:=qaw (f:=fun(o:Option (List (Int×Int))) (t:Int)=>o.bind fun hops=>qaD busy hops t) (b:=some [(p0,-1)]) (0:Int) hmt;rw[hfo] at hfs;simp only[yba] at hfs;have hex:=@qfP busy hops hT (rest.getD m 0) hrr;have hsplit:rest.foldl (fun o t=>o.bind fun hops=>qaD busy hops t) (some [(p0,-1)])=(rest.drop (m+1)).foldl (fun o t=>o.bind fun hops=>qaD busy hops t) ((rest.take (m+1)).foldl (fun o t=>o.bind fun hops=>qaD busy hops t) (some [(p0,-1)])):=by
     rw[<-ybf,ybc]
    have hPm:=hPg m;generalize rest.getD m 0=x at *
    cases he:qaD busy hops x with
    | none=>
     rw[he] at hpa hfs;rw[hsplit,hfs,qkp]
     repeat' first|assumption|(simp (disch:=first|assumption|omega|(simp;done)|(simp;omega)) only[go_sem,seval,hPm,hPl,qal,yaa,qal])|(with_reducible first|apply And.intro|intro _)|((try rw[qaa]);omega)
     refine qaq hpa [0] (by simp only[go_sem,seval]) ?_;rintro r0 H1 ⟨rfl,rfl⟩
     repeat' first|assumption|(simp (disch:=first|assumption|omega|(simp;done)|(simp;omega)) only[go_sem,seval,hPm,hPl,qal,yaa,qal])|(with_reducible first|apply And.intro|intro _)|((try rw[qaa]);omega)
     refine qcl (by simp) (by simp only[go_sem,seval]) ?_;simp only[go_sem,seval];rfl
    | some h2=>
     rw[he] at hpa hfs;obtain⟨q1,-,-⟩:=hex he
     repeat' first|assumption|(simp (disch:=first|assumption|omega|(simp;done)|(simp;omega)) only[go_sem,seval,hPm,hPl,qal,yaa,qal])|(with_reducible first|apply And.intro|intro _)|((try rw[qaa]);omega)
     refine qaq hpa [0] (by simp only[go_sem,seval]) ?_;rintro r0 H1 ⟨rfl,rfl⟩
     repeat' first|assumption|(simp (disch:=first|assumption|omega|(simp;done)|(simp;omega)) only[go_sem,seval,hPm,hPl,qal,yaa,qal])|(with_reducible first|apply And.intro|intro _)|((try rw[qaa]);omega)
     exact⟨(m+1,h2),⟨by simp only;omega,q1,hfs⟩,by simp only;omega,rfl,rfl⟩
   ·rw[show rest.take m=rest from yaa (by omega)] at hfo;rw[hfo]
    repeat' first|assumption|(simp (disch:=first|assumption|omega|(simp;done)|(simp;omega)) only[go_sem,seval,hPl,qal,yaa,qal])|(with_reducible first|apply And.intro|intro _)|((try rw[qaa]);omega)
    refine qcl (by simp) (by simp only[go_sem,seval]) ?_;simp only[go_sem,seval]
def netR (net:Int):Option (Nat×List (Int×Int))->D
 | some (t,h)=>dRt ⟨net,(t:Int),h⟩
 | none=>.agg [dI 0,dI 0,.nil]
theorem set_self {α : Type}{l:List α}{i:Nat}{z : α}(h:i<l.length):l.set i (l.getD i z)=l:=by
 refine List.ext_getElem (by simp) fun j h1 h2=>?_
 rw[List.getElem_set];split
 ·rename_i e;subst e;simp[List.getD,h]
 ·rfl
theorem Tryz.c_l8Net (g:Nat) (net:Int) (pins:List Int) (busy:List (List Bool)) (hb:BusyOk busy) (hp : ∀ t∈pins,0<=t/\t<=24) (hne:pins≠[]) (hpl:pins.length<=1000) :
  ICall prog 141 [.d (dI net),.d (dIs pins),.sl 0 g 1 0 8] [.row g 1 true (busy.map fun x=>dBs x)] (fun r H'=>r=.d (.tup [netR net (netB pins busy 8 0),dB (netB pins busy 8 0).isSome])/\H'=[.row g 1 true (busy.map fun x=>dBs x)]):=by
 have hl:=hb.len;refine qaz (E:=env 1) tok rfl 1000 func141 rfl rfl ntmps141 (by simp) ?_
 repeat' first|assumption|(simp (disch:=first|assumption|omega|(simp;done)|(simp;omega)) only[go_sem,seval,qal,yaa,qal])|(with_reducible first|apply And.intro|intro _)|((try rw[qaa]);omega)
 refine qai (E:=env 1) tok (σ:=Nat) (fun t=>[(0,.d (dI net)),(1,.d (dIs pins)),(2,.sl 0 g 1 0 8),(6,.ptr 1 0),(7,.d (dB false)),(8,.d (dI t))]) (fun s=>[.row g 1 true (busy.map fun x=>dBs x),.box [.d (dI 0),.d (dI 0),.d .nil]]) (fun t=>t<=8/\netB pins busy (8-t) t=netB pins busy 8 0) (fun t=>8-t) [] [] 1000 1000 ?_ ?_
 ·simp only[go_sem,seval];exact⟨0,⟨by omega,rfl⟩,rfl⟩
 ·rintro t ⟨ht,hn⟩;by_cases htt:t<8
  ·have hrl:=hb.row t htt;have htr:=c_l8Tree 1 pins (busy.getD t []) (hb.row t htt) hp hne hpl;have hst:netB pins busy (8-t) t=match qd8 (busy.getD t []) pins with|some h=>some (t,h)|none=>netB pins busy (8-(t+1)) (t+1):=by
    rw[show 8-t=(8-(t+1))+1 by omega];rfl
   rw[hn] at hst;cases he:qd8 (busy.getD t []) pins with
   | none=>
    rw[he] at hst htr;simp only at hst;simp only[go_sem,seval]
    repeat' first|assumption|(simp (disch:=first|assumption|omega|(simp;done)|(simp;omega)) only[go_sem,seval,hrl,qal,yaa,qal])|(with_reducible first|apply And.intro|intro _)|((try rw[qaa]);omega)
    refine qaq htr [2] (by simp only[go_sem,seval]) ?_;rintro r0 H1 ⟨rfl,rfl⟩
    repeat' first|assumption|(simp (disch:=first|assumption|omega|(simp;done)|(simp;omega)) only[go_sem,seval,hrl,qal,yaa,qal])|(with_reducible first|apply And.intro|intro _)|((try rw[qaa]);omega)
    refine⟨t+1,⟨by omega,hst.symm⟩,by omega,rfl,?_⟩;exact(qhv (f:=fun x=>dBs x)).trans (by rw[set_self (by omega)])
   | some h=>
    rw[he] at hst htr;simp only at hst;rw[hst];simp only[go_sem,seval]
    repeat' first|assumption|(simp (disch:=first|assumption|omega|(simp;done)|(simp;omega)) only[go_sem,seval,hrl,qal,yaa,qal])|(with_reducible first|apply And.intro|intro _)|((try rw[qaa]);omega)
    refine qaq htr [2] (by simp only[go_sem,seval]) ?_;rintro r0 H1 ⟨rfl,rfl⟩
    repeat' first|assumption|(simp (disch:=first|assumption|omega|(simp;done)|(simp;omega)) only[go_sem,seval,hrl,qal,yaa,qal])|(with_reducible first|apply And.intro|intro _)|((try rw[qaa]);omega)
    have hpc:putC 1 (busy.map fun x=>dBs x) t 0 (D.lst 1 ((busy.getD t []).map D.bool))=busy.map fun x=>dBs x:=(qhv (f:=fun x=>dBs x)).trans (by rw[set_self (by omega)])
    have htk:List.take 25 ((busy.getD t []).map D.bool)=(busy.getD t []).map D.bool:=yaa (by rw[yay];omega);refine qnK ?_;simp only[go_sem,seval,hpc,htk];refine⟨by omega,?_⟩;refine qcl (by simp) (by simp only[go_sem,seval]) ?_;simp only[go_sem,seval];rfl
  ·obtain rfl:t=8:=by omega
   have e:netB pins busy 8 0=none:=hn.symm;rw[e]
   repeat' first|assumption|(simp (disch:=first|assumption|omega|(simp;done)|(simp;omega)) only[go_sem,seval,qal,yaa,qal])|(with_reducible first|apply And.intro|intro _)|((try rw[qaa]);omega)
   refine qcl (by simp) (by simp only[go_sem,seval]) ?_;simp only[go_sem,seval];rfl
end Go.Proofs

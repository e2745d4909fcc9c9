/- Contracts, plain definitions and lemmas. Conditions: none; lemmas. -/
import Derived.Test.YteikeianenfhaaaGreatD9
import Derived.Test.YteikeianenfhaaaGreatD3
import Derived.Test.YteikeianenfhaaaGreatC10
set_option maxRecDepth 20000
set_option linter.unusedSimpArgs false
set_option linter.unusedVariables false
namespace Go.Proofs
open Go Go.VL
def qri (busy:List (List Bool)) (o:Option (List (Int×Int))) (r:I) (H':List R):Prop:=
 match o with
 | none=>r=.tup [.d .nil,.d (dB false)]/\H'=[.box (bx (qcf busy))]
 | some h=>∃ g,r=.tup [.sl 1 g 2 0 h.length,.d (dB true)]/\H'=[.box (bx (qcf busy)),.row g 2 true (h.map fun x=>dP x)]
theorem Tryz.c_tree (busy:List (List Bool)) (tiles:List Int) (u:Nat) (hu:u<8) (hne:tiles≠[]) (hr : ∀ t∈tiles,0<=t/\t<=24) (htl:tiles.length<=1000) :
  ICall Tryz.prog 188 [.ptr 0 0,.d (dIs tiles),.d (dI u)] [.box (bx (qcf busy))] (qri busy (qeF (busy.getD u []) tiles)):=by
 obtain⟨t0,l,rfl⟩ : ∃ t0 l,tiles=t0::l:=by
  cases tiles with
  | nil=>exact absurd rfl hne
  | cons t0 l=>exact⟨t0,l,rfl⟩
 have h0:=hr t0 (by simp);have hl:l.length<=1000:=by simp at htl;omega
 have hT:qeF (busy.getD u []) (t0::l)=if(busy.getD u []).getD t0.toNat false=true then none else l.foldl (fun o t=>o.bind fun hops=>qaN (busy.getD u []) hops t) (some [(t0,-1)]):=rfl;have hbx:(bx (qcf busy)).getD (t0.toNat*8+u) I.junk=.d (.bool ((busy.getD u []).getD t0.toNat false)):=by
  rw[qaM (by rw[qaY];omega),qll (by omega) hu]
 rw[hT];refine qaO (E:=Tryz.env 1) Tryz.tok rfl 1000 Tryz.func188 rfl rfl Tryz.ntmps188 (by simp) ?_;simp only[go_sem,seval,hbx,yaI,qaY]
 repeat' first|assumption|(simp (disch:=first|assumption|omega|(simp;done)|(simp;omega)) only[qaa,qac,yaa,qab,qaM,qae,qaf,qah,qai,qar];try simp only[go_sem,seval,hbx,yaI,qaY])|(with_reducible first|refine And.intro ?_ ?_|intro _)|((with_reducible (show Region.lexB _ _=true));kernel_rfl)|((try rw[qad]);omega)
 ·rename_i hb;rw[if_pos hb];exact qci ⟨rfl,rfl⟩
 rename_i hb;rw[if_neg (by rw[hb];simp)];have base:TreeOk (busy.getD u []) [(t0,-1)]:=by
  refine⟨fun x hx=>?_,by simp[qav],fun x hx=>?_,by simp,fun j hj=>?_⟩
  ·obtain rfl:x=(t0,-1):=by simpa using hx
   exact h0
  ·obtain rfl:x=(t0,-1):=by simpa using hx
   simpa using hb
  ·obtain rfl:j=0:=by simpa using hj
   exact .inl ⟨rfl,rfl⟩
 have hrl : ∀ t∈l,0<=t/\t<=24:=fun t ht=>hr t (by simp[ht])
 refine qap (E:=Tryz.env 1) Tryz.tok (σ:=Nat×Nat×List (Int×Int)) (fun s=>[(0,.ptr 0 0),(2,.d (dI u)),(8,.sl 1 s.2.1 2 0 s.2.2.length),(29,.d (dIs l)),(30,.d (dI l.length)),(31,.d (dI s.1))])
  (fun s=>[.box (bx (qcf busy)),.row s.2.1 2 true (s.2.2.map fun x=>dP x)]) (fun s=>s.1<=l.length/\TreeOk (busy.getD u []) s.2.2/\(l.take s.1).foldl (fun o t=>o.bind fun hops=>qaN (busy.getD u []) hops t) (some [(t0,-1)])=some s.2.2) (fun s=>l.length-s.1) [] [] 1000 1000 ?_ ?_
 ·simp only[go_sem,seval];exact⟨(0,0,[(t0,-1)]),⟨by simp,base,by simp⟩,by simp⟩
 ·rintro⟨i,g,hops⟩ ⟨hi,ht,hf⟩;simp only at hi ht hf;have hhl:=qdt ht;by_cases hlt:i<l.length
  ·have hfs:=qaC (f:=fun(o:Option (List (Int×Int))) (t:Int)=>o.bind fun hops=>qaN (busy.getD u []) hops t) (b:=some [(t0,-1)]) (0:Int) hlt;rw[hf,ybe] at hfs;have htr:=hrl _ (qal hlt:l.getD i 0∈l);generalize hx9:l.getD i 0=x at *
   have hpa:=Tryz.c_path g busy hops x u hu ht htr;have hdrop:l.foldl (fun o t=>o.bind fun hops=>qaN (busy.getD u []) hops t) (some [(t0,-1)])=(l.drop (i+1)).foldl (fun o t=>o.bind fun hops=>qaN (busy.getD u []) hops t) (qaN (busy.getD u []) hops x):=by
    conv=>lhs;rw[<-ybl (i+1) l]
    rw[yaO,hfs]
   simp only[go_sem,seval,hx9]
   repeat' first|assumption|(simp (disch:=first|assumption|omega|(simp;done)|(simp;omega)) only[qaa,qac,yaa,qab,qaM,qae,qaf,qah,qai,qar];try simp only[go_sem,seval,hx9])|(with_reducible first|refine And.intro ?_ ?_|intro _)|((with_reducible (show Region.lexB _ _=true));kernel_rfl)|((try rw[qad]);omega)
   refine qaB hpa [0,1] (by simp only[go_sem,seval]) ?_;rintro r0 H1 ⟨rfl,rfl⟩;cases hex:qaN (busy.getD u []) hops x with
   | none=>
    rw[hex,qgs] at hdrop;rw[hdrop];simp only[go_sem,seval]
    repeat' first|assumption|(simp (disch:=first|assumption|omega|(simp;done)|(simp;omega)) only[qaa,qac,yaa,qab,qaM,qae,qaf,qah,qai,qar];try simp only[go_sem,seval])|(with_reducible first|refine And.intro ?_ ?_|intro _)|((with_reducible (show Region.lexB _ _=true));kernel_rfl)|((try rw[qad]);omega)
    refine qcu (r0:=.tup [.d .nil,.d (dB false)]) (H1:=[.box (bx (qcf busy))]) ?_ ⟨rfl,rfl⟩;simp only[go_sem,seval]
   | some h2=>
    obtain⟨a1,a2,r1,a3⟩:=qgq ht htr hex;have hl2:=qdt a1;rw[hex] at hfs;subst a3;simp only[go_sem,seval,yau,List.drop_left]
    repeat' first|assumption|(simp (disch:=first|assumption|omega|(simp;done)|(simp;omega)) only[qaa,qac,yaa,qab,qaM,qae,qaf,qah,qai,qar];try simp only[go_sem,seval,yau,List.drop_left])|(with_reducible first|refine And.intro ?_ ?_|intro _)|((with_reducible (show Region.lexB _ _=true));kernel_rfl)|((try rw[qad]);omega)
    ·have hll:(hops++r1).length=hops.length+r1.length:=yag ..;omega
    ·refine⟨(i+1,g+1,hops++r1),⟨by simp only;omega,a1,hfs⟩,by simp only;omega,⟨⟨rfl,by simp⟩,rfl⟩,rfl,rfl⟩
  ·obtain rfl:i=l.length:=by omega
   rw[yav] at hf;rw[hf];simp only[go_sem,seval]
   repeat' first|assumption|(simp (disch:=first|assumption|omega|(simp;done)|(simp;omega)) only[qaa,qac,yaa,qab,qaM,qae,qaf,qah,qai,qar];try simp only[go_sem,seval])|(with_reducible first|refine And.intro ?_ ?_|intro _)|((with_reducible (show Region.lexB _ _=true));kernel_rfl)|((try rw[qad]);omega)
   exact qci ⟨_,rfl,rfl⟩

theorem qlq {α β : Type}{f : β->α->Option β} : ∀ (l:List α),l.foldl (fun o t=>o.bind fun h=>f h t) (none:Option β)=none
 | []=>rfl
 | x::l=>qlq l
theorem Tryz.c_l8Tree (g:Nat) (pins:List Int) (busy:List Bool) (hb:busy.length=25) (hp : ∀ t∈pins,0<=t/\t<=24) (hne:pins≠[]) (hpl:pins.length<=1000) :
  ICall Tryz.prog 195 [.d (dIs pins),.sl 0 g 1 0 25] [.row g 1 true (busy.map D.bool)] (fun r H'=>r=.d (.tup [dPs ((qeF busy pins).getD []),dB (qeF busy pins).isSome])/\H'=[.row g 1 true (busy.map D.bool)]):=by
 obtain⟨p0,rest,rfl⟩ : ∃ p0 rest,pins=p0::rest:=by
  cases pins with
  | nil=>exact absurd rfl hne
  | cons a l=>exact⟨a,l,rfl⟩
 have hp0:=hp p0 (by simp);have htd:qeF busy (p0::rest)=if busy.getD p0.toNat false=true then none else rest.foldl (fun o t=>o.bind fun hops=>qaN busy hops t) (some [(p0,-1)]):=rfl
 have hg0:(p0::rest).getD 0 0=p0:=rfl;by_cases hbz:busy.getD p0.toNat false=true
 ·rw[if_pos hbz] at htd;rw[htd];refine qaO (E:=Tryz.env 1) Tryz.tok rfl 1000 Tryz.func195 rfl rfl Tryz.ntmps195 (by simp) ?_;simp only[go_sem,seval,hg0,hbz]
  repeat' first|assumption|(simp (disch:=first|assumption|omega|(simp;done)|(simp;omega)) only[qaa,qac,yaa,qab,qae,qaf,qah,qai,qam,qaa];try simp only[go_sem,seval,hg0,hbz])|(with_reducible first|refine And.intro ?_ ?_|intro _)|((try rw[qad]);omega)
  refine qcH (by simp) (by simp only[go_sem,seval]) ?_;simp only[go_sem,seval];rfl
 ·rw[if_neg hbz] at htd;rw[Bool.not_eq_true] at hbz;have base:TreeOk busy [(p0,-1)]:=by
   refine⟨fun x hx=>?_,by simp[qav],fun x hx=>?_,by simp,fun j hj=>?_⟩
   ·obtain rfl:x=(p0,-1):=by simpa using hx
    exact hp0
   ·obtain rfl:x=(p0,-1):=by simpa using hx
    exact hbz
   ·obtain rfl:j=0:=by simpa using hj
    exact .inl ⟨rfl,rfl⟩
  refine qaO (E:=Tryz.env 1) Tryz.tok rfl 1000 Tryz.func195 rfl rfl Tryz.ntmps195 (by simp) ?_;simp only[go_sem,seval,hg0,hbz]
  repeat' first|assumption|(simp (disch:=first|assumption|omega|(simp;done)|(simp;omega)) only[qaa,qac,yaa,qab,qae,qaf,qah,qai,qam,qaa];try simp only[go_sem,seval,hg0,hbz])|(with_reducible first|refine And.intro ?_ ?_|intro _)|((try rw[qad]);omega)
  rw[htd];generalize hP9:p0::rest=P at *
  have hPl:P.length=rest.length+1:=by rw[<-hP9];rfl
  have hPg : ∀ m,P.getD (m+1) 0=rest.getD m 0:=fun m=>by rw[<-hP9];rfl
  refine qap (E:=Tryz.env 1) Tryz.tok (σ:=Nat×List (Int×Int)) (fun s=>[(0,.d (dIs P)),(1,.sl 0 g 1 0 25),(6,.d (dPs s.2)),(7,.d (dI ((s.1+1:Nat):Int)))]) (fun s=>[.row g 1 true (busy.map D.bool)])
   (fun s=>s.1<=rest.length/\TreeOk busy s.2/\(rest.take s.1).foldl (fun o t=>o.bind fun hops=>qaN busy hops t) (some [(p0,-1)])=some s.2) (fun s=>rest.length-s.1) [] [] 1000 1000 ?_ ?_
  ·simp only[go_sem,seval];exact⟨(0,[(p0,-1)]),⟨by simp,base,rfl⟩,by simp⟩
  ·rintro⟨m,hops⟩ ⟨hm,hT,hfo⟩;simp only at hm hT hfo;by_cases hmt:m<rest.length
   ·have hrm:rest.getD m 0∈rest:=qal hmt;have hrr:=hp _ (by rw[<-hP9];exact yak _ hrm);have hpa:=Tryz.c_l8Path g hops (rest.getD m 0) busy hb hT hrr;have hfs:=qaC (f:=fun(o:Option (List (Int×Int))) (t:Int)=>o.bind fun hops=>qaN busy hops t) (b:=some [(p0,-1)]) (0:Int) hmt;rw[hfo] at hfs;simp only[ybe] at hfs;have hex:=@qgq busy hops hT (rest.getD m 0) hrr;have hsplit:rest.foldl (fun o t=>o.bind fun hops=>qaN busy hops t) (some [(p0,-1)])=(rest.drop (m+1)).foldl (fun o t=>o.bind fun hops=>qaN busy hops t) ((rest.take (m+1)).foldl (fun o t=>o.bind fun hops=>qaN busy hops t) (some [(p0,-1)])):=by
     rw[<-yaO,ybl]
    have hPm:=hPg m;generalize rest.getD m 0=x at *
    cases he:qaN busy hops x with
    | none=>
     rw[he] at hpa hfs;rw[hsplit,hfs,qlq];simp only[go_sem,seval,hPm,hPl]
     repeat' first|assumption|(simp (disch:=first|assumption|omega|(simp;done)|(simp;omega)) only[qaa,qac,yaa,qab,qae,qaf,qah,qai,qam,qaa];try simp only[go_sem,seval,hPm,hPl])|(with_reducible first|refine And.intro ?_ ?_|intro _)|((try rw[qad]);omega)
     refine qaB hpa [0] (by simp only[go_sem,seval]) ?_;rintro r0 H1 ⟨rfl,rfl⟩;simp only[go_sem,seval,hPm,hPl]
     repeat' first|assumption|(simp (disch:=first|assumption|omega|(simp;done)|(simp;omega)) only[qaa,qac,yaa,qab,qae,qaf,qah,qai,qam,qaa];try simp only[go_sem,seval,hPm,hPl])|(with_reducible first|refine And.intro ?_ ?_|intro _)|((try rw[qad]);omega)
     refine qcH (by simp) (by simp only[go_sem,seval]) ?_;simp only[go_sem,seval];rfl
    | some h2=>
     rw[he] at hpa hfs;obtain⟨q1,-,-⟩:=hex he;simp only[go_sem,seval,hPm,hPl]
     repeat' first|assumption|(simp (disch:=first|assumption|omega|(simp;done)|(simp;omega)) only[qaa,qac,yaa,qab,qae,qaf,qah,qai,qam,qaa];try simp only[go_sem,seval,hPm,hPl])|(with_reducible first|refine And.intro ?_ ?_|intro _)|((try rw[qad]);omega)
     refine qaB hpa [0] (by simp only[go_sem,seval]) ?_;rintro r0 H1 ⟨rfl,rfl⟩;simp only[go_sem,seval,hPm,hPl]
     repeat' first|assumption|(simp (disch:=first|assumption|omega|(simp;done)|(simp;omega)) only[qaa,qac,yaa,qab,qae,qaf,qah,qai,qam,qaa];try simp only[go_sem,seval,hPm,hPl])|(with_reducible first|refine And.intro ?_ ?_|intro _)|((try rw[qad]);omega)
     exact⟨(m+1,h2),⟨by simp only;omega,q1,hfs⟩,by simp only;omega,rfl,rfl⟩
   ·rw[show rest.take m=rest from yaa (by omega)] at hfo;rw[hfo];simp only[go_sem,seval,hPl]
    repeat' first|assumption|(simp (disch:=first|assumption|omega|(simp;done)|(simp;omega)) only[qaa,qac,yaa,qab,qae,qaf,qah,qai,qam,qaa];try simp only[go_sem,seval,hPl])|(with_reducible first|refine And.intro ?_ ?_|intro _)|((try rw[qad]);omega)
    refine qcH (by simp) (by simp only[go_sem,seval]) ?_;simp only[go_sem,seval]
def netR (net:Int):Option (Nat×List (Int×Int))->D
 | some (t,h)=>dRt ⟨net,(t:Int),h⟩
 | none=>.agg [dI 0,dI 0,.nil]
theorem set_self {α : Type}{l:List α}{i:Nat}{z : α}(h:i<l.length):l.set i (l.getD i z)=l:=by
 refine ybo (by simp) fun j h1 h2=>?_
 rw[List.getElem_set];split
 ·rename_i e;subst e;simp[List.getD,h]
 ·rfl
theorem Tryz.c_l8Net (g:Nat) (net:Int) (pins:List Int) (busy:List (List Bool)) (hb:BusyOk busy) (hp : ∀ t∈pins,0<=t/\t<=24) (hne:pins≠[]) (hpl:pins.length<=1000) :
  ICall Tryz.prog 141 [.d (dI net),.d (dIs pins),.sl 0 g 1 0 8] [.row g 1 true (busy.map fun x=>dBs x)] (fun r H'=>r=.d (.tup [netR net (netB pins busy 8 0),dB (netB pins busy 8 0).isSome])/\H'=[.row g 1 true (busy.map fun x=>dBs x)]):=by
 have hl:=hb.len;refine qaO (E:=Tryz.env 1) Tryz.tok rfl 1000 Tryz.func141 rfl rfl Tryz.ntmps141 (by simp) ?_;simp only[go_sem,seval]
 repeat' first|assumption|(simp (disch:=first|assumption|omega|(simp;done)|(simp;omega)) only[qaa,qac,yaa,qab,qae,qaf,qah,qai,qam,qaa];try simp only[go_sem,seval])|(with_reducible first|refine And.intro ?_ ?_|intro _)|((try rw[qad]);omega)
 refine qap (E:=Tryz.env 1) Tryz.tok (σ:=Nat) (fun t=>[(0,.d (dI net)),(1,.d (dIs pins)),(2,.sl 0 g 1 0 8),(6,.ptr 1 0),(7,.d (dB false)),(8,.d (dI t))]) (fun s=>[.row g 1 true (busy.map fun x=>dBs x),.box [.d (dI 0),.d (dI 0),.d .nil]]) (fun t=>t<=8/\netB pins busy (8-t) t=netB pins busy 8 0) (fun t=>8-t) [] [] 1000 1000 ?_ ?_
 ·simp only[go_sem,seval];exact⟨0,⟨by omega,rfl⟩,rfl⟩
 ·rintro t ⟨ht,hn⟩;by_cases htt:t<8
  ·have hrl:=hb.row t htt;have htr:=Tryz.c_l8Tree 1 pins (busy.getD t []) (hb.row t htt) hp hne hpl;have hst:netB pins busy (8-t) t=match qeF (busy.getD t []) pins with|some h=>some (t,h)|none=>netB pins busy (8-(t+1)) (t+1):=by
    rw[show 8-t=(8-(t+1))+1 by omega];rfl
   rw[hn] at hst;cases he:qeF (busy.getD t []) pins with
   | none=>
    rw[he] at hst htr;simp only at hst;simp only[go_sem,seval]
    repeat' first|assumption|(simp (disch:=first|assumption|omega|(simp;done)|(simp;omega)) only[qaa,qac,yaa,qab,qae,qaf,qah,qai,qam,qaa];try simp only[go_sem,seval,hrl])|(with_reducible first|refine And.intro ?_ ?_|intro _)|((try rw[qad]);omega)
    refine qaB htr [2] (by simp only[go_sem,seval]) ?_;rintro r0 H1 ⟨rfl,rfl⟩;simp only[go_sem,seval,hrl]
    repeat' first|assumption|(simp (disch:=first|assumption|omega|(simp;done)|(simp;omega)) only[qaa,qac,yaa,qab,qae,qaf,qah,qai,qam,qaa];try simp only[go_sem,seval,hrl])|(with_reducible first|refine And.intro ?_ ?_|intro _)|((try rw[qad]);omega)
    refine⟨t+1,⟨by omega,hst.symm⟩,by omega,rfl,?_⟩;exact(qf9 (f:=fun x=>dBs x)).trans (by rw[set_self (by omega)])
   | some h=>
    rw[he] at hst htr;simp only at hst;rw[hst];simp only[go_sem,seval]
    repeat' first|assumption|(simp (disch:=first|assumption|omega|(simp;done)|(simp;omega)) only[qaa,qac,yaa,qab,qae,qaf,qah,qai,qam,qaa];try simp only[go_sem,seval,hrl])|(with_reducible first|refine And.intro ?_ ?_|intro _)|((try rw[qad]);omega)
    refine qaB htr [2] (by simp only[go_sem,seval]) ?_;rintro r0 H1 ⟨rfl,rfl⟩;simp only[go_sem,seval,hrl]
    repeat' first|assumption|(simp (disch:=first|assumption|omega|(simp;done)|(simp;omega)) only[qaa,qac,yaa,qab,qae,qaf,qah,qai,qam,qaa];try simp only[go_sem,seval,hrl])|(with_reducible first|refine And.intro ?_ ?_|intro _)|((try rw[qad]);omega)
    have hpc:putC 1 (busy.map fun x=>dBs x) t 0 (D.lst 1 ((busy.getD t []).map D.bool))=busy.map fun x=>dBs x:=(qf9 (f:=fun x=>dBs x)).trans (by rw[set_self (by omega)])
    have htk:List.take 25 ((busy.getD t []).map D.bool)=(busy.getD t []).map D.bool:=yaa (by rw[yaw];omega);refine qo2 ?_;simp only[go_sem,seval,hpc,htk];refine⟨by omega,?_⟩;refine qcH (by simp) (by simp only[go_sem,seval]) ?_;simp only[go_sem,seval];rfl
  ·obtain rfl:t=8:=by omega
   have e:netB pins busy 8 0=none:=hn.symm;rw[e];simp only[go_sem,seval]
   repeat' first|assumption|(simp (disch:=first|assumption|omega|(simp;done)|(simp;omega)) only[qaa,qac,yaa,qab,qae,qaf,qah,qai,qam,qaa];try simp only[go_sem,seval])|(with_reducible first|refine And.intro ?_ ?_|intro _)|((try rw[qad]);omega)
   refine qcH (by simp) (by simp only[go_sem,seval]) ?_;simp only[go_sem,seval];rfl

theorem qlr {c:Circ}{cells:List Cel}{place:List Int}{busy0:List (List Bool)} : ∀ {k n:Nat},k<=n->qcQ c cells place busy0 k=none->qcQ c cells place busy0 n=none
 | k,0,h,e=>by
           obtain rfl:k=0:=by omega
           exact e
 | k,n+1,h,e=>by
  by_cases hk:k<=n
  ·rw[qcQ,qlr hk e]
  ·obtain rfl:k=n+1:=by omega
   exact e
theorem qmp {c:Circ}{cells:List Cel}{place:List Int}{busy0 busy:List (List Bool)}{out:List Rt}{k:Nat}(h:qcQ c cells place busy0 k=some (busy,out)) :
  qcQ c cells place busy0 (k+1)=if qdr c cells place ((k:Int)+1)=[] then some (busy,out) else match netB (qdr c cells place ((k:Int)+1)) busy 8 0 with
   | none=>none
   | some (t,hs)=>some (takeB busy t hs,out ++ [⟨(k:Int)+1,(t:Int),hs⟩]):=by
 rw[qcQ,h];rfl
theorem qnP {cells:List Cel}(hci : ∀ x∈cells,x.inputs.length<=3) (net:Int) : ∀ n,n<=cells.length->(qbc cells net n).length<=3*n:=by
 intro n;induction n with
 | zero=>intro _;simp[qbc]
 | succ n ih=>
  intro h;have h1:=ih (by omega);have h2:=hci _ (qal (by omega):cells.getD n ce0∈cells);have h3:(qe8 (cells.getD n ce0) net n).length<=(cells.getD n ce0).inputs.length:=by
   simp only[qe8,yaw];exact List.length_filter_le _ _
  rw[qbc,yag];omega
theorem qls : ∀ (l out:List Int),(l.foldl addU out).length<=out.length+l.length
 | [],out=>by simp
 | x::l,out=>by
  have h1:=qls l (addU out x);have h2:(addU out x).length<=out.length+1:=by unfold addU;split <;> simp
  rw[yam,yae];omega
theorem qg7 {c:Circ}{net:Int} : ∀ o,(qa3 c net o).length<=o
 | 0=>by simp[qa3]
 | o+1=>by
  have:=qg7 (c:=c) (net:=net) o;rw[qa3,yag];split <;> simp <;> omega
theorem qhr {cells:List Cel}{place:List Int}{net:Int} : ∀ i,(qbg cells place net i).length<=i
 | 0=>by simp[qbg]
 | i+1=>by
  have:=qhr (cells:=cells) (place:=place) (net:=net) i;rw[qbg,yag];split <;> simp <;> omega
theorem qpt {c:Circ}(hc:c.Valid) {cells:List Cel}(hcl:cells.length<=25) (hci : ∀ x∈cells,x.inputs.length<=3) {place:List Int}{net:Int}:(qdr c cells place net).length<=1000:=by
 have hlo:=hc.lo;unfold qdr;split
 ·simp
 ·have h1:=qls (qaA c cells place net) (qgZ c net++qbg cells place net cells.length);have h2:=qnP hci net cells.length (yad _);have h3:=qg7 (c:=c) (net:=net) c.outs.length;have h4:=qhr (cells:=cells) (place:=place) (net:=net) cells.length;have h5:(qgZ c net).length<=1:=by unfold qgZ;split <;> simp
  have h6:(qaA c cells place net).length=(qbc cells net cells.length).length+(qa3 c net c.outs.length).length:=by simp[qaA,qdi]
  rw[yag] at h1;omega
theorem qjG {busy:List (List Bool)}{t:Nat}(ht:t<busy.length) {hs:List (Int×Int)}{i:Nat}(hi:i<hs.length) :
  takeB busy t (hs.take (i+1))=(takeB busy t (hs.take i)).set t (((takeB busy t (hs.take i)).getD t []).set (hs.getD i (0,0)).1.toNat true):=by
 have e:qgo (busy.getD t []) (hs.take (i+1))=(qgo (busy.getD t []) (hs.take i)).set (hs.getD i (0,0)).1.toNat true:=qaC (f:=fun(b:List Bool) (h:Int×Int)=>b.set h.1.toNat true) (b:=busy.getD t []) ((0,0):Int×Int) hi;unfold takeB;rw[e,List.set_set];congr 1;simp[List.getD,ht]
end Go.Proofs

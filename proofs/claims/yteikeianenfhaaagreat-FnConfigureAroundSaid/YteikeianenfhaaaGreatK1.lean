/- Contracts, plain definitions and lemmas. Conditions: none; lemmas. -/
import Derived.Test.YteikeianenfhaaaGreatD8
import Derived.Test.YteikeianenfhaaaGreatF3
set_option maxRecDepth 20000
set_option linter.unusedVariables false
set_option linter.unusedSimpArgs false
set_option maxHeartbeats 2000000
namespace Go.Proofs
set_option linter.defProp false
open Go Go.VL Tryz
def qjr (list:List (Int×Int)):Prop:=list.length<=12/\∀ d∈list,(0<=d.1/\d.1<=24)/\0<=d.2/\d.2<=7
def qcg (list:List (Int×Int)):List (List Bool):=list.foldl (fun b d=>b.set d.2.toNat ((b.getD d.2.toNat []).set d.1.toNat true)) qiV
def qgd (o:Option (List Rt)):D:=match o with
 | none=>.tup [.nil,dB false]
 | some rs=>.tup [dRts rs,dB true]
noncomputable def qdA (c:Circ) (place:List Int) (list:List (Int×Int)):Option (List Rt):=by
 classical exact if(c.Valid/\PlaceOk (qae c).length place)/\qjr list then qcy c (qae c) place (qcg list) else none
def Tryz.def_iff (list:List (Int×Int)):defectsValid list=true↔qjr list:=by
 simp only[defectsValid,defectOk,qjr,yap,decide_eq_true_eq,yaJ]
def qjh (list:List (Int×Int)):(qcg list).length=8:=by
 have key : ∀ (l:List (Int×Int)) (b:List (List Bool)),(l.foldl (fun b d=>b.set d.2.toNat ((b.getD d.2.toNat []).set d.1.toNat true)) b).length=b.length:=by
  intro l;induction l with
  | nil=>exact fun b=>rfl
  | cons d l ih=>intro b;rw[yao,ih,yas]
 rw[qcg,key];rfl
def qji (list:List (Int×Int)) : ∀ u,u<8->((qcg list).getD u []).length=25:=by
 have key : ∀ (l:List (Int×Int)) (b:List (List Bool)),b.length=8->(∀ u,u<8->(b.getD u []).length=25)->∀ u,u<8->((l.foldl (fun b d=>b.set d.2.toNat ((b.getD d.2.toNat []).set d.1.toNat true)) b).getD u []).length=25:=by
  intro l;induction l with
  | nil=>exact fun b _ h=>h
  | cons d l ih=>
   intro b hb h;refine ih _ (by rw[yas];exact hb) fun u hu=>?_
   by_cases e:d.2.toNat=u
   ·subst e;have:(b.set d.2.toNat ((b.getD d.2.toNat []).set d.1.toNat true)).getD d.2.toNat []=(b.getD d.2.toNat []).set d.1.toNat true:=by simp[List.getD,show d.2.toNat<b.length by omega]
    rw[this,yas];exact h _ hu
   ·have:(b.set d.2.toNat ((b.getD d.2.toNat []).set d.1.toNat true)).getD u []=b.getD u []:=by simp[List.getD,List.getElem?_set,e]
    rw[this];exact h u hu
 exact key list qiV rfl free0_ok.row
def qfF (list:List (Int×Int)):BusyOk (qcg list):=⟨qjh list,qji list⟩
def qj7 {list:List (Int×Int)}{i:Nat}(hi:i<list.length):qcg (list.take (i+1))=(qcg (list.take i)).set (list.getD i (0,0)).2.toNat (((qcg (list.take i)).getD (list.getD i (0,0)).2.toNat []).set (list.getD i (0,0)).1.toNat true):=
 qaA (f:=fun(b:List (List Bool)) (d:Int×Int)=>b.set d.2.toNat ((b.getD d.2.toNat []).set d.1.toNat true)) (b:=qiV) ((0,0):Int×Int) hi
def qqq:qcb qiV=List.replicate 200 false:=by decide +kernel
def bx_free:bx (qcb qiV)=List.replicate 200 (I.d (.bool false)):=by rw[bx,qqq,List.map_replicate]
def qqr {c:Circ}{place:List Int} : ∀ k:Nat,(k:Int)<c.vars->∀ n∈qdU c (qae c) k,∃ v:Int,1<=v/\v<c.vars/\n=ninC c (qae c) v/\qay c (qae c) place v≠[]
 | 0,_,n,h=>by simp[qdU] at h
 | k+1,hk,n,h=>by
  rw[qdU] at h;rcases List.mem_append.1 h with h1|h1
  ·exact qqr k (by omega) n h1
  ·split at h1
   ·rename_i h2;refine⟨(k:Int)+1,by omega,by omega,by simpa using h1,fun h3=>qcO.1 h3 h2⟩
   ·simp at h1
def qnK {cells:List Cel}{v:Int} : ∀ n:Nat,qdl cells v n<n/\-1<=qdl cells v n
 | 0=>by simp[qdl]
 | n+1=>by
  have:=qnK (cells:=cells) (v:=v) n;rw[qdl];split <;> omega
def ql2 {c:Circ}(hc:c.Valid) {place:List Int}(hp:PlaceOk (qae c).length place) : ∀ n∈qhm c (qae c),(∀ i∈n.sinks,0<=i/\i<place.length)/\n.cell<place.length/\n.sinks.length<=400/\n.pads.length<=400/\∀ t∈qa7 n place,0<=t/\t<=24:=by
 intro n hn;have hf:=hc.first_bd;have hv:=hc.vars_bd;have hcl:=qby hc;have hlo:=hc.lo;have hpl:=hp.len;obtain⟨v,h1,h2,rfl,h3⟩:=qqr (place:=place) (c.vars.toNat-1) (by omega) n hn;refine⟨fun i hi=>?_,?_,?_,?_,qjX hc hp h1 h2 h3⟩
 ·obtain⟨j,hj,-,rfl⟩:=qes.1 (show i∈qba (qae c) v (qae c).length from hi);omega
 ·have:=(qnK (cells:=qae c) (v:=v) (qae c).length).1;show qdl (qae c) v (qae c).length<_
  omega
 ·have:=qd4 (fun x hx=>(qdk hc x hx).2.1) v (qae c).length (yad _);show(qba (qae c) v (qae c).length).length<=400
  omega
 ·have:=qhj (c:=c) (net:=v) c.outs.length;show(qa3 c v c.outs.length).length<=400
  omega
def Tryz.c_RouteAround (c:Circ) (place:List Int) (list:List (Int×Int)):Pure prog 70 [dC c,dIs place,dPs list] (qgd (qdA c place list)):=by
 have hpv:=c_PlacementValid c place;have hdv:=c_DefectsValid list;by_cases hv:c.Valid/\PlaceOk (qae c).length place
 ·rw[decide_eq_true hv] at hpv;by_cases hd:qjr list
  ·rw[(def_iff list).2 hd] at hdv;have hra:qdA c place list=qcy c (qae c) place (qcg list):=by
    classical
    rw[qdA,if_pos ⟨hv,hd⟩]
   have hnn:=qoq hv.1 hv.2 (qcg list);rw[hra,hnn];have hno:=c_netsOf c hv.1;refine qax func70 rfl ntmps70 fun ok=>?_
   simp only[go_sem,seval,-List.reduceReplicate] at ok
   repeat' first|assumption|(simp (disch:=first|assumption|omega|(simp;done)|(simp;omega)) only[go_sem,seval,-List.reduceReplicate,yaa,qaU])|(with_reducible first|apply And.intro|intro _)|(refine qac hpv ?_)|(refine qaN (fun _=>hdv) ?_)|((try rw[qaa]);omega)
   refine qaf (E:=env 0) tok (σ:=Nat) (fun i=>[(1,.d (dIs place)),(3,.ptr 0 0),(8,.ptr 1 0),(27,.d (dPs list)),(28,.d (dI list.length)),(29,.d (dI i))])
    (fun i=>[.box [.d (dI c.inputs),.d (dIs c.next),.d (dPs c.gates),.d (dIs c.outs)],.box (bx (qcb (qcg (list.take i))))]) (fun i=>i<=list.length) (fun i=>list.length-i) [] [] 1000 1000 ?_ ?_
   ·simp only[go_sem,seval,-List.reduceReplicate];refine⟨0,by omega,?_⟩;rw[show qcg (list.take 0)=qiV from rfl,bx_free];simp only[go_sem,seval]
   ·intro i hi;have hbl:=qjh (list.take i);have hbr:=qji (list.take i);by_cases hit:i<list.length
    ·have hstp:=qj7 hit;have hr:=hd.2 _ (qad hit:list.getD i (0,0)∈list);generalize qcg (list.take i)=T at *
     generalize hh9:list.getD i (0,0)=hh at *
     have hbr2:=hbr hh.2.toNat (by omega);have hset:=qte (l:=qcb T) (k:=hh.1.toNat*8+hh.2.toNat) (b:=true);rw[qlM (by omega) (by omega) (by omega) (by omega),<-hstp] at hset
     repeat' first|assumption|(simp (disch:=first|assumption|omega|(simp;done)|(simp;omega)) only[go_sem,seval,-List.reduceReplicate,hh9,yaR,qbt,hset,yaa,qaU])|(with_reducible first|apply And.intro|intro _)|((try rw[qaa]);omega)
     refine qaL (n:=0) [9] (fsts [0,1,3,5,6,2,7,4,8] (.one 9 .done)) ?_
     repeat' first|assumption|(simp (disch:=first|assumption|omega|(simp;done)|(simp;omega)) only[go_sem,seval,-List.reduceReplicate,hh9,yaR,qbt,hset,yaa,qaU])|(with_reducible first|apply And.intro|intro _)|((try rw[qaa]);omega)
     refine⟨i+1,by omega,by omega,rfl,?_⟩;simp only[go_sem,seval,-List.reduceReplicate]
    ·rw[show list.take i=list from yaa (by omega)]
     repeat' first|assumption|(simp (disch:=first|assumption|omega|(simp;done)|(simp;omega)) only[go_sem,seval,-List.reduceReplicate,yaa,qaU])|(with_reducible first|apply And.intro|intro _)|((try rw[qaa]);omega)
     refine qan hno [0] (by simp only[go_sem,seval,-List.reduceReplicate]) ?_;rintro r0 H1 ⟨rfl,rfl⟩
     repeat' first|assumption|(simp (disch:=first|assumption|omega|(simp;done)|(simp;omega)) only[go_sem,seval,-List.reduceReplicate,yaa,qaU])|(with_reducible first|apply And.intro|intro _)|((try rw[qaa]);omega)
     have hnf:=ql2 hv.1 hv.2;have hNl:(qhm c (qae c)).length<=1000:=by
      have:=qgR c (qae c) (c.vars.toNat-1);have:=hv.1.vars_bd;show(qdU c (qae c) (c.vars.toNat-1)).length<=1000
      omega
     have hpl:place.length<=1000:=by rw[hv.2.len];have:=qby hv.1;omega
     clear hno hnn hra;generalize qhm c (qae c)=N at *
     refine qaf (E:=env 0) tok (σ:=Nat×List (List Bool)×List Rt) (fun s=>[(1,.d (dIs place)),(8,.ptr 1 0),(11,.sl 2 s.2.2.length 3 0 s.2.2.length),(43,.d (dNis N)),(44,.d (dI N.length)),(45,.d (dI s.1))])
      (fun s=>[.dead 0,.box (bx (qcb s.2.1)),.row s.2.2.length 3 true (s.2.2.map fun x=>dRt x)]) (fun s=>s.1<=N.length/\(N.take s.1).foldl (qi1 place) (some (qcg list,[]))=some (s.2.1,s.2.2)/\BusyOk s.2.1/\s.2.2.length<=s.1/\∀ x∈s.2.2,x.hops.length<=25) (fun s=>N.length-s.1) [] [(11,3,true)] 1000 1000 ?_ ?_
     ·simp only[go_sem,seval,-List.reduceReplicate];refine⟨(0,qcg list,[]),⟨by simp,by simp,qfF list,by simp,by simp⟩,?_⟩;simp only[go_sem,seval,-List.reduceReplicate]
     ·rintro⟨k,busy,out⟩ ⟨hk,hfo,hbo,hol,hoh⟩;simp only at hk hfo hbo hol hoh;by_cases hlt:k<N.length
      ·have hfs:=qaA (f:=qi1 place) (b:=some (qcg list,[])) nin0 hlt;obtain⟨q1,q2,q3,q4,q5⟩:=hnf _ (qad hlt:N.getD k nin0∈N);have hdrop:N.foldl (qi1 place) (some (qcg list,[]))=(N.drop (k+1)).foldl (qi1 place) ((N.take (k+1)).foldl (qi1 place) (some (qcg list,[]))):=by
        conv=>lhs;rw[<-List.take_append_drop (k+1) N]
        rw[yaM]
       rw[hfo] at hfs;generalize hx9:N.getD k nin0=n at *
       have hrt:=c_route busy hbo n place q1 q2 q3 q4 hpl q5
       repeat' first|assumption|(simp (disch:=first|assumption|omega|(simp;done)|(simp;omega)) only[go_sem,seval,-List.reduceReplicate,hx9,yaa,qaU])|(with_reducible first|apply And.intro|intro _)|((try rw[qaa]);omega)
       refine qan hrt [1] (by simp only[go_sem,seval,-List.reduceReplicate]) ?_;rw[qi1,ybk] at hfs;simp only at hfs;cases hne:netB (qa7 n place) busy 8 0 with
       | none=>
        rw[hne] at hfs;simp only at hfs;rw[hfs,qi2] at hdrop;rw[hdrop];rintro r0 H1 ⟨rfl,rfl⟩
        repeat' first|assumption|(simp (disch:=first|assumption|omega|(simp;done)|(simp;omega)) only[go_sem,seval,-List.reduceReplicate,yaa,qaU])|(with_reducible first|apply And.intro|intro _)|((try rw[qaa]);omega)
        simp only[qgd,yai,go_sem]
       | some q=>
        obtain⟨t,h⟩:=q;rw[hne] at hfs;simp only at hfs;obtain⟨-,ht8,htr,-⟩:=qkG 8 0 hne;obtain⟨hT,-,-⟩:=qh0 q5 (by simp[qa7]) htr;have hhl:=qdz hT;rintro r0 H1 ⟨g,rfl,rfl⟩
        repeat' first|assumption|(simp (disch:=first|assumption|omega|(simp;done)|(simp;omega)) only[go_sem,seval,-List.reduceReplicate,yaa,qaU])|(with_reducible first|apply And.intro|intro _)|((try rw[qaa]);omega)
        refine⟨(k+1,takeB busy t h,out ++ [⟨n.net,(t:Int),h⟩]),⟨by simp only;omega,hfs,qh1 hbo (by omega),by simp;omega,fun x hx=>?_⟩,by simp only;omega,?_⟩
        ·rcases List.mem_append.1 hx with h1|h1
         ·exact hoh x h1
         ·obtain rfl:x=⟨n.net,(t:Int),h⟩:=by simpa using h1
          exact hhl
        ·simp only[go_sem,seval,-List.reduceReplicate];simp
      ·obtain rfl:k=N.length:=by omega
       rw[yaA] at hfo;rw[hfo]
       repeat' first|assumption|(simp (disch:=first|assumption|omega|(simp;done)|(simp;omega)) only[go_sem,seval,-List.reduceReplicate,yaa,qaU])|(with_reducible first|apply And.intro|intro _)|((try rw[qaa]);omega)
       simp only[qgd,yak,go_sem]
  ·have hra:qdA c place list=none:=by
    classical
    rw[qdA,if_neg (fun h=>hd h.2)]
   rw[hra];rw[show defectsValid list=false from Bool.eq_false_iff.2 (fun h=>hd ((def_iff list).1 h))] at hdv;refine qax func70 rfl ntmps70 fun ok=>?_
   simp only[go_sem,seval,-List.reduceReplicate] at ok
   repeat' first|assumption|(simp (disch:=first|assumption|omega|(simp;done)|(simp;omega)) only[go_sem,seval,-List.reduceReplicate,yaa,qaU])|(with_reducible first|apply And.intro|intro _)|(refine qac hpv ?_)|(refine qaN (fun _=>hdv) ?_)|((try rw[qaa]);omega)
   simp only[qgd,go_sem]
 ·have hra:qdA c place list=none:=by
   classical
   rw[qdA,if_neg (fun h=>hv h.1)]
  rw[decide_eq_false hv] at hpv;rw[hra];refine qax func70 rfl ntmps70 fun ok=>?_
  simp only[go_sem,seval,-List.reduceReplicate] at ok
  repeat' first|assumption|(simp (disch:=first|assumption|omega|(simp;done)|(simp;omega)) only[go_sem,seval,-List.reduceReplicate,yaa,qaU])|(with_reducible first|apply And.intro|intro _)|(refine qac hpv ?_)|(refine qaN (fun _=>hdv) ?_)|((try rw[qaa]);omega)
  simp only[qgd,go_sem]
end Go.Proofs

set_option linter.unusedVariables false
set_option linter.unusedSimpArgs false
namespace Go.VL
set_option linter.defProp false
def ql3 : ∀ (l:List Int) (s:Int×Int×Int×Int),((l.foldl boxF s).1<=s.1/\s.2.1<=(l.foldl boxF s).2.1/\(l.foldl boxF s).2.2.1<=s.2.2.1/\s.2.2.2<=(l.foldl boxF s).2.2.2)/\
  ∀ t∈l,((l.foldl boxF s).1<=t/5/\t/5<=(l.foldl boxF s).2.1/\(l.foldl boxF s).2.2.1<=t%5/\t%5<=(l.foldl boxF s).2.2.2)
 | [],s=>⟨⟨Int.le_refl _,Int.le_refl _,Int.le_refl _,Int.le_refl _⟩,fun t h=>by simp at h⟩
 | x::l,s=>by
  obtain⟨h1,h2⟩:=ql3 l (boxF s x);rw[yao];have e1:(boxF s x).1=min s.1 (x/5):=rfl;have e2:(boxF s x).2.1=max s.2.1 (x/5):=rfl;have e3:(boxF s x).2.2.1=min s.2.2.1 (x%5):=rfl;have e4:(boxF s x).2.2.2=max s.2.2.2 (x%5):=rfl;refine⟨by omega,fun t ht=>?_⟩;rcases List.mem_cons.1 ht with rfl|h
  ·omega
  ·exact h2 t h
def qmU : ∀ (l out:List Int),l.foldl boxF (boxC out)=boxC (l.foldl addU out)
 | [],out=>rfl
 | t::l,out=>by
  rw[yao,yao];by_cases hm:t∈out
  ·have e:boxF (boxC out) t=boxC out:=by
    have h:=(ql3 out (5,0,5,0)).2 t hm;have hb:boxC out=out.foldl boxF (5,0,5,0):=rfl;rw[<-hb] at h;unfold boxF;refine Prod.ext ?_ (Prod.ext ?_ (Prod.ext ?_ ?_)) <;> simp only <;> omega
   rw[e,show addU out t=out by unfold addU;rw[if_pos hm]];exact qmU l out
  ·have e:boxF (boxC out) t=boxC (addU out t):=by
    rw[show addU out t=out ++ [t] by unfold addU;rw[if_neg hm]];show boxF (out.foldl boxF (5,0,5,0)) t=(out ++ [t]).foldl boxF (5,0,5,0)
    rw[yaM];rfl
   rw[e];exact qmU l (addU out t)
def qsf (s:Int) (l:List Int):qeP (s::l)=qeP (l.foldl addU [s]):=by
 obtain⟨r,hr⟩:=qeu (l:=l) (out:=[s]);have hb:boxC (s::l)=boxC (l.foldl addU [s]):=by
  rw[<-qmU l [s]];rfl
 unfold qeP;rw[if_neg (by simp),if_neg (by rw[hr];simp),hb]
def sumD (place:List Int) (l:List Nin):Int:=l.foldl (fun s n=>s+qeP (qa7 n place)) 0
def qmV (place:List Int) (l m:List Nin):sumD place (l++m)=m.foldl (fun s n=>s+qeP (qa7 n place)) (sumD place l):=by
 rw[sumD,yaM];rfl
def ql4 {c:Circ}(hc:c.Valid) (place:List Int) : ∀ k:Nat,(k:Int)<c.vars->sumD place (qdU c (qae c) k)=qhg c (qae c) place k
 | 0,_=>rfl
 | k+1,hk=>by
  have ih:=ql4 hc place k (by omega);rw[qdU,qmV,ih,qhg];by_cases hu:qay c (qae c) place ((k:Int)+1)=[]
  ·rw[if_neg (qcO.1 hu),(qi0 hc place (v:=(k:Int)+1) (by omega) (by omega)).2 hu];show qhg c (qae c) place k=qhg c (qae c) place k+qeP []
   rw[show qeP []=0 from rfl];omega
  ·rw[if_pos (Decidable.byContradiction fun h=>hu (qcO.2 h)),qgM hc place (v:=(k:Int)+1) (by omega) (by omega) hu,<-qsf];rfl
def qow {c:Circ}(hc:c.Valid) (place:List Int):sumD place (qhm c (qae c))=qdy c (qae c) place:=by
 have:=hc.first_bd;have:=hc.vars_bd;rw[qhm,ql4 hc place _ (by omega)];rfl
end Go.VL

/- Contracts: the lengths of the nets, and the placement. Conditions: none; lemmas. -/
import Derived.Test.YteikeianenfhaaaGreatK1
set_option maxRecDepth 20000
set_option linter.unusedVariables false
set_option linter.unusedSimpArgs false
set_option maxHeartbeats 2000000
namespace Go.Proofs
set_option linter.defProp false
open Go Go.VL Tryz
@[go_sem] def zqZ {K:List R}{g:Nat}{cs:List I}{y:I}:fit1 K (.fn g cs) y=fitS K (.fn g cs) y:=qiB nofun
def Tryz.c_length (n:Nin) (place:List Int) (hs : ∀ i∈n.sinks,0<=i/\i<place.length) (hk:n.cell<place.length) (hl:n.sinks.length<=400) (hl2:n.pads.length<=400) (hp:place.length<=1000) (hb : ∀ t∈qa7 n place,0<=t/\t<=24):Pure prog 129 [dNi n,dIs place] (dI (qeP (qa7 n place))):=by
 have ht:=c_tiles n place hs hk (by omega) (by omega) hp;have hne:qa7 n place≠[]:=by simp[qa7]
 have hTl:(qa7 n place).length<=1000:=by simp[qa7];omega
 refine qax func129 rfl ntmps129 fun ok=>?_
 simp only[go_sem,seval,-List.reduceReplicate] at ok
 repeat' first|assumption|(simp (disch:=first|assumption|omega|(simp;done)|(simp;omega)) only[go_sem,seval,-List.reduceReplicate,yaa,qab,qaU])|(with_reducible first|apply And.intro|intro _)|(refine qac ht ?_)|((try rw[qaa]);omega)
 generalize qa7 n place=T at *
 refine qaf (E:=env 0) tok (σ:=Nat) (fun i=>[(5,.ptr 1 0),(6,.ptr 2 0),(15,.d (dIs T)),(16,.d (dI T.length)),(17,.d (dI i))])
  (fun i=>[.box [.d (dI n.net),.d (dI n.cell),.d (dI n.tile),.d (dIs n.sinks),.d (dIs n.pads)],.box [.d (dI (boxC (T.take i)).1),.d (dI (boxC (T.take i)).2.2.1)],.box [.d (dI (boxC (T.take i)).2.1),.d (dI (boxC (T.take i)).2.2.2)]]) (fun i=>i<=T.length) (fun i=>T.length-i) [] [] 1000 1000 ?_ ?_
 ·simp only[go_sem,seval,-List.reduceReplicate];exact⟨0,by omega,by simp[boxC]⟩
 ·intro i hi;have hbb:=qmG (tiles:=T.take i) (fun t h=>hb t (yau h));by_cases hlt:i<T.length
  ·have hst:boxC (T.take (i+1))=boxF (boxC (T.take i)) (T.getD i 0):=qaA (f:=boxF) (b:=(5,0,5,0)) (0:Int) hlt;have htb:=hb _ (qad hlt:T.getD i 0∈T);generalize boxC (T.take i)=S at *
   obtain⟨s1,s2,s3,s4⟩:=S;simp only at hbb;generalize hx9:T.getD i 0=t at *
   repeat' first|assumption|(simp (disch:=first|assumption|omega|(simp;done)|(simp;omega)) only[go_sem,seval,-List.reduceReplicate,hx9,yaa,qab,qaU])|(with_reducible first|apply And.intro|intro _)|((try rw[qaa]);omega)
   refine qgt (E:=env 0) tok 4 1000 1000 ?_;refine qa4 ?_
   repeat' first|assumption|(simp (disch:=first|assumption|omega|(simp;done)|(simp;omega)) only[go_sem,seval,-List.reduceReplicate,hx9,yaa,qab,qaU])|(with_reducible first|apply And.intro|intro _)|((try rw[qaa]);omega)
   refine qa4 ?_
   repeat' first|assumption|(simp (disch:=first|assumption|omega|(simp;done)|(simp;omega)) only[go_sem,seval,-List.reduceReplicate,hx9,yaa,qab,qaU])|(with_reducible first|apply And.intro|intro _)|((try rw[qaa]);omega)
   refine qa4 ?_
   repeat' first|assumption|(simp (disch:=first|assumption|omega|(simp;done)|(simp;omega)) only[go_sem,seval,-List.reduceReplicate,hx9,yaa,qab,qaU])|(with_reducible first|apply And.intro|intro _)|((try rw[qaa]);omega)
   refine⟨i+1,by omega,by omega,?_⟩;rw[hst]
   repeat' apply And.intro
   all_goals rfl
  ·obtain rfl:i=T.length:=by omega
   rw[yaA] at hbb ⊢;have hd:qeP T=(boxC T).2.1-(boxC T).1+(boxC T).2.2.2-(boxC T).2.2.1:=if_neg hne;rw[hd]
   repeat' first|assumption|(simp (disch:=first|assumption|omega|(simp;done)|(simp;omega)) only[go_sem,seval,-List.reduceReplicate,yaa,qab,qaU])|(with_reducible first|apply And.intro|intro _)|((try rw[qaa]);omega)
def Tryz.c_Place1 (c:Circ) (hc:c.Valid) (place:List Int) (hp:PlaceOk (qae c).length place):Pure prog 128 [dIs place,.ptr [dNis (qhm c (qae c))]] (dI (qdy c (qae c) place)):=by
 have hnf:=ql2 hc hp;have hNl:(qhm c (qae c)).length<=1000:=by
  have:=qgR c (qae c) (c.vars.toNat-1);have:=hc.vars_bd;show(qdU c (qae c) (c.vars.toNat-1)).length<=1000
  omega
 have hpl:place.length<=1000:=by rw[hp.len];have:=qby hc;omega
 rw[<-qow hc place];generalize qhm c (qae c)=N at *
 refine qax func128 rfl ntmps128 fun ok=>?_
 simp only[go_sem,seval,-List.reduceReplicate] at ok
 repeat' first|assumption|(simp (disch:=first|assumption|omega|(simp;done)|(simp;omega)) only[go_sem,seval,-List.reduceReplicate,yaa,qab,qaU])|(with_reducible first|apply And.intro|intro _)|((try rw[qaa]);omega)
 refine qaf (E:=env 0) tok (σ:=Nat) (fun i=>[(0,.d (dIs place)),(4,.d (dI (sumD place (N.take i)))),(7,.d (dNis N)),(8,.d (dI N.length)),(9,.d (dI i))]) (fun _=>[]) (fun i=>i<=N.length/\-(10*(i:Int))<=sumD place (N.take i)/\sumD place (N.take i)<=10*(i:Int)) (fun i=>N.length-i) [] [] 1000 1000 ?_ ?_
 ·simp only[go_sem,seval,-List.reduceReplicate];exact⟨0,⟨by omega,by simp[sumD],by simp[sumD]⟩,by simp[sumD]⟩
 ·rintro i ⟨hi,hb1,hb2⟩;by_cases hlt:i<N.length
  ·have hst:sumD place (N.take (i+1))=sumD place (N.take i)+qeP (qa7 (N.getD i nin0) place):=qaA (f:=fun s n=>s+qeP (qa7 n place)) (b:=0) nin0 hlt;obtain⟨q1,q2,q3,q4,q5⟩:=hnf _ (qad hlt:N.getD i nin0∈N);have hln:=c_length _ place q1 q2 q3 q4 hpl q5;have hdb:=qkD q5;generalize hx9:N.getD i nin0=n at *
   generalize sumD place (N.take i)=s at *
   generalize qeP (qa7 n place)=d at *
   repeat' first|assumption|(simp (disch:=first|assumption|omega|(simp;done)|(simp;omega)) only[go_sem,seval,-List.reduceReplicate,hx9,yaa,qab,qaU])|(with_reducible first|apply And.intro|intro _)|(refine qac hln ?_)|((try rw[qaa]);omega)
   refine⟨i+1,⟨by omega,by omega,by omega⟩,by omega,?_⟩;rw[hst];exact⟨rfl,rfl⟩
  ·obtain rfl:i=N.length:=by omega
   rw[yaA]
   repeat' first|assumption|(simp (disch:=first|assumption|omega|(simp;done)|(simp;omega)) only[go_sem,seval,-List.reduceReplicate,yaa,qab,qaU])|(with_reducible first|apply And.intro|intro _)|((try rw[qaa]);omega)
def Tryz.c_exchanged (place:List Int) (i:Nat) (tile:Int) (hi:i<place.length) (hl:place.length<=25):Pure prog 130 [dIs place,dI i,dI tile] (dIs (tryP place i tile)):=by
 refine qax func130 rfl ntmps130 fun ok=>?_
 simp only[go_sem,seval,-List.reduceReplicate] at ok
 repeat' first|assumption|(simp (disch:=first|assumption|omega|(simp;done)|(simp;omega)) only[go_sem,seval,-List.reduceReplicate,yaa,qab,qaU])|(with_reducible first|apply And.intro|intro _)|((try rw[qaa]);omega)
 refine qaf (E:=env 0) tok (σ:=Nat×List Int) (fun s=>[(0,.d (dIs place)),(1,.d (dI i)),(2,.d (dI tile)),(7,.sl 0 0 1 0 place.length),(12,.d (dI place.length)),(13,.d (dI s.1))]) (fun s=>[.row 0 1 true (s.2.map (D.int .i64))])
  (fun s=>s.1<=place.length/\s.2.length=place.length/\∀ j,j<place.length->s.2.getD j 0=if j<s.1/\place.getD j 0=tile then place.getD i 0 else place.getD j 0) (fun s=>place.length-s.1) [] [] 1000 1000 ?_ ?_
 ·simp only[go_sem,seval,-List.reduceReplicate];exact⟨(0,place),⟨by simp,rfl,fun j hj=>by simp⟩,rfl,rfl⟩
 ·rintro⟨k,q⟩ ⟨hk,hql,hq⟩;simp only at hk hql hq;by_cases hkt:k<place.length
  ·have hqk:=hq k hkt;rw[if_neg (by omega)] at hqk
   repeat' first|assumption|(simp (disch:=first|assumption|omega|(simp;done)|(simp;omega)) only[go_sem,seval,-List.reduceReplicate,yaa,qab,qaU])|(with_reducible first|apply And.intro|intro _)|((try rw[qaa]);omega)
   ·rename_i h9;rw[hqk] at h9;refine⟨(k+1,q.set k (place.getD i 0)),⟨by simp only;omega,by simp only[yas];exact hql,fun j hj=>?_⟩,by simp only;omega,rfl,rfl⟩;simp only;rw[qcp (by omega),hq j hj];by_cases hjk:k=j
    ·subst hjk;rw[if_pos rfl,if_pos ⟨by omega,h9⟩]
    ·rw[if_neg hjk];by_cases h2:j<k/\place.getD j 0=tile
     ·rw[if_pos h2,if_pos ⟨by omega,h2.2⟩]
     ·rw[if_neg h2,if_neg (fun h=>h2 ⟨by omega,h.2⟩)]
   ·rename_i h9;rw[hqk] at h9;refine⟨(k+1,q),⟨by simp only;omega,hql,fun j hj=>?_⟩,by simp only;omega,rfl,rfl⟩;simp only;rw[hq j hj];by_cases h2:j<k/\place.getD j 0=tile
    ·rw[if_pos h2,if_pos ⟨by omega,h2.2⟩]
    ·rw[if_neg h2,if_neg (fun h=>by
      by_cases hjk:j=k
      ·subst hjk;exact h9 h.2
      ·exact h2 ⟨by omega,h.2⟩)]
  ·have e:q.set i tile=tryP place i tile:=by
    refine qda 0 (by rw[yas,qgA,hql]) fun j hj=>?_
    rw[yas,hql] at hj;rw[qgB hj,qcp (by omega),hq j hj];by_cases hji:j=i
    ·rw[if_pos hji.symm,if_pos hji]
    ·rw[if_neg (Ne.symm hji),if_neg hji];by_cases h2:place.getD j 0=tile
     ·rw[if_pos ⟨by omega,h2⟩,if_pos h2]
     ·rw[if_neg (fun h=>h2 h.2),if_neg h2]
   repeat' first|assumption|(simp (disch:=first|assumption|omega|(simp;done)|(simp;omega)) only[go_sem,seval,-List.reduceReplicate,yaa,qab,qaU])|(with_reducible first|apply And.intro|intro _)|((try rw[qaa]);omega)
def Tryz.c_Place (c:Circ) (hc:c.Valid):PureF prog 69 [dC c] (dIs (qb4 c (qae c))):=by
 have hcv:=c_CircuitValid c;rw[decide_eq_true hc] at hcv;have hno:=c_netsOf c hc;have hce:=c_Cells c hc;have hcost:=fun p (h:PlaceOk (qae c).length p)=>c_Place1 c hc p h
 have hcl:=qby hc;refine qcE (E:=env 0) tok rfl 1000 func69 rfl rfl ntmps69 (by simp) fun ok=>?_
 simp only[go_sem,seval,-List.reduceReplicate] at ok
 repeat' first|assumption|(simp (disch:=first|assumption|omega|(simp;done)|(simp;omega)) only[go_sem,seval,-List.reduceReplicate,yaa,qab,qaU])|(with_reducible first|apply And.intro|intro _)|(refine qac hcv ?_)|((try rw[qaa]);omega)
 refine qan hno [0] (by simp only[go_sem,seval,-List.reduceReplicate]) ?_;rintro r0 H1 ⟨rfl,rfl⟩
 repeat' first|assumption|(simp (disch:=first|assumption|omega|(simp;done)|(simp;omega)) only[go_sem,seval,-List.reduceReplicate,yaa,qab,qaU])|(with_reducible first|apply And.intro|intro _)|(refine qbJ hce ?_)|((try rw[qaa]);omega)
 have hpd:qb4 c (qae c)=((List.range 3).foldl (qcS c (qae c)) (qcK (qae c).length,qdy c (qae c) (qcK (qae c).length))).1:=rfl;have hsw:=qgD (c:=c) (cells:=qae c) (by omega);generalize qhm c (qae c)=N at *
 generalize qae c=cells at *
 refine qaf (E:=env 0) tok (σ:=Nat) (fun i=>[(4,.fn 128 [.ptr 1 0]),(5,.sl 2 i 1 0 i),(19,.d (dI cells.length)),(20,.d (dI i))]) (fun i=>[.dead 0,.box [.d (dNis N)],.row i 1 true ((qcK i).map (D.int .i64))]) (fun i=>i<=cells.length) (fun i=>cells.length-i) [] [(5,1,true)] 1000 1000 ?_ ?_
 ·simp only[go_sem,seval,-List.reduceReplicate];exact⟨0,by omega,by simp[qcK]⟩
 ·intro i hi;have hil:(qcK i).length=i:=by simp[qcK]
  have his:qcK (i+1)=qcK i ++ [(i:Int)]:=by rw[qcK,yaH,yaz];rfl
  by_cases hlt:i<cells.length
  ·generalize qcK i=q at *
   simp only[go_sem,seval,-List.reduceReplicate]
   repeat' first|assumption|(simp (disch:=first|assumption|omega|(simp;done)|(simp;omega)) only[go_sem,seval,-List.reduceReplicate,hil,yaa,qab,qaU])|(with_reducible first|apply And.intro|intro _)|((try rw[qaa]);omega)
   refine⟨i+1,by omega,by omega,?_⟩;rw[his]
   repeat' apply And.intro
   all_goals rfl
  ·obtain rfl:i=cells.length:=by omega
   have hpo:=qkF (n:=cells.length) (by omega);generalize qcK cells.length=P0 at *
   simp only[go_sem,seval,-List.reduceReplicate]
   repeat' first|assumption|(simp (disch:=first|assumption|omega|(simp;done)|(simp;omega)) only[go_sem,seval,-List.reduceReplicate,hil,yaa,qab,qaU])|(with_reducible first|apply And.intro|intro _)|(refine qac (hcost _ hpo) ?_)|((try rw[qaa]);omega)
   refine qaf (E:=env 0) tok (σ:=Nat) (fun s=>[(4,.fn 128 [.ptr 1 0]),(5,.d (dIs ((List.range s).foldl (qcS c cells) (P0,qdy c cells P0)).1)),(7,.d (dI ((List.range s).foldl (qcS c cells) (P0,qdy c cells P0)).2)),(31,.d (dI s))]) (fun s=>[.dead 0,.box [.d (dNis N)]]) (fun s=>s<=3) (fun s=>3-s) [] [] 1000 1000 ?_ ?_
   ·simp only[go_sem,seval,-List.reduceReplicate];refine⟨0,by omega,?_⟩;simp[hil];exact yaa (by omega)
   ·intro s hs;have hS:=hsw s;have hS1:(List.range (s+1)).foldl (qcS c cells) (P0,qdy c cells P0)=qcS c cells ((List.range s).foldl (qcS c cells) (P0,qdy c cells P0)) s:=qaW;generalize hS9:(List.range s).foldl (qcS c cells) (P0,qdy c cells P0)=S at *
    have hmid:=qgC (c:=c) hS;have hSd:qcS c cells S s=(List.range cells.length).foldl (rowP c cells) S:=rfl;have hSl:=hS.len;by_cases hst:s<3
    ·repeat' first|assumption|(simp (disch:=first|assumption|omega|(simp;done)|(simp;omega)) only[go_sem,seval,-List.reduceReplicate,yaa,qab,qaU])|(with_reducible first|apply And.intro|intro _)|((try rw[qaa]);omega)
     refine qaf (E:=env 0) tok (σ:=Nat) (fun i=>[(4,.fn 128 [.ptr 1 0]),(5,.d (dIs ((List.range i).foldl (rowP c cells) S).1)),(7,.d (dI ((List.range i).foldl (rowP c cells) S).2)),(31,.d (dI s)),(34,.d (dI S.1.length)),(35,.d (dI i))]) (fun _=>[.dead 0,.box [.d (dNis N)]]) (fun i=>i<=cells.length) (fun i=>cells.length-i) [] [] 1000 1000 ?_ ?_
     ·simp only[go_sem,seval,-List.reduceReplicate];exact⟨0,by omega,by simp⟩
     ·intro i hi;have hI:=hmid i hi;have hI1:(List.range (i+1)).foldl (rowP c cells) S=rowP c cells ((List.range i).foldl (rowP c cells) S) i:=qaW;by_cases hit:i<cells.length
      ·generalize (List.range i).foldl (rowP c cells) S=M at *
       have hin:=qkE (c:=c) hit hI;have hId:rowP c cells M i=(List.range 25).foldl (qew c cells i) M:=rfl
       repeat' first|assumption|(simp (disch:=first|assumption|omega|(simp;done)|(simp;omega)) only[go_sem,seval,-List.reduceReplicate,yaa,qab,qaU])|(with_reducible first|apply And.intro|intro _)|((try rw[qaa]);omega)
       refine qaf (E:=env 0) tok (σ:=Nat) (fun t=>[(4,.fn 128 [.ptr 1 0]),(5,.d (dIs ((List.range t).foldl (qew c cells i) M).1)),(7,.d (dI ((List.range t).foldl (qew c cells i) M).2)),(8,.d (dI i)),(31,.d (dI s)),(34,.d (dI S.1.length)),(35,.d (dI i)),(38,.d (dI t))]) (fun _=>[.dead 0,.box [.d (dNis N)]]) (fun t=>t<=25) (fun t=>25-t) [] [] 1000 1000 ?_ ?_
       ·simp only[go_sem,seval,-List.reduceReplicate];exact⟨0,by omega,by simp⟩
       ·intro t ht;have hT:=hin t ht;have hT1:(List.range (t+1)).foldl (qew c cells i) M=qew c cells i ((List.range t).foldl (qew c cells i) M) t:=qaW;by_cases htt:t<25
        ·generalize (List.range t).foldl (qew c cells i) M=Z at *
         obtain⟨p,k⟩:=Z;simp only at hT;have hpl:=hT.len;have htr:=c_exchanged p i (t:Int) (by omega) (by omega);have hok:=hT.try_ hit (tile:=(t:Int)) (by omega);have hco:=hcost _ hok;have hsd:qew c cells i (p,k) t=if qdy c cells (tryP p i (t:Int))<k then(tryP p i (t:Int),qdy c cells (tryP p i (t:Int))) else(p,k):=rfl
         generalize tryP p i (t:Int)=nx at *
         repeat' first|assumption|(simp (disch:=first|assumption|omega|(simp;done)|(simp;omega)) only[go_sem,seval,-List.reduceReplicate,yaa,qab,qaU])|(with_reducible first|apply And.intro|intro _)|(refine qac htr ?_)|(refine qac hco ?_)|((try rw[qaa]);omega)
         ·rename_i h9;refine⟨t+1,by omega,by omega,?_⟩;rw[hT1,hsd,if_pos h9];exact⟨rfl,rfl,rfl⟩
         ·rename_i h9;refine⟨t+1,by omega,by omega,?_⟩;rw[hT1,hsd,if_neg h9];exact⟨rfl,rfl,rfl⟩
        ·obtain rfl:t=25:=by omega
         rw[<-hId,<-hI1]
         repeat' first|assumption|(simp (disch:=first|assumption|omega|(simp;done)|(simp;omega)) only[go_sem,seval,-List.reduceReplicate,yaa,qab,qaU])|(with_reducible first|apply And.intro|intro _)|((try rw[qaa]);omega)
         refine⟨i+1,by omega,by omega,?_⟩;rw[yaH];exact⟨rfl,rfl,rfl⟩
      ·obtain rfl:i=cells.length:=by omega
       rw[<-hSd,<-hS1]
       repeat' first|assumption|(simp (disch:=first|assumption|omega|(simp;done)|(simp;omega)) only[go_sem,seval,-List.reduceReplicate,yaa,qab,qaU])|(with_reducible first|apply And.intro|intro _)|((try rw[qaa]);omega)
       refine⟨s+1,by omega,by omega,?_⟩;rw[yaH];exact⟨rfl,rfl,rfl⟩
    ·obtain rfl:s=3:=by omega
     repeat' first|assumption|(simp (disch:=first|assumption|omega|(simp;done)|(simp;omega)) only[go_sem,seval,-List.reduceReplicate,yaa,qab,qaU])|(with_reducible first|apply And.intro|intro _)|((try rw[qaa]);omega)
     all_goals rw[hpd,<-hS9]
end Go.Proofs

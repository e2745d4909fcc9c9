/- Contracts, plain definitions and lemmas. Conditions: none; lemmas. -/
import Derived.Test.YteikeianenfhaaaGreatK1
import Derived.Test.YteikeianenfhaaaGreatO1
import Derived.Test.YteikeianenfhaaaGreatC7
import Derived.Test.YteikeianenfhaaaGreatVM8
import Derived.Test.YteikeianenfhaaaGreatD8
set_option maxRecDepth 20000
set_option linter.unusedSimpArgs false
set_option linter.unusedVariables false
set_option maxHeartbeats 2000000
namespace Go.Proofs
open Go Go.VL Tryz
@[go_sem] theorem fit1_fn {K:List R}{g:Nat}{cs:List I}{y:I}:fit1 K (.fn g cs) y=fitS K (.fn g cs) y:=qil nofun
theorem Tryz.c_length (n:Nin) (place:List Int) (hs : ∀ i∈n.sinks,0<=i/\i<place.length) (hk:n.cell<place.length) (hl:n.sinks.length<=400) (hl2:n.pads.length<=400) (hp:place.length<=1000) (hb : ∀ t∈qaT n place,0<=t/\t<=24):Pure prog 129 [dNi n,dIs place] (dI (qfy (qaT n place))):=by
 have ht:=c_tiles n place hs hk (by omega) (by omega) hp;have hne:qaT n place≠[]:=by simp[qaT]
 have hTl:(qaT n place).length<=1000:=by simp[qaT];omega
 refine qav func129 rfl ntmps129 fun ok=>?_
 simp only[go_sem,seval,-List.reduceReplicate] at ok
 repeat' first|assumption|(simp (disch:=first|assumption|omega|(simp;done)|(simp;omega)) only[go_sem,seval,-List.reduceReplicate,yaa,qaj,qaJ])|(with_reducible first|apply And.intro|intro _)|(refine qab ht ?_)|((try rw[qaa]);omega)
 generalize qaT n place=T at *
 refine qao (E:=env 0) tok (σ:=Nat) (fun i=>[(5,.ptr 1 0),(6,.ptr 2 0),(15,.d (dIs T)),(16,.d (dI T.length)),(17,.d (dI i))])
  (fun i=>[.box [.d (dI n.net),.d (dI n.cell),.d (dI n.tile),.d (dIs n.sinks),.d (dIs n.pads)],.box [.d (dI (boxC (T.take i)).1),.d (dI (boxC (T.take i)).2.2.1)],.box [.d (dI (boxC (T.take i)).2.1),.d (dI (boxC (T.take i)).2.2.2)]]) (fun i=>i<=T.length) (fun i=>T.length-i) [] [] 1000 1000 ?_ ?_
 ·simp only[go_sem,seval,-List.reduceReplicate];exact⟨0,by omega,by simp[boxC]⟩
 ·intro i hi;have hbb:=qqS (tiles:=T.take i) (fun t h=>hb t (yat h));by_cases hlt:i<T.length
  ·have hst:boxC (T.take (i+1))=boxF (boxC (T.take i)) (T.getD i 0):=qa8 (f:=boxF) (b:=(5,0,5,0)) (0:Int) hlt;have htb:=hb _ (qac hlt:T.getD i 0∈T);generalize boxC (T.take i)=S at *
   obtain⟨s1,s2,s3,s4⟩:=S;simp only at hbb;generalize hx9:T.getD i 0=t at *
   repeat' first|assumption|(simp (disch:=first|assumption|omega|(simp;done)|(simp;omega)) only[go_sem,seval,-List.reduceReplicate,hx9,yaa,qaj,qaJ])|(with_reducible first|apply And.intro|intro _)|((try rw[qaa]);omega)
   refine qiv (E:=env 0) tok 4 1000 1000 ?_;refine qcA ?_
   repeat' first|assumption|(simp (disch:=first|assumption|omega|(simp;done)|(simp;omega)) only[go_sem,seval,-List.reduceReplicate,hx9,yaa,qaj,qaJ])|(with_reducible first|apply And.intro|intro _)|((try rw[qaa]);omega)
   refine qcA ?_
   repeat' first|assumption|(simp (disch:=first|assumption|omega|(simp;done)|(simp;omega)) only[go_sem,seval,-List.reduceReplicate,hx9,yaa,qaj,qaJ])|(with_reducible first|apply And.intro|intro _)|((try rw[qaa]);omega)
   refine qcA ?_
   repeat' first|assumption|(simp (disch:=first|assumption|omega|(simp;done)|(simp;omega)) only[go_sem,seval,-List.reduceReplicate,hx9,yaa,qaj,qaJ])|(with_reducible first|apply And.intro|intro _)|((try rw[qaa]);omega)
   refine⟨i+1,by omega,by omega,?_⟩;rw[hst]
   repeat' apply And.intro
   all_goals rfl
  ·obtain rfl:i=T.length:=by omega
   rw[yav] at hbb ⊢;have hd:qfy T=(boxC T).2.1-(boxC T).1+(boxC T).2.2.2-(boxC T).2.2.1:=if_neg hne;rw[hd]
   repeat' first|assumption|(simp (disch:=first|assumption|omega|(simp;done)|(simp;omega)) only[go_sem,seval,-List.reduceReplicate,yaa,qaj,qaJ])|(with_reducible first|apply And.intro|intro _)|((try rw[qaa]);omega)
theorem Tryz.c_Place1 (c:Circ) (hc:c.Valid) (place:List Int) (hp:PlaceOk (qad c).length place):Pure prog 128 [dIs place,.ptr [dNis (qg5 c (qad c))]] (dI (qgn c (qad c) place)):=by
 have hnf:=ql2 hc hp;have hNl:(qg5 c (qad c)).length<=1000:=by
  have:=qgw c (qad c) (c.vars.toNat-1);have:=hc.vars_bd;show(qds c (qad c) (c.vars.toNat-1)).length<=1000
  omega
 have hpl:place.length<=1000:=by rw[hp.len];have:=qbV hc;omega
 rw[<-qo4 hc place];generalize qg5 c (qad c)=N at *
 refine qav func128 rfl ntmps128 fun ok=>?_
 simp only[go_sem,seval,-List.reduceReplicate] at ok
 repeat' first|assumption|(simp (disch:=first|assumption|omega|(simp;done)|(simp;omega)) only[go_sem,seval,-List.reduceReplicate,yaa,qaj,qaJ])|(with_reducible first|apply And.intro|intro _)|((try rw[qaa]);omega)
 refine qao (E:=env 0) tok (σ:=Nat) (fun i=>[(0,.d (dIs place)),(4,.d (dI (sumD place (N.take i)))),(7,.d (dNis N)),(8,.d (dI N.length)),(9,.d (dI i))]) (fun _=>[]) (fun i=>i<=N.length/\-(10*(i:Int))<=sumD place (N.take i)/\sumD place (N.take i)<=10*(i:Int)) (fun i=>N.length-i) [] [] 1000 1000 ?_ ?_
 ·simp only[go_sem,seval,-List.reduceReplicate];exact⟨0,⟨by omega,by simp[sumD],by simp[sumD]⟩,by simp[sumD]⟩
 ·rintro i ⟨hi,hb1,hb2⟩;by_cases hlt:i<N.length
  ·have hst:sumD place (N.take (i+1))=sumD place (N.take i)+qfy (qaT (N.getD i nin0) place):=qa8 (f:=fun s n=>s+qfy (qaT n place)) (b:=0) nin0 hlt;obtain⟨q1,q2,q3,q4,q5⟩:=hnf _ (qac hlt:N.getD i nin0∈N);have hln:=c_length _ place q1 q2 q3 q4 hpl q5;have hdb:=qtg q5;generalize hx9:N.getD i nin0=n at *
   generalize sumD place (N.take i)=s at *
   generalize qfy (qaT n place)=d at *
   repeat' first|assumption|(simp (disch:=first|assumption|omega|(simp;done)|(simp;omega)) only[go_sem,seval,-List.reduceReplicate,hx9,yaa,qaj,qaJ])|(with_reducible first|apply And.intro|intro _)|(refine qab hln ?_)|((try rw[qaa]);omega)
   refine⟨i+1,⟨by omega,by omega,by omega⟩,by omega,?_⟩;rw[hst];exact⟨rfl,rfl⟩
  ·obtain rfl:i=N.length:=by omega
   rw[yav]
   repeat' first|assumption|(simp (disch:=first|assumption|omega|(simp;done)|(simp;omega)) only[go_sem,seval,-List.reduceReplicate,yaa,qaj,qaJ])|(with_reducible first|apply And.intro|intro _)|((try rw[qaa]);omega)
theorem Tryz.c_exchanged (place:List Int) (i:Nat) (tile:Int) (hi:i<place.length) (hl:place.length<=25):Pure prog 130 [dIs place,dI i,dI tile] (dIs (tryP place i tile)):=by
 refine qav func130 rfl ntmps130 fun ok=>?_
 simp only[go_sem,seval,-List.reduceReplicate] at ok
 repeat' first|assumption|(simp (disch:=first|assumption|omega|(simp;done)|(simp;omega)) only[go_sem,seval,-List.reduceReplicate,yaa,qaj,qaJ])|(with_reducible first|apply And.intro|intro _)|((try rw[qaa]);omega)
 refine qao (E:=env 0) tok (σ:=Nat×List Int) (fun s=>[(0,.d (dIs place)),(1,.d (dI i)),(2,.d (dI tile)),(7,.sl 0 0 1 0 place.length),(12,.d (dI place.length)),(13,.d (dI s.1))]) (fun s=>[.row 0 1 true (s.2.map (D.int .i64))])
  (fun s=>s.1<=place.length/\s.2.length=place.length/\∀ j,j<place.length->s.2.getD j 0=if j<s.1/\place.getD j 0=tile then place.getD i 0 else place.getD j 0) (fun s=>place.length-s.1) [] [] 1000 1000 ?_ ?_
 ·simp only[go_sem,seval,-List.reduceReplicate];exact⟨(0,place),⟨by simp,rfl,fun j hj=>by simp⟩,rfl,rfl⟩
 ·rintro⟨k,q⟩ ⟨hk,hql,hq⟩;simp only at hk hql hq;by_cases hkt:k<place.length
  ·have hqk:=hq k hkt;rw[if_neg (by omega)] at hqk
   repeat' first|assumption|(simp (disch:=first|assumption|omega|(simp;done)|(simp;omega)) only[go_sem,seval,-List.reduceReplicate,yaa,qaj,qaJ])|(with_reducible first|apply And.intro|intro _)|((try rw[qaa]);omega)
   ·rename_i h9;rw[hqk] at h9;refine⟨(k+1,q.set k (place.getD i 0)),⟨by simp only;omega,by simp only[yax];exact hql,fun j hj=>?_⟩,by simp only;omega,rfl,rfl⟩;simp only;rw[qcY (by omega),hq j hj];by_cases hjk:k=j
    ·subst hjk;rw[if_pos rfl,if_pos ⟨by omega,h9⟩]
    ·rw[if_neg hjk];by_cases h2:j<k/\place.getD j 0=tile
     ·rw[if_pos h2,if_pos ⟨by omega,h2.2⟩]
     ·rw[if_neg h2,if_neg (fun h=>h2 ⟨by omega,h.2⟩)]
   ·rename_i h9;rw[hqk] at h9;refine⟨(k+1,q),⟨by simp only;omega,hql,fun j hj=>?_⟩,by simp only;omega,rfl,rfl⟩;simp only;rw[hq j hj];by_cases h2:j<k/\place.getD j 0=tile
    ·rw[if_pos h2,if_pos ⟨by omega,h2.2⟩]
    ·rw[if_neg h2,if_neg (fun h=>by
      by_cases hjk:j=k
      ·subst hjk;exact h9 h.2
      ·exact h2 ⟨by omega,h.2⟩)]
  ·have e:q.set i tile=tryP place i tile:=by
    refine qfe 0 (by rw[yax,qhM,hql]) fun j hj=>?_
    rw[yax,hql] at hj;rw[qhN hj,qcY (by omega),hq j hj];by_cases hji:j=i
    ·rw[if_pos hji.symm,if_pos hji]
    ·rw[if_neg (Ne.symm hji),if_neg hji];by_cases h2:place.getD j 0=tile
     ·rw[if_pos ⟨by omega,h2⟩,if_pos h2]
     ·rw[if_neg (fun h=>h2 h.2),if_neg h2]
   repeat' first|assumption|(simp (disch:=first|assumption|omega|(simp;done)|(simp;omega)) only[go_sem,seval,-List.reduceReplicate,yaa,qaj,qaJ])|(with_reducible first|apply And.intro|intro _)|((try rw[qaa]);omega)
theorem Tryz.c_Place (c:Circ) (hc:c.Valid):PureF prog 69 [dC c] (dIs (qdb c (qad c))):=by
 have hcv:=c_CircuitValid c;rw[decide_eq_true hc] at hcv;have hno:=c_netsOf c hc;have hce:=c_Cells c hc;have hcost:=fun p (h:PlaceOk (qad c).length p)=>c_Place1 c hc p h
 have hcl:=qbV hc;refine qe0 (E:=env 0) tok rfl 1000 func69 rfl rfl ntmps69 (by simp) fun ok=>?_
 simp only[go_sem,seval,-List.reduceReplicate] at ok
 repeat' first|assumption|(simp (disch:=first|assumption|omega|(simp;done)|(simp;omega)) only[go_sem,seval,-List.reduceReplicate,yaa,qaj,qaJ])|(with_reducible first|apply And.intro|intro _)|(refine qab hcv ?_)|((try rw[qaa]);omega)
 refine qal hno [0] (by simp only[go_sem,seval,-List.reduceReplicate]) ?_;rintro r0 H1 ⟨rfl,rfl⟩
 repeat' first|assumption|(simp (disch:=first|assumption|omega|(simp;done)|(simp;omega)) only[go_sem,seval,-List.reduceReplicate,yaa,qaj,qaJ])|(with_reducible first|apply And.intro|intro _)|(refine qcN hce ?_)|((try rw[qaa]);omega)
 have hpd:qdb c (qad c)=((List.range 3).foldl (qfF c (qad c)) (qeI (qad c).length,qgn c (qad c) (qeI (qad c).length))).1:=rfl;have hsw:=qiT (c:=c) (cells:=qad c) (by omega);generalize qg5 c (qad c)=N at *
 generalize qad c=cells at *
 refine qao (E:=env 0) tok (σ:=Nat) (fun i=>[(4,.fn 128 [.ptr 1 0]),(5,.sl 2 i 1 0 i),(19,.d (dI cells.length)),(20,.d (dI i))]) (fun i=>[.dead 0,.box [.d (dNis N)],.row i 1 true ((qeI i).map (D.int .i64))]) (fun i=>i<=cells.length) (fun i=>cells.length-i) [] [(5,1,true)] 1000 1000 ?_ ?_
 ·simp only[go_sem,seval,-List.reduceReplicate];exact⟨0,by omega,by simp[qeI]⟩
 ·intro i hi;have hil:(qeI i).length=i:=by simp[qeI]
  have his:qeI (i+1)=qeI i ++ [(i:Int)]:=by rw[qeI,yaO,yaE];rfl
  by_cases hlt:i<cells.length
  ·generalize qeI i=q at *
   simp only[go_sem,seval,-List.reduceReplicate]
   repeat' first|assumption|(simp (disch:=first|assumption|omega|(simp;done)|(simp;omega)) only[go_sem,seval,-List.reduceReplicate,hil,yaa,qaj,qaJ])|(with_reducible first|apply And.intro|intro _)|((try rw[qaa]);omega)
   refine⟨i+1,by omega,by omega,?_⟩;rw[his]
   repeat' apply And.intro
   all_goals rfl
  ·obtain rfl:i=cells.length:=by omega
   have hpo:=qnZ (n:=cells.length) (by omega);generalize qeI cells.length=P0 at *
   simp only[go_sem,seval,-List.reduceReplicate]
   repeat' first|assumption|(simp (disch:=first|assumption|omega|(simp;done)|(simp;omega)) only[go_sem,seval,-List.reduceReplicate,hil,yaa,qaj,qaJ])|(with_reducible first|apply And.intro|intro _)|(refine qab (hcost _ hpo) ?_)|((try rw[qaa]);omega)
   refine qao (E:=env 0) tok (σ:=Nat) (fun s=>[(4,.fn 128 [.ptr 1 0]),(5,.d (dIs ((List.range s).foldl (qfF c cells) (P0,qgn c cells P0)).1)),(7,.d (dI ((List.range s).foldl (qfF c cells) (P0,qgn c cells P0)).2)),(31,.d (dI s))]) (fun s=>[.dead 0,.box [.d (dNis N)]]) (fun s=>s<=3) (fun s=>3-s) [] [] 1000 1000 ?_ ?_
   ·simp only[go_sem,seval,-List.reduceReplicate];refine⟨0,by omega,?_⟩;simp[hil];exact yaa (by omega)
   ·intro s hs;have hS:=hsw s;have hS1:(List.range (s+1)).foldl (qfF c cells) (P0,qgn c cells P0)=qfF c cells ((List.range s).foldl (qfF c cells) (P0,qgn c cells P0)) s:=qbm;generalize hS9:(List.range s).foldl (qfF c cells) (P0,qgn c cells P0)=S at *
    have hmid:=qiS (c:=c) hS;have hSd:qfF c cells S s=(List.range cells.length).foldl (rowP c cells) S:=rfl;have hSl:=hS.len;by_cases hst:s<3
    ·repeat' first|assumption|(simp (disch:=first|assumption|omega|(simp;done)|(simp;omega)) only[go_sem,seval,-List.reduceReplicate,yaa,qaj,qaJ])|(with_reducible first|apply And.intro|intro _)|((try rw[qaa]);omega)
     refine qao (E:=env 0) tok (σ:=Nat) (fun i=>[(4,.fn 128 [.ptr 1 0]),(5,.d (dIs ((List.range i).foldl (rowP c cells) S).1)),(7,.d (dI ((List.range i).foldl (rowP c cells) S).2)),(31,.d (dI s)),(34,.d (dI S.1.length)),(35,.d (dI i))]) (fun _=>[.dead 0,.box [.d (dNis N)]]) (fun i=>i<=cells.length) (fun i=>cells.length-i) [] [] 1000 1000 ?_ ?_
     ·simp only[go_sem,seval,-List.reduceReplicate];exact⟨0,by omega,by simp⟩
     ·intro i hi;have hI:=hmid i hi;have hI1:(List.range (i+1)).foldl (rowP c cells) S=rowP c cells ((List.range i).foldl (rowP c cells) S) i:=qbm;by_cases hit:i<cells.length
      ·generalize (List.range i).foldl (rowP c cells) S=M at *
       have hin:=qm4 (c:=c) hit hI;have hId:rowP c cells M i=(List.range 25).foldl (qhD c cells i) M:=rfl
       repeat' first|assumption|(simp (disch:=first|assumption|omega|(simp;done)|(simp;omega)) only[go_sem,seval,-List.reduceReplicate,yaa,qaj,qaJ])|(with_reducible first|apply And.intro|intro _)|((try rw[qaa]);omega)
       refine qao (E:=env 0) tok (σ:=Nat) (fun t=>[(4,.fn 128 [.ptr 1 0]),(5,.d (dIs ((List.range t).foldl (qhD c cells i) M).1)),(7,.d (dI ((List.range t).foldl (qhD c cells i) M).2)),(8,.d (dI i)),(31,.d (dI s)),(34,.d (dI S.1.length)),(35,.d (dI i)),(38,.d (dI t))]) (fun _=>[.dead 0,.box [.d (dNis N)]]) (fun t=>t<=25) (fun t=>25-t) [] [] 1000 1000 ?_ ?_
       ·simp only[go_sem,seval,-List.reduceReplicate];exact⟨0,by omega,by simp⟩
       ·intro t ht;have hT:=hin t ht;have hT1:(List.range (t+1)).foldl (qhD c cells i) M=qhD c cells i ((List.range t).foldl (qhD c cells i) M) t:=qbm;by_cases htt:t<25
        ·generalize (List.range t).foldl (qhD c cells i) M=Z at *
         obtain⟨p,k⟩:=Z;simp only at hT;have hpl:=hT.len;have htr:=c_exchanged p i (t:Int) (by omega) (by omega);have hok:=hT.try_ hit (tile:=(t:Int)) (by omega);have hco:=hcost _ hok;have hsd:qhD c cells i (p,k) t=if qgn c cells (tryP p i (t:Int))<k then(tryP p i (t:Int),qgn c cells (tryP p i (t:Int))) else(p,k):=rfl
         generalize tryP p i (t:Int)=nx at *
         repeat' first|assumption|(simp (disch:=first|assumption|omega|(simp;done)|(simp;omega)) only[go_sem,seval,-List.reduceReplicate,yaa,qaj,qaJ])|(with_reducible first|apply And.intro|intro _)|(refine qab htr ?_)|(refine qab hco ?_)|((try rw[qaa]);omega)
         ·rename_i h9;refine⟨t+1,by omega,by omega,?_⟩;rw[hT1,hsd,if_pos h9];exact⟨rfl,rfl,rfl⟩
         ·rename_i h9;refine⟨t+1,by omega,by omega,?_⟩;rw[hT1,hsd,if_neg h9];exact⟨rfl,rfl,rfl⟩
        ·obtain rfl:t=25:=by omega
         rw[<-hId,<-hI1]
         repeat' first|assumption|(simp (disch:=first|assumption|omega|(simp;done)|(simp;omega)) only[go_sem,seval,-List.reduceReplicate,yaa,qaj,qaJ])|(with_reducible first|apply And.intro|intro _)|((try rw[qaa]);omega)
         refine⟨i+1,by omega,by omega,?_⟩;rw[yaO];exact⟨rfl,rfl,rfl⟩
      ·obtain rfl:i=cells.length:=by omega
       rw[<-hSd,<-hS1]
       repeat' first|assumption|(simp (disch:=first|assumption|omega|(simp;done)|(simp;omega)) only[go_sem,seval,-List.reduceReplicate,yaa,qaj,qaJ])|(with_reducible first|apply And.intro|intro _)|((try rw[qaa]);omega)
       refine⟨s+1,by omega,by omega,?_⟩;rw[yaO];exact⟨rfl,rfl,rfl⟩
    ·obtain rfl:s=3:=by omega
     repeat' first|assumption|(simp (disch:=first|assumption|omega|(simp;done)|(simp;omega)) only[go_sem,seval,-List.reduceReplicate,yaa,qaj,qaJ])|(with_reducible first|apply And.intro|intro _)|((try rw[qaa]);omega)
     all_goals rw[hpd,<-hS9]

def qjY (l:List (Int×Bool)):Prop:=l.length=3/\∀ j,j<l.length->qbX (l.getD j (0,false)).1=true
def Kcfg.ok (c:Kcfg):Prop:=c.tiles.length=25/\qjY c.pads/\∀ j,j<c.tiles.length->(c.tiles.getD j tc0).ok (j:Int)=true
noncomputable instance (l:List (Int×Bool)):Decidable (qjY l):=Classical.propDecidable _
noncomputable instance (c:Kcfg):Decidable c.ok:=Classical.propDecidable _
theorem Tryz.c_padsValid (l:List (Int×Bool)):Pure prog 123 [dQs l] (.bool (decide (qjY l))):=by
 refine qav func123 rfl ntmps123 fun ok=>?_
 simp only[go_sem,seval] at ok⊢;refine qay (E:=env 0) tok (σ:=Nat) (fun i=>[(5,.d (dQs l)),(6,.d (dI l.length)),(7,.d (dI i)),(0,.d (dQs l))]) (fun _=>[]) (fun i=>i<=l.length/\∀ j,j<i->qbX (l.getD j (0,false)).1=true) (fun i=>l.length-i) [] 1000 1000 ?_ ?_ ?_
 ·simp only[go_sem,seval]
 ·simp only[go_sem,seval];exact⟨0,⟨by omega,fun j hj=>absurd hj (by omega)⟩,rfl⟩
 ·rintro i ⟨hi,hinv⟩;by_cases hlt:i<l.length
  ·repeat' first|assumption|(simp (disch:=first|assumption|omega|(simp;done)|(simp;omega)) only[go_sem,seval,qaB,qaq])|(with_reducible first|apply And.intro|intro _)|(refine qab (c_isTrack _) ?_)|exact lexT|((try rw[qaa]);omega)
   ·rename_i h1;simp only[false_eq_decide_iff];intro h2;have:=h2.2 i hlt;rw[h1] at this;exact absurd this (by simp)
   ·rename_i h1;refine⟨i+1,⟨by omega,fun j hj=>?_⟩,by omega,rfl⟩;by_cases hji:j=i
    ·subst hji;exact h1
    ·exact hinv j (by omega)
  ·repeat' first|assumption|(simp (disch:=first|assumption|omega|(simp;done)|(simp;omega)) only[go_sem,seval,qaB,qaq])|(with_reducible first|apply And.intro|intro _)|exact lexT|((try rw[qaa]);omega)
   have:qjY l↔(l.length:Int)=3:=⟨fun h=>by have:=h.1;omega,fun h=>⟨by omega,fun j hj=>hinv j (by omega)⟩⟩;by_cases h3:(l.length:Int)=3
   ·simp[h3,this.2 h3]
   ·simp[h3,show ¬ qjY l from fun h=>h3 (this.1 h)]
theorem Tryz.c_ConfigValid (c:Kcfg):Pure prog 64 [dK c] (.bool (decide c.ok)):=by
 have hp:=c_padsValid c.pads;refine qav func64 rfl ntmps64 fun ok=>?_
 simp only[go_sem,seval] at ok
 repeat' first|assumption|(simp (disch:=first|assumption|omega|(simp;done)|(simp;omega)) only[go_sem,seval,qaB,qaq])|(with_reducible first|apply And.intro|intro _)|(refine qaR (fun _=>hp) ?_)|exact lexT|((try rw[qaa]);omega)
 ·rename_i h;simp only[false_eq_decide_iff];intro h2;rcases h with h|h
  ·exact h (by have:=h2.1;omega)
  ·exact h h2.2.1
 rename_i h;refine qay (E:=env 0) tok (σ:=Nat) (fun i=>[(1,.ptr 0 0),(16,.d (dTcs c.tiles)),(17,.d (dI c.tiles.length)),(18,.d (dI i))]) (fun _=>[.box [.d (dTcs c.tiles),.d (dQs c.pads)]]) (fun i=>i<=c.tiles.length/\∀ j,j<i->(c.tiles.getD j tc0).ok (j:Int)=true) (fun i=>c.tiles.length-i) [] 1000 1000 ?_ ?_ ?_
 ·simp only[go_sem,seval]
 ·simp only[go_sem,seval];exact⟨0,⟨by omega,fun j hj=>absurd hj (by omega)⟩,rfl⟩
 ·rintro i ⟨hi,hinv⟩;by_cases hlt:i<c.tiles.length
  ·repeat' first|assumption|(simp (disch:=first|assumption|omega|(simp;done)|(simp;omega)) only[go_sem,seval,qaB,qaq])|(with_reducible first|apply And.intro|intro _)|(refine qab (c_tileValid _ (i:Int) (by omega)) ?_)|exact lexT|((try rw[qaa]);omega)
   ·rename_i h1;simp only[false_eq_decide_iff];intro h2;have:=h2.2.2 i hlt;rw[h1] at this;exact absurd this (by simp)
   ·rename_i h1;refine⟨i+1,⟨by omega,fun j hj=>?_⟩,by omega,rfl⟩;by_cases hji:j=i
    ·subst hji;exact h1
    ·exact hinv j (by omega)
  ·repeat' first|assumption|(simp (disch:=first|assumption|omega|(simp;done)|(simp;omega)) only[go_sem,seval,qaB,qaq])|(with_reducible first|apply And.intro|intro _)|exact lexT|((try rw[qaa]);omega)
   simp only[true_eq_decide_iff];exact⟨by omega,h.2,fun j hj=>hinv j (by omega)⟩
theorem Kcfg.ok_sizes {c:Kcfg}(h:c.ok) {i:Nat}(hi:i<25):(c.tiles.getD i tc0).select.length=3/\(c.tiles.getD i tc0).drive.length=8:=by
 have:=Tcfg.ok_iff.1 (h.2.2 i (by have:=h.1;omega));exact⟨this.2.1,this.2.2.1⟩

theorem Tryz.shp_KDefect {f:Nat}(y:D) (h:shp tyT (f+2) 171 y) : ∃ a:Int×Int,y=dP a:=by
 obtain⟨ys,rfl,k0⟩:=shp_struct ty171 h;obtain⟨y1,r1,rfl,h1,k1⟩:=qho k0;obtain⟨y2,r2,rfl,h2,k2⟩:=qho k1;obtain rfl:=qp8 k2;obtain⟨n,rfl⟩:=shp_int ty3 h1;obtain⟨m,rfl⟩:=shp_int ty3 h2;exact⟨(n,m),rfl⟩
theorem Tryz.shp_KDefects {f:Nat}(y:D) (h:shp tyT (f+3) 92 y) : ∃ l:List (Int×Int),y=dPs l:=
 shp_slice ty92 ty171 shp_KDefect h

def Kcfg.small (c:Kcfg):Prop:=c.tiles.length<=1048576/\c.pads.length<=1048576/\∀ j,j<c.tiles.length->(c.tiles.getD j tc0).select.length<=1048576/\(c.tiles.getD j tc0).drive.length<=1048576

def frOk (p:Int×Tcfg):Bool:=(decide (0<=p.1)&&decide (p.1<=24))&&p.2.ok p.1
def frsOk (l:List (Int×Tcfg)):Prop:=∀ j,j<l.length->frOk (l.getD j (0,tc0))=true
noncomputable instance (l:List (Int×Tcfg)):Decidable (frsOk l):=Classical.propDecidable _
def quH (l:List Tcfg) (fs:List (Int×Tcfg)):List Tcfg:=fs.foldl (fun l f=>l.set f.1.toNat f.2) l
def applyOk (c:Kcfg) (fs:List (Int×Tcfg)) (ps:List (Int×Bool)):Prop:=c.ok/\qjY ps/\frsOk fs
noncomputable instance (c:Kcfg) (fs:List (Int×Tcfg)) (ps:List (Int×Bool)):Decidable (applyOk c fs ps):=Classical.propDecidable _

theorem ql5 {α : Type}{f : α->D}{k n:Nat}{l:List α}{x c:D}{off:Nat}(h:l.length=n):putC k (l.map f ++ [x]) n off c=l.map f ++ [putE (decide (k=1)) k x off c]:=by subst h;exact qqe
def k0:Kcfg:=⟨[],[]⟩
def qbt:Tcfg:=⟨0,[15,15,15],false,[0,0,0,0,0,0,0,0]⟩
def er (fs:List (Int×Tcfg)):List (Int×Tcfg):=fs.map fun f=>(f.1,qbt)
def quI (t:List Tcfg) (p:List (Int×Bool)) (fs:List (Int×Tcfg)) (n:Nat):List Kcfg:=(List.range n).map fun j=>⟨quH t (fs.take (j+1)),p⟩
def steps (a:Kcfg) (fs:List (Int×Tcfg)):List Kcfg:=quI a.tiles a.pads (er fs) fs.length++quI (quH a.tiles (er fs)) a.pads fs fs.length
theorem Tryz.c_emptyTile:Pure prog 120 [] (dTc qbt):=by
 refine qav func120 rfl ntmps120 fun ok=>?_
 simp only[go_sem,seval] at ok
 repeat' first|assumption|(simp (disch:=first|assumption|omega|(simp;done)|(simp;omega)) only[go_sem,seval,yaa])|(with_reducible first|apply And.intro|intro _)|((try rw[qaa]);omega)
 all_goals rfl

def srcC (c:Circ) (net:Int) (h:Int×Int):Int:=
 if h.2<0 then(if net<=c.inputs then 6 else 1)
 else if nb h.1 2=h.2 then 2 else if nb h.1 3=h.2 then 3 else if nb h.1 4=h.2 then 4 else if nb h.1 5=h.2 then 5 else 0
def trkN (vars:Nat) (rs:List Rt) (k:Nat):List Int:=(rs.take k).foldl (fun l r=>l.set r.net.toNat r.track) (List.replicate vars 15)
def qaX (vars:Nat) (rs:List Rt):List Int:=trkN vars rs rs.length
end Go.Proofs

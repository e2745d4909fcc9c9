/- Contracts, plain definitions and lemmas. Conditions: none; lemmas. -/
import Derived.Test.YteikeianenfhaaaGreatK1
import Derived.Test.YteikeianenfhaaaGreatD4
set_option maxRecDepth 20000
set_option linter.unusedVariables false
set_option linter.unusedSimpArgs false
set_option maxHeartbeats 2000000
namespace Go.Proofs
set_option linter.defProp false
open Go Go.VL Tryz
@[go_sem] def zqz {K:List R}{g:Nat}{cs:List I}{y:I}:fit1 K (.fn g cs) y=fitS K (.fn g cs) y:=qip nofun
def Tryz.c_length (n:Nin) (place:List Int) (hs : ∀ i∈n.sinks,0<=i/\i<place.length) (hk:n.cell<place.length) (hl:n.sinks.length<=400) (hl2:n.pads.length<=400) (hp:place.length<=1000) (hb : ∀ t∈qbb n place,0<=t/\t<=24):Pure prog 129 [dNi n,dIs place] (dI (qeG (qbb n place))):=by
 have ht:=c_tiles n place hs hk (by omega) (by omega) hp;have hne:qbb n place≠[]:=by simp[qbb]
 have hTl:(qbb n place).length<=1000:=by simp[qbb];omega
 refine qaC func129 rfl ntmps129 fun ok=>?_
 simp only[go_sem,seval,-List.reduceReplicate] at ok
 repeat' first|assumption|(simp (disch:=first|assumption|omega|(simp;done)|(simp;omega)) only[go_sem,seval,-List.reduceReplicate,yaa,qac,qaY])|(with_reducible first|apply And.intro|intro _)|(refine qad ht ?_)|((try rw[qaa]);omega)
 generalize qbb n place=T at *
 refine qah (E:=env 0) tok (σ:=Nat) (fun i=>[(5,.ptr 1 0),(6,.ptr 2 0),(15,.d (dIs T)),(16,.d (dI T.length)),(17,.d (dI i))])
  (fun i=>[.box [.d (dI n.net),.d (dI n.cell),.d (dI n.tile),.d (dIs n.sinks),.d (dIs n.pads)],.box [.d (dI (boxC (T.take i)).1),.d (dI (boxC (T.take i)).2.2.1)],.box [.d (dI (boxC (T.take i)).2.1),.d (dI (boxC (T.take i)).2.2.2)]]) (fun i=>i<=T.length) (fun i=>T.length-i) [] [] 1000 1000 ?_ ?_
 ·simp only[go_sem,seval,-List.reduceReplicate];exact⟨0,by omega,by simp[boxC]⟩
 ·intro i hi;have hbb:=qmB (tiles:=T.take i) (fun t h=>hb t (yar h));by_cases hlt:i<T.length
  ·have hst:boxC (T.take (i+1))=boxF (boxC (T.take i)) (T.getD i 0):=qay (f:=boxF) (b:=(5,0,5,0)) (0:Int) hlt;have htb:=hb _ (qae hlt:T.getD i 0∈T);generalize boxC (T.take i)=S at *
   obtain⟨s1,s2,s3,s4⟩:=S;simp only at hbb;generalize hx9:T.getD i 0=t at *
   repeat' first|assumption|(simp (disch:=first|assumption|omega|(simp;done)|(simp;omega)) only[go_sem,seval,-List.reduceReplicate,hx9,yaa,qac,qaY])|(with_reducible first|apply And.intro|intro _)|((try rw[qaa]);omega)
   refine qgi (E:=env 0) tok 4 1000 1000 ?_;refine qa8 ?_
   repeat' first|assumption|(simp (disch:=first|assumption|omega|(simp;done)|(simp;omega)) only[go_sem,seval,-List.reduceReplicate,hx9,yaa,qac,qaY])|(with_reducible first|apply And.intro|intro _)|((try rw[qaa]);omega)
   refine qa8 ?_
   repeat' first|assumption|(simp (disch:=first|assumption|omega|(simp;done)|(simp;omega)) only[go_sem,seval,-List.reduceReplicate,hx9,yaa,qac,qaY])|(with_reducible first|apply And.intro|intro _)|((try rw[qaa]);omega)
   refine qa8 ?_
   repeat' first|assumption|(simp (disch:=first|assumption|omega|(simp;done)|(simp;omega)) only[go_sem,seval,-List.reduceReplicate,hx9,yaa,qac,qaY])|(with_reducible first|apply And.intro|intro _)|((try rw[qaa]);omega)
   refine⟨i+1,by omega,by omega,?_⟩;rw[hst]
   repeat' apply And.intro
   all_goals rfl
  ·obtain rfl:i=T.length:=by omega
   rw[yax] at hbb ⊢;have hd:qeG T=(boxC T).2.1-(boxC T).1+(boxC T).2.2.2-(boxC T).2.2.1:=if_neg hne;rw[hd]
   repeat' first|assumption|(simp (disch:=first|assumption|omega|(simp;done)|(simp;omega)) only[go_sem,seval,-List.reduceReplicate,yaa,qac,qaY])|(with_reducible first|apply And.intro|intro _)|((try rw[qaa]);omega)
def Tryz.c_Place1 (c:Circ) (hc:c.Valid) (place:List Int) (hp:PlaceOk (qaf c).length place):Pure prog 128 [dIs place,.ptr [dNis (qhc c (qaf c))]] (dI (qds c (qaf c) place)):=by
 have hnf:=qlL hc hp;have hNl:(qhc c (qaf c)).length<=1000:=by
  have:=qgF c (qaf c) (c.vars.toNat-1);have:=hc.vars_bd;show(qdO c (qaf c) (c.vars.toNat-1)).length<=1000
  omega
 have hpl:place.length<=1000:=by rw[hp.len];have:=qbA hc;omega
 rw[<-qoo hc place];generalize qhc c (qaf c)=N at *
 refine qaC func128 rfl ntmps128 fun ok=>?_
 simp only[go_sem,seval,-List.reduceReplicate] at ok
 repeat' first|assumption|(simp (disch:=first|assumption|omega|(simp;done)|(simp;omega)) only[go_sem,seval,-List.reduceReplicate,yaa,qac,qaY])|(with_reducible first|apply And.intro|intro _)|((try rw[qaa]);omega)
 refine qah (E:=env 0) tok (σ:=Nat) (fun i=>[(0,.d (dIs place)),(4,.d (dI (sumD place (N.take i)))),(7,.d (dNis N)),(8,.d (dI N.length)),(9,.d (dI i))]) (fun _=>[]) (fun i=>i<=N.length/\-(10*(i:Int))<=sumD place (N.take i)/\sumD place (N.take i)<=10*(i:Int)) (fun i=>N.length-i) [] [] 1000 1000 ?_ ?_
 ·simp only[go_sem,seval,-List.reduceReplicate];exact⟨0,⟨by omega,by simp[sumD],by simp[sumD]⟩,by simp[sumD]⟩
 ·rintro i ⟨hi,hb1,hb2⟩;by_cases hlt:i<N.length
  ·have hst:sumD place (N.take (i+1))=sumD place (N.take i)+qeG (qbb (N.getD i nin0) place):=qay (f:=fun s n=>s+qeG (qbb n place)) (b:=0) nin0 hlt;obtain⟨q1,q2,q3,q4,q5⟩:=hnf _ (qae hlt:N.getD i nin0∈N);have hln:=c_length _ place q1 q2 q3 q4 hpl q5;have hdb:=qkx q5;generalize hx9:N.getD i nin0=n at *
   generalize sumD place (N.take i)=s at *
   generalize qeG (qbb n place)=d at *
   repeat' first|assumption|(simp (disch:=first|assumption|omega|(simp;done)|(simp;omega)) only[go_sem,seval,-List.reduceReplicate,hx9,yaa,qac,qaY])|(with_reducible first|apply And.intro|intro _)|(refine qad hln ?_)|((try rw[qaa]);omega)
   refine⟨i+1,⟨by omega,by omega,by omega⟩,by omega,?_⟩;rw[hst];exact⟨rfl,rfl⟩
  ·obtain rfl:i=N.length:=by omega
   rw[yax]
   repeat' first|assumption|(simp (disch:=first|assumption|omega|(simp;done)|(simp;omega)) only[go_sem,seval,-List.reduceReplicate,yaa,qac,qaY])|(with_reducible first|apply And.intro|intro _)|((try rw[qaa]);omega)
def Tryz.c_exchanged (place:List Int) (i:Nat) (tile:Int) (hi:i<place.length) (hl:place.length<=25):Pure prog 130 [dIs place,dI i,dI tile] (dIs (tryP place i tile)):=by
 refine qaC func130 rfl ntmps130 fun ok=>?_
 simp only[go_sem,seval,-List.reduceReplicate] at ok
 repeat' first|assumption|(simp (disch:=first|assumption|omega|(simp;done)|(simp;omega)) only[go_sem,seval,-List.reduceReplicate,yaa,qac,qaY])|(with_reducible first|apply And.intro|intro _)|((try rw[qaa]);omega)
 refine qah (E:=env 0) tok (σ:=Nat×List Int) (fun s=>[(0,.d (dIs place)),(1,.d (dI i)),(2,.d (dI tile)),(7,.sl 0 0 1 0 place.length),(12,.d (dI place.length)),(13,.d (dI s.1))]) (fun s=>[.row 0 1 true (s.2.map (D.int .i64))])
  (fun s=>s.1<=place.length/\s.2.length=place.length/\∀ j,j<place.length->s.2.getD j 0=if j<s.1/\place.getD j 0=tile then place.getD i 0 else place.getD j 0) (fun s=>place.length-s.1) [] [] 1000 1000 ?_ ?_
 ·simp only[go_sem,seval,-List.reduceReplicate];exact⟨(0,place),⟨by simp,rfl,fun j hj=>by simp⟩,rfl,rfl⟩
 ·rintro⟨k,q⟩ ⟨hk,hql,hq⟩;simp only at hk hql hq;by_cases hkt:k<place.length
  ·have hqk:=hq k hkt;rw[if_neg (by omega)] at hqk
   repeat' first|assumption|(simp (disch:=first|assumption|omega|(simp;done)|(simp;omega)) only[go_sem,seval,-List.reduceReplicate,yaa,qac,qaY])|(with_reducible first|apply And.intro|intro _)|((try rw[qaa]);omega)
   ·rename_i h9;rw[hqk] at h9;refine⟨(k+1,q.set k (place.getD i 0)),⟨by simp only;omega,by simp only[yae];exact hql,fun j hj=>?_⟩,by simp only;omega,rfl,rfl⟩;simp only;rw[qcr (by omega),hq j hj];by_cases hjk:k=j
    ·subst hjk;rw[if_pos rfl,if_pos ⟨by omega,h9⟩]
    ·rw[if_neg hjk];by_cases h2:j<k/\place.getD j 0=tile
     ·rw[if_pos h2,if_pos ⟨by omega,h2.2⟩]
     ·rw[if_neg h2,if_neg (fun h=>h2 ⟨by omega,h.2⟩)]
   ·rename_i h9;rw[hqk] at h9;refine⟨(k+1,q),⟨by simp only;omega,hql,fun j hj=>?_⟩,by simp only;omega,rfl,rfl⟩;simp only;rw[hq j hj];by_cases h2:j<k/\place.getD j 0=tile
    ·rw[if_pos h2,if_pos ⟨by omega,h2.2⟩]
    ·rw[if_neg h2,if_neg (fun h=>by
      by_cases hjk:j=k
      ·subst hjk;exact h9 h.2
      ·exact h2 ⟨by omega,h.2⟩)]
  ·have e:q.set i tile=tryP place i tile:=by
    refine qeD 0 (by rw[yae,qgq,hql]) fun j hj=>?_
    rw[yae,hql] at hj;rw[qgr hj,qcr (by omega),hq j hj];by_cases hji:j=i
    ·rw[if_pos hji.symm,if_pos hji]
    ·rw[if_neg (Ne.symm hji),if_neg hji];by_cases h2:place.getD j 0=tile
     ·rw[if_pos ⟨by omega,h2⟩,if_pos h2]
     ·rw[if_neg (fun h=>h2 h.2),if_neg h2]
   repeat' first|assumption|(simp (disch:=first|assumption|omega|(simp;done)|(simp;omega)) only[go_sem,seval,-List.reduceReplicate,yaa,qac,qaY])|(with_reducible first|apply And.intro|intro _)|((try rw[qaa]);omega)
def Tryz.c_Place (c:Circ) (hc:c.Valid):PureF prog 69 [dC c] (dIs (qcq c (qaf c))):=by
 have hcv:=c_CircuitValid c;rw[decide_eq_true hc] at hcv;have hno:=c_netsOf c hc;have hce:=c_Cells c hc;have hcost:=fun p (h:PlaceOk (qaf c).length p)=>c_Place1 c hc p h
 have hcl:=qbA hc;refine qcF (E:=env 0) tok rfl 1000 func69 rfl rfl ntmps69 (by simp) fun ok=>?_
 simp only[go_sem,seval,-List.reduceReplicate] at ok
 repeat' first|assumption|(simp (disch:=first|assumption|omega|(simp;done)|(simp;omega)) only[go_sem,seval,-List.reduceReplicate,yaa,qac,qaY])|(with_reducible first|apply And.intro|intro _)|(refine qad hcv ?_)|((try rw[qaa]);omega)
 refine qas hno [0] (by simp only[go_sem,seval,-List.reduceReplicate]) ?_;rintro r0 H1 ⟨rfl,rfl⟩
 repeat' first|assumption|(simp (disch:=first|assumption|omega|(simp;done)|(simp;omega)) only[go_sem,seval,-List.reduceReplicate,yaa,qac,qaY])|(with_reducible first|apply And.intro|intro _)|(refine qbK hce ?_)|((try rw[qaa]);omega)
 have hpd:qcq c (qaf c)=((List.range 3).foldl (qcO c (qaf c)) (qcJ (qaf c).length,qds c (qaf c) (qcJ (qaf c).length))).1:=rfl;have hsw:=qgt (c:=c) (cells:=qaf c) (by omega);generalize qhc c (qaf c)=N at *
 generalize qaf c=cells at *
 refine qah (E:=env 0) tok (σ:=Nat) (fun i=>[(4,.fn 128 [.ptr 1 0]),(5,.sl 2 i 1 0 i),(19,.d (dI cells.length)),(20,.d (dI i))]) (fun i=>[.dead 0,.box [.d (dNis N)],.row i 1 true ((qcJ i).map (D.int .i64))]) (fun i=>i<=cells.length) (fun i=>cells.length-i) [] [(5,1,true)] 1000 1000 ?_ ?_
 ·simp only[go_sem,seval,-List.reduceReplicate];exact⟨0,by omega,by simp[qcJ]⟩
 ·intro i hi;have hil:(qcJ i).length=i:=by simp[qcJ]
  have his:qcJ (i+1)=qcJ i ++ [(i:Int)]:=by rw[qcJ,yaT,yaA];rfl
  by_cases hlt:i<cells.length
  ·generalize qcJ i=q at *
   simp only[go_sem,seval,-List.reduceReplicate]
   repeat' first|assumption|(simp (disch:=first|assumption|omega|(simp;done)|(simp;omega)) only[go_sem,seval,-List.reduceReplicate,hil,yaa,qac,qaY])|(with_reducible first|apply And.intro|intro _)|((try rw[qaa]);omega)
   refine⟨i+1,by omega,by omega,?_⟩;rw[his]
   repeat' apply And.intro
   all_goals rfl
  ·obtain rfl:i=cells.length:=by omega
   have hpo:=qkz (n:=cells.length) (by omega);generalize qcJ cells.length=P0 at *
   simp only[go_sem,seval,-List.reduceReplicate]
   repeat' first|assumption|(simp (disch:=first|assumption|omega|(simp;done)|(simp;omega)) only[go_sem,seval,-List.reduceReplicate,hil,yaa,qac,qaY])|(with_reducible first|apply And.intro|intro _)|(refine qad (hcost _ hpo) ?_)|((try rw[qaa]);omega)
   refine qah (E:=env 0) tok (σ:=Nat) (fun s=>[(4,.fn 128 [.ptr 1 0]),(5,.d (dIs ((List.range s).foldl (qcO c cells) (P0,qds c cells P0)).1)),(7,.d (dI ((List.range s).foldl (qcO c cells) (P0,qds c cells P0)).2)),(31,.d (dI s))]) (fun s=>[.dead 0,.box [.d (dNis N)]]) (fun s=>s<=3) (fun s=>3-s) [] [] 1000 1000 ?_ ?_
   ·simp only[go_sem,seval,-List.reduceReplicate];refine⟨0,by omega,?_⟩;simp[hil];exact yaa (by omega)
   ·intro s hs;have hS:=hsw s;have hS1:(List.range (s+1)).foldl (qcO c cells) (P0,qds c cells P0)=qcO c cells ((List.range s).foldl (qcO c cells) (P0,qds c cells P0)) s:=qa1;generalize hS9:(List.range s).foldl (qcO c cells) (P0,qds c cells P0)=S at *
    have hmid:=qgs (c:=c) hS;have hSd:qcO c cells S s=(List.range cells.length).foldl (rowP c cells) S:=rfl;have hSl:=hS.len;by_cases hst:s<3
    ·repeat' first|assumption|(simp (disch:=first|assumption|omega|(simp;done)|(simp;omega)) only[go_sem,seval,-List.reduceReplicate,yaa,qac,qaY])|(with_reducible first|apply And.intro|intro _)|((try rw[qaa]);omega)
     refine qah (E:=env 0) tok (σ:=Nat) (fun i=>[(4,.fn 128 [.ptr 1 0]),(5,.d (dIs ((List.range i).foldl (rowP c cells) S).1)),(7,.d (dI ((List.range i).foldl (rowP c cells) S).2)),(31,.d (dI s)),(34,.d (dI S.1.length)),(35,.d (dI i))]) (fun _=>[.dead 0,.box [.d (dNis N)]]) (fun i=>i<=cells.length) (fun i=>cells.length-i) [] [] 1000 1000 ?_ ?_
     ·simp only[go_sem,seval,-List.reduceReplicate];exact⟨0,by omega,by simp⟩
     ·intro i hi;have hI:=hmid i hi;have hI1:(List.range (i+1)).foldl (rowP c cells) S=rowP c cells ((List.range i).foldl (rowP c cells) S) i:=qa1;by_cases hit:i<cells.length
      ·generalize (List.range i).foldl (rowP c cells) S=M at *
       have hin:=qky (c:=c) hit hI;have hId:rowP c cells M i=(List.range 25).foldl (qeo c cells i) M:=rfl
       repeat' first|assumption|(simp (disch:=first|assumption|omega|(simp;done)|(simp;omega)) only[go_sem,seval,-List.reduceReplicate,yaa,qac,qaY])|(with_reducible first|apply And.intro|intro _)|((try rw[qaa]);omega)
       refine qah (E:=env 0) tok (σ:=Nat) (fun t=>[(4,.fn 128 [.ptr 1 0]),(5,.d (dIs ((List.range t).foldl (qeo c cells i) M).1)),(7,.d (dI ((List.range t).foldl (qeo c cells i) M).2)),(8,.d (dI i)),(31,.d (dI s)),(34,.d (dI S.1.length)),(35,.d (dI i)),(38,.d (dI t))]) (fun _=>[.dead 0,.box [.d (dNis N)]]) (fun t=>t<=25) (fun t=>25-t) [] [] 1000 1000 ?_ ?_
       ·simp only[go_sem,seval,-List.reduceReplicate];exact⟨0,by omega,by simp⟩
       ·intro t ht;have hT:=hin t ht;have hT1:(List.range (t+1)).foldl (qeo c cells i) M=qeo c cells i ((List.range t).foldl (qeo c cells i) M) t:=qa1;by_cases htt:t<25
        ·generalize (List.range t).foldl (qeo c cells i) M=Z at *
         obtain⟨p,k⟩:=Z;simp only at hT;have hpl:=hT.len;have htr:=c_exchanged p i (t:Int) (by omega) (by omega);have hok:=hT.try_ hit (tile:=(t:Int)) (by omega);have hco:=hcost _ hok;have hsd:qeo c cells i (p,k) t=if qds c cells (tryP p i (t:Int))<k then(tryP p i (t:Int),qds c cells (tryP p i (t:Int))) else(p,k):=rfl
         generalize tryP p i (t:Int)=nx at *
         repeat' first|assumption|(simp (disch:=first|assumption|omega|(simp;done)|(simp;omega)) only[go_sem,seval,-List.reduceReplicate,yaa,qac,qaY])|(with_reducible first|apply And.intro|intro _)|(refine qad htr ?_)|(refine qad hco ?_)|((try rw[qaa]);omega)
         ·rename_i h9;refine⟨t+1,by omega,by omega,?_⟩;rw[hT1,hsd,if_pos h9];exact⟨rfl,rfl,rfl⟩
         ·rename_i h9;refine⟨t+1,by omega,by omega,?_⟩;rw[hT1,hsd,if_neg h9];exact⟨rfl,rfl,rfl⟩
        ·obtain rfl:t=25:=by omega
         rw[<-hId,<-hI1]
         repeat' first|assumption|(simp (disch:=first|assumption|omega|(simp;done)|(simp;omega)) only[go_sem,seval,-List.reduceReplicate,yaa,qac,qaY])|(with_reducible first|apply And.intro|intro _)|((try rw[qaa]);omega)
         refine⟨i+1,by omega,by omega,?_⟩;rw[yaT];exact⟨rfl,rfl,rfl⟩
      ·obtain rfl:i=cells.length:=by omega
       rw[<-hSd,<-hS1]
       repeat' first|assumption|(simp (disch:=first|assumption|omega|(simp;done)|(simp;omega)) only[go_sem,seval,-List.reduceReplicate,yaa,qac,qaY])|(with_reducible first|apply And.intro|intro _)|((try rw[qaa]);omega)
       refine⟨s+1,by omega,by omega,?_⟩;rw[yaT];exact⟨rfl,rfl,rfl⟩
    ·obtain rfl:s=3:=by omega
     repeat' first|assumption|(simp (disch:=first|assumption|omega|(simp;done)|(simp;omega)) only[go_sem,seval,-List.reduceReplicate,yaa,qac,qaY])|(with_reducible first|apply And.intro|intro _)|((try rw[qaa]);omega)
     all_goals rw[hpd,<-hS9]
end Go.Proofs

set_option linter.unusedVariables false
set_option linter.unusedSimpArgs false
namespace Go.VL
set_option linter.defProp false
variable {c:Circ}{cells:List Cel}{place:List Int}
def qlO (cells:List Cel) (place:List Int) (net:Int):Nat->List Int
 | 0=>[]
 | i+1=>qlO cells place net i++(if net∈(cells.getD i ce0).inputs then [place.getD i 0] else [])
def qjX {cells:List Cel}{place:List Int}{net t:Int} : ∀ {n:Nat},t∈qlO cells place net n↔∃ i:Nat,i<n/\net∈(cells.getD i ce0).inputs/\t=place.getD i 0
 | 0=>by simp[qlO]
 | n+1=>by
  rw[qlO,yat,qjX];constructor
  ·rintro(⟨o,h1,h2,h3⟩|h)
   ·exact⟨o,by omega,h2,h3⟩
   ·split at h
    ·rename_i h2;exact⟨n,by omega,h2,by simpa using h⟩
    ·simp at h
  ·rintro⟨o,h1,h2,h3⟩;by_cases ho:o<n
   ·exact .inl ⟨o,ho,h2,h3⟩
   ·obtain rfl:o=n:=by omega
    rw[if_pos h2];exact .inr (by simp[h3])
def qp3 (c:Circ) (cells:List Cel) (place:List Int) (net:Int):List Int:=qlO cells place net cells.length++qa6 c net c.outs.length
def qjY {net t:Int}:t∈qp3 c cells place net↔t∈qax c cells place net:=by
 rw[qp3,yat,qjX,qg4,qcI]
def srcK (cells:List Cel) (place:List Int) (net:Int):Nat->Int
 | 0=>(net-1)*5
 | k+1=>if(cells.getD k ce0).net=net then place.getD k 0 else srcK cells place net k
def qmN {cells:List Cel}{place:List Int}{net:Int} : ∀ k,srcK cells place net k=if 0<=qdi cells net k then place.getD (qdi cells net k).toNat 0 else(net-1)*5
 | 0=>by simp[srcK,qdi]
 | k+1=>by
  rw[srcK,qdi];by_cases h:(cells.getD k ce0).net=net
  ·rw[if_pos h,if_pos h,if_pos (by omega),ybk]
  ·rw[if_neg h,if_neg h];exact qmN k
def qhe {k:Nat}{n:Int}:n∈qep c cells place k↔(1<=n/\n<=k)/\qdr c cells place n≠[]:=by
 rw[qep,List.mem_filter,decide_eq_true_eq];refine and_congr_left fun _=>?_
 constructor
 ·intro h;obtain⟨j,hj,rfl⟩:=List.mem_map.1 h;have:=List.mem_range.1 hj;omega
 ·rintro⟨h1,h2⟩;exact List.mem_map.2 ⟨(n-1).toNat,List.mem_range.2 (by omega),by omega⟩
def qi1 (hc:c.Valid) {busy0 busy:List (List Bool)}{rs:List Rt}(h:RoutesOk c (qaf c) place busy0 (c.vars.toNat-1) busy rs) {r:Rt}(hr:r∈rs) :
  (∀ t∈qp3 c (qaf c) place r.net,t∈qan r.hops)/\(r.hops.getD 0 (0,0)).1=srcK (qaf c) place r.net (qaf c).length:=by
 have hk:=h.each r hr;have hv:=hc.vars_bd;have hf:=hc.first_bd;have hn:r.net∈qep c (qaf c) place (c.vars.toNat-1):=by rw[<-h.nets];exact List.mem_map.2 ⟨r,hr,rfl⟩
 obtain⟨h1,h2⟩:=qhe.1 hn;have hu:qax c (qaf c) place r.net≠[]:=fun h3=>h2 ((qiV hc place h1.1 (by omega)).2 h3)
 have hp:=qgD hc place h1.1 (by omega:r.net<c.vars) hu;refine⟨fun t ht=>hk.pins t ?_,?_⟩
 ·rw[hp,qgo];exact .inr (qjY.1 ht)
 ·obtain⟨q,hq⟩:=hk.src;obtain⟨r2,hr2⟩:=qem (l:=qax c (qaf c) place r.net) (out:=[srcT (ninC c (qaf c) r.net) place]);rw[hp,hr2] at hq;rw[hq,qmN];rfl
end Go.VL

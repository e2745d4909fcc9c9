/- Contracts, plain definitions and lemmas. Conditions: none; lemmas. -/
import Derived.Test.YteikeianenfhaaaGreatK1
import Derived.Test.YteikeianenfhaaaGreatC11
set_option maxRecDepth 20000
set_option linter.unusedSimpArgs false
set_option linter.unusedVariables false
namespace Go.Proofs
open Go Go.VL
@[go_sem] theorem fit1_fn {K:List R}{g:Nat}{cs:List I}{y:I}:fit1 K (.fn g cs) y=fitS K (.fn g cs) y:=qid nofun
theorem Tryz.c_length (n:Nin) (place:List Int) (hs : ∀ i∈n.sinks,0<=i/\i<place.length) (hk:n.cell<place.length) (hl:n.sinks.length<=400) (hl2:n.pads.length<=400) (hp:place.length<=1000) (hb : ∀ t∈qa8 n place,0<=t/\t<=24):Pure Tryz.prog 129 [dNi n,dIs place] (dI (qeE (qa8 n place))):=by
 have ht:=Tryz.c_tiles n place hs hk (by omega) (by omega) hp;have hne:qa8 n place≠[]:=by simp[qa8]
 have hTl:(qa8 n place).length<=1000:=by simp[qa8];omega
 refine qas (E:=Tryz.env 0) Tryz.tok rfl 1000 Tryz.func129 rfl rfl Tryz.ntmps129 (by simp) fun ok=>?_
 simp only[go_sem,seval,-List.reduceReplicate] at ok;simp only[go_sem,seval,-List.reduceReplicate]
 repeat' first|assumption|(simp (disch:=first|assumption|omega|(simp;done)|(simp;omega)) only[qaa,qac,yaa,qab,qae,qaf,qah,qai,qar];try simp only[go_sem,seval,-List.reduceReplicate])|(with_reducible first|refine And.intro ?_ ?_|intro _)|(refine qaj ht ?_;simp only[go_sem,seval,-List.reduceReplicate])|((try rw[qad]);omega)
 generalize qa8 n place=T at *
 refine qap (E:=Tryz.env 0) Tryz.tok (σ:=Nat) (fun i=>[(5,.ptr 1 0),(6,.ptr 2 0),(15,.d (dIs T)),(16,.d (dI T.length)),(17,.d (dI i))])
  (fun i=>[.box [.d (dI n.net),.d (dI n.cell),.d (dI n.tile),.d (dIs n.sinks),.d (dIs n.pads)],.box [.d (dI (boxC (T.take i)).1),.d (dI (boxC (T.take i)).2.2.1)],.box [.d (dI (boxC (T.take i)).2.1),.d (dI (boxC (T.take i)).2.2.2)]]) (fun i=>i<=T.length) (fun i=>T.length-i) [] [] 1000 1000 ?_ ?_
 ·simp only[go_sem,seval,-List.reduceReplicate];exact⟨0,by omega,by simp[boxC]⟩
 ·intro i hi;have hbb:=qmm (tiles:=T.take i) (fun t h=>hb t (yat h));by_cases hlt:i<T.length
  ·have hst:boxC (T.take (i+1))=boxF (boxC (T.take i)) (T.getD i 0):=qaC (f:=boxF) (b:=(5,0,5,0)) (0:Int) hlt;have htb:=hb _ (qal hlt:T.getD i 0∈T);generalize boxC (T.take i)=S at *
   obtain⟨s1,s2,s3,s4⟩:=S;simp only at hbb;generalize hx9:T.getD i 0=t at *
   simp only[go_sem,seval,-List.reduceReplicate,hx9]
   repeat' first|assumption|(simp (disch:=first|assumption|omega|(simp;done)|(simp;omega)) only[qaa,qac,yaa,qab,qae,qaf,qah,qai,qar];try simp only[go_sem,seval,-List.reduceReplicate,hx9])|(with_reducible first|refine And.intro ?_ ?_|intro _)|((try rw[qad]);omega)
   refine qga (E:=Tryz.env 0) Tryz.tok 4 1000 1000 ?_;refine qa5 ?_;simp only[go_sem,seval,-List.reduceReplicate,hx9]
   repeat' first|assumption|(simp (disch:=first|assumption|omega|(simp;done)|(simp;omega)) only[qaa,qac,yaa,qab,qae,qaf,qah,qai,qar];try simp only[go_sem,seval,-List.reduceReplicate,hx9])|(with_reducible first|refine And.intro ?_ ?_|intro _)|((try rw[qad]);omega)
   refine qa5 ?_;simp only[go_sem,seval,-List.reduceReplicate,hx9]
   repeat' first|assumption|(simp (disch:=first|assumption|omega|(simp;done)|(simp;omega)) only[qaa,qac,yaa,qab,qae,qaf,qah,qai,qar];try simp only[go_sem,seval,-List.reduceReplicate,hx9])|(with_reducible first|refine And.intro ?_ ?_|intro _)|((try rw[qad]);omega)
   refine qa5 ?_;simp only[go_sem,seval,-List.reduceReplicate,hx9]
   repeat' first|assumption|(simp (disch:=first|assumption|omega|(simp;done)|(simp;omega)) only[qaa,qac,yaa,qab,qae,qaf,qah,qai,qar];try simp only[go_sem,seval,-List.reduceReplicate,hx9])|(with_reducible first|refine And.intro ?_ ?_|intro _)|((try rw[qad]);omega)
   refine⟨i+1,by omega,by omega,?_⟩;rw[hst]
   repeat' apply And.intro
   all_goals rfl
  ·obtain rfl:i=T.length:=by omega
   rw[yav] at hbb ⊢;have hd:qeE T=(boxC T).2.1-(boxC T).1+(boxC T).2.2.2-(boxC T).2.2.1:=if_neg hne;rw[hd];simp only[go_sem,seval,-List.reduceReplicate]
   repeat' first|assumption|(simp (disch:=first|assumption|omega|(simp;done)|(simp;omega)) only[qaa,qac,yaa,qab,qae,qaf,qah,qai,qar];try simp only[go_sem,seval,-List.reduceReplicate])|(with_reducible first|refine And.intro ?_ ?_|intro _)|((try rw[qad]);omega)
theorem Tryz.c_Place1 (c:Circ) (hc:c.Valid) (place:List Int) (hp:PlaceOk (qak c).length place):Pure Tryz.prog 128 [dIs place,.ptr [dNis (qg3 c (qak c))]] (dI (qds c (qak c) place)):=by
 have hnf:=qlt hc hp;have hNl:(qg3 c (qak c)).length<=1000:=by
  have:=qgv c (qak c) (c.vars.toNat-1);have:=hc.vars_bd;show(qdM c (qak c) (c.vars.toNat-1)).length<=1000
  omega
 have hpl:place.length<=1000:=by rw[hp.len];have:=qbS hc;omega
 rw[<-qnQ hc place];generalize qg3 c (qak c)=N at *
 refine qas (E:=Tryz.env 0) Tryz.tok rfl 1000 Tryz.func128 rfl rfl Tryz.ntmps128 (by simp) fun ok=>?_
 simp only[go_sem,seval,-List.reduceReplicate] at ok;simp only[go_sem,seval,-List.reduceReplicate]
 repeat' first|assumption|(simp (disch:=first|assumption|omega|(simp;done)|(simp;omega)) only[qaa,qac,yaa,qab,qae,qaf,qah,qai,qar];try simp only[go_sem,seval,-List.reduceReplicate])|(with_reducible first|refine And.intro ?_ ?_|intro _)|((try rw[qad]);omega)
 refine qap (E:=Tryz.env 0) Tryz.tok (σ:=Nat) (fun i=>[(0,.d (dIs place)),(4,.d (dI (sumD place (N.take i)))),(7,.d (dNis N)),(8,.d (dI N.length)),(9,.d (dI i))]) (fun _=>[]) (fun i=>i<=N.length/\-(10*(i:Int))<=sumD place (N.take i)/\sumD place (N.take i)<=10*(i:Int)) (fun i=>N.length-i) [] [] 1000 1000 ?_ ?_
 ·simp only[go_sem,seval,-List.reduceReplicate];exact⟨0,⟨by omega,by simp[sumD],by simp[sumD]⟩,by simp[sumD]⟩
 ·rintro i ⟨hi,hb1,hb2⟩;by_cases hlt:i<N.length
  ·have hst:sumD place (N.take (i+1))=sumD place (N.take i)+qeE (qa8 (N.getD i nin0) place):=qaC (f:=fun s n=>s+qeE (qa8 n place)) (b:=0) nin0 hlt;obtain⟨q1,q2,q3,q4,q5⟩:=hnf _ (qal hlt:N.getD i nin0∈N);have hln:=Tryz.c_length _ place q1 q2 q3 q4 hpl q5;have hdb:=qkk q5;generalize hx9:N.getD i nin0=n at *
   generalize sumD place (N.take i)=s at *
   generalize qeE (qa8 n place)=d at *
   simp only[go_sem,seval,-List.reduceReplicate,hx9]
   repeat' first|assumption|(simp (disch:=first|assumption|omega|(simp;done)|(simp;omega)) only[qaa,qac,yaa,qab,qae,qaf,qah,qai,qar];try simp only[go_sem,seval,-List.reduceReplicate,hx9])|(with_reducible first|refine And.intro ?_ ?_|intro _)|(refine qaj hln ?_;simp only[go_sem,seval,-List.reduceReplicate,hx9])|((try rw[qad]);omega)
   refine⟨i+1,⟨by omega,by omega,by omega⟩,by omega,?_⟩;rw[hst];exact⟨rfl,rfl⟩
  ·obtain rfl:i=N.length:=by omega
   rw[yav];simp only[go_sem,seval,-List.reduceReplicate]
   repeat' first|assumption|(simp (disch:=first|assumption|omega|(simp;done)|(simp;omega)) only[qaa,qac,yaa,qab,qae,qaf,qah,qai,qar];try simp only[go_sem,seval,-List.reduceReplicate])|(with_reducible first|refine And.intro ?_ ?_|intro _)|((try rw[qad]);omega)
theorem Tryz.c_exchanged (place:List Int) (i:Nat) (tile:Int) (hi:i<place.length) (hl:place.length<=25):Pure Tryz.prog 130 [dIs place,dI i,dI tile] (dIs (tryP place i tile)):=by
 refine qas (E:=Tryz.env 0) Tryz.tok rfl 1000 Tryz.func130 rfl rfl Tryz.ntmps130 (by simp) fun ok=>?_
 simp only[go_sem,seval,-List.reduceReplicate] at ok;simp only[go_sem,seval,-List.reduceReplicate]
 repeat' first|assumption|(simp (disch:=first|assumption|omega|(simp;done)|(simp;omega)) only[qaa,qac,yaa,qab,qae,qaf,qah,qai,qar];try simp only[go_sem,seval,-List.reduceReplicate])|(with_reducible first|refine And.intro ?_ ?_|intro _)|((try rw[qad]);omega)
 refine qap (E:=Tryz.env 0) Tryz.tok (σ:=Nat×List Int) (fun s=>[(0,.d (dIs place)),(1,.d (dI i)),(2,.d (dI tile)),(7,.sl 0 0 1 0 place.length),(12,.d (dI place.length)),(13,.d (dI s.1))]) (fun s=>[.row 0 1 true (s.2.map (D.int .i64))])
  (fun s=>s.1<=place.length/\s.2.length=place.length/\∀ j,j<place.length->s.2.getD j 0=if j<s.1/\place.getD j 0=tile then place.getD i 0 else place.getD j 0) (fun s=>place.length-s.1) [] [] 1000 1000 ?_ ?_
 ·simp only[go_sem,seval,-List.reduceReplicate];exact⟨(0,place),⟨by simp,rfl,fun j hj=>by simp⟩,rfl,rfl⟩
 ·rintro⟨k,q⟩ ⟨hk,hql,hq⟩;simp only at hk hql hq;by_cases hkt:k<place.length
  ·have hqk:=hq k hkt;rw[if_neg (by omega)] at hqk;simp only[go_sem,seval,-List.reduceReplicate]
   repeat' first|assumption|(simp (disch:=first|assumption|omega|(simp;done)|(simp;omega)) only[qaa,qac,yaa,qab,qae,qaf,qah,qai,qar];try simp only[go_sem,seval,-List.reduceReplicate])|(with_reducible first|refine And.intro ?_ ?_|intro _)|((try rw[qad]);omega)
   ·rename_i h9;rw[hqk] at h9;refine⟨(k+1,q.set k (place.getD i 0)),⟨by simp only;omega,by simp only[yar];exact hql,fun j hj=>?_⟩,by simp only;omega,rfl,rfl⟩;simp only;rw[qcs (by omega),hq j hj];by_cases hjk:k=j
    ·subst hjk;rw[if_pos rfl,if_pos ⟨by omega,h9⟩]
    ·rw[if_neg hjk];by_cases h2:j<k/\place.getD j 0=tile
     ·rw[if_pos h2,if_pos ⟨by omega,h2.2⟩]
     ·rw[if_neg h2,if_neg (fun h=>h2 ⟨by omega,h.2⟩)]
   ·rename_i h9;rw[hqk] at h9;refine⟨(k+1,q),⟨by simp only;omega,hql,fun j hj=>?_⟩,by simp only;omega,rfl,rfl⟩;simp only;rw[hq j hj];by_cases h2:j<k/\place.getD j 0=tile
    ·rw[if_pos h2,if_pos ⟨by omega,h2.2⟩]
    ·rw[if_neg h2,if_neg (fun h=>by
      by_cases hjk:j=k
      ·subst hjk;exact h9 h.2
      ·exact h2 ⟨by omega,h.2⟩)]
  ·have e:q.set i tile=tryP place i tile:=by
    refine qbz 0 (by rw[yar,qgk,hql]) fun j hj=>?_
    rw[yar,hql] at hj;rw[qgl hj,qcs (by omega),hq j hj];by_cases hji:j=i
    ·rw[if_pos hji.symm,if_pos hji]
    ·rw[if_neg (Ne.symm hji),if_neg hji];by_cases h2:place.getD j 0=tile
     ·rw[if_pos ⟨by omega,h2⟩,if_pos h2]
     ·rw[if_neg (fun h=>h2 h.2),if_neg h2]
   simp only[go_sem,seval,-List.reduceReplicate]
   repeat' first|assumption|(simp (disch:=first|assumption|omega|(simp;done)|(simp;omega)) only[qaa,qac,yaa,qab,qae,qaf,qah,qai,qar];try simp only[go_sem,seval,-List.reduceReplicate])|(with_reducible first|refine And.intro ?_ ?_|intro _)|((try rw[qad]);omega)
theorem Tryz.c_Place (c:Circ) (hc:c.Valid):PureF Tryz.prog 69 [dC c] (dIs (qb9 c (qak c))):=by
 have hcv:=Tryz.c_CircuitValid c;rw[decide_eq_true hc] at hcv;have hno:=Tryz.c_netsOf c hc;have hce:=Tryz.c_Cells c hc;have hcost:=fun p (h:PlaceOk (qak c).length p)=>Tryz.c_Place1 c hc p h
 have hcl:=qbS hc;refine qcG (E:=Tryz.env 0) Tryz.tok rfl 1000 Tryz.func69 rfl rfl Tryz.ntmps69 (by simp) fun ok=>?_
 simp only[go_sem,seval,-List.reduceReplicate] at ok;simp only[go_sem,seval,-List.reduceReplicate]
 repeat' first|assumption|(simp (disch:=first|assumption|omega|(simp;done)|(simp;omega)) only[qaa,qac,yaa,qab,qae,qaf,qah,qai,qar];try simp only[go_sem,seval,-List.reduceReplicate])|(with_reducible first|refine And.intro ?_ ?_|intro _)|(refine qaj hcv ?_;simp only[go_sem,seval,-List.reduceReplicate])|((try rw[qad]);omega)
 refine qaB hno [0] (by simp only[go_sem,seval,-List.reduceReplicate]) ?_;rintro r0 H1 ⟨rfl,rfl⟩;simp only[go_sem,seval,-List.reduceReplicate]
 repeat' first|assumption|(simp (disch:=first|assumption|omega|(simp;done)|(simp;omega)) only[qaa,qac,yaa,qab,qae,qaf,qah,qai,qar];try simp only[go_sem,seval,-List.reduceReplicate])|(with_reducible first|refine And.intro ?_ ?_|intro _)|(refine qbK hce ?_;simp only[go_sem,seval,-List.reduceReplicate])|((try rw[qad]);omega)
 have hpd:qb9 c (qak c)=((List.range 3).foldl (qcP c (qak c)) (qcK (qak c).length,qds c (qak c) (qcK (qak c).length))).1:=rfl;have hsw:=qgn (c:=c) (cells:=qak c) (by omega);generalize qg3 c (qak c)=N at *
 generalize qak c=cells at *
 refine qap (E:=Tryz.env 0) Tryz.tok (σ:=Nat) (fun i=>[(4,.fn 128 [.ptr 1 0]),(5,.sl 2 i 1 0 i),(19,.d (dI cells.length)),(20,.d (dI i))]) (fun i=>[.dead 0,.box [.d (dNis N)],.row i 1 true ((qcK i).map (D.int .i64))]) (fun i=>i<=cells.length) (fun i=>cells.length-i) [] [(5,1,true)] 1000 1000 ?_ ?_
 ·simp only[go_sem,seval,-List.reduceReplicate];exact⟨0,by omega,by simp[qcK]⟩
 ·intro i hi;have hil:(qcK i).length=i:=by simp[qcK]
  have his:qcK (i+1)=qcK i ++ [(i:Int)]:=by rw[qcK,yaT,yaC];rfl
  by_cases hlt:i<cells.length
  ·generalize qcK i=q at *
   simp only[go_sem,seval,-List.reduceReplicate]
   repeat' first|assumption|(simp (disch:=first|assumption|omega|(simp;done)|(simp;omega)) only[qaa,qac,yaa,qab,qae,qaf,qah,qai,qar];try simp only[go_sem,seval,-List.reduceReplicate,hil])|(with_reducible first|refine And.intro ?_ ?_|intro _)|((try rw[qad]);omega)
   refine⟨i+1,by omega,by omega,?_⟩;rw[his]
   repeat' apply And.intro
   all_goals rfl
  ·obtain rfl:i=cells.length:=by omega
   have hpo:=qkm (n:=cells.length) (by omega);generalize qcK cells.length=P0 at *
   simp only[go_sem,seval,-List.reduceReplicate]
   repeat' first|assumption|(simp (disch:=first|assumption|omega|(simp;done)|(simp;omega)) only[qaa,qac,yaa,qab,qae,qaf,qah,qai,qar];try simp only[go_sem,seval,-List.reduceReplicate,hil])|(with_reducible first|refine And.intro ?_ ?_|intro _)|(refine qaj (hcost _ hpo) ?_;simp only[go_sem,seval,-List.reduceReplicate,hil])|((try rw[qad]);omega)
   refine qap (E:=Tryz.env 0) Tryz.tok (σ:=Nat) (fun s=>[(4,.fn 128 [.ptr 1 0]),(5,.d (dIs ((List.range s).foldl (qcP c cells) (P0,qds c cells P0)).1)),(7,.d (dI ((List.range s).foldl (qcP c cells) (P0,qds c cells P0)).2)),(31,.d (dI s))]) (fun s=>[.dead 0,.box [.d (dNis N)]]) (fun s=>s<=3) (fun s=>3-s) [] [] 1000 1000 ?_ ?_
   ·simp only[go_sem,seval,-List.reduceReplicate];refine⟨0,by omega,?_⟩;simp[hil];exact yaa (by omega)
   ·intro s hs;have hS:=hsw s;have hS1:(List.range (s+1)).foldl (qcP c cells) (P0,qds c cells P0)=qcP c cells ((List.range s).foldl (qcP c cells) (P0,qds c cells P0)) s:=qaW;generalize hS9:(List.range s).foldl (qcP c cells) (P0,qds c cells P0)=S at *
    have hmid:=qgm (c:=c) hS;have hSd:qcP c cells S s=(List.range cells.length).foldl (rowP c cells) S:=rfl;have hSl:=hS.len;by_cases hst:s<3
    ·simp only[go_sem,seval,-List.reduceReplicate]
     repeat' first|assumption|(simp (disch:=first|assumption|omega|(simp;done)|(simp;omega)) only[qaa,qac,yaa,qab,qae,qaf,qah,qai,qar];try simp only[go_sem,seval,-List.reduceReplicate])|(with_reducible first|refine And.intro ?_ ?_|intro _)|((try rw[qad]);omega)
     refine qap (E:=Tryz.env 0) Tryz.tok (σ:=Nat) (fun i=>[(4,.fn 128 [.ptr 1 0]),(5,.d (dIs ((List.range i).foldl (rowP c cells) S).1)),(7,.d (dI ((List.range i).foldl (rowP c cells) S).2)),(31,.d (dI s)),(34,.d (dI S.1.length)),(35,.d (dI i))]) (fun _=>[.dead 0,.box [.d (dNis N)]]) (fun i=>i<=cells.length) (fun i=>cells.length-i) [] [] 1000 1000 ?_ ?_
     ·simp only[go_sem,seval,-List.reduceReplicate];exact⟨0,by omega,by simp⟩
     ·intro i hi;have hI:=hmid i hi;have hI1:(List.range (i+1)).foldl (rowP c cells) S=rowP c cells ((List.range i).foldl (rowP c cells) S) i:=qaW;by_cases hit:i<cells.length
      ·generalize (List.range i).foldl (rowP c cells) S=M at *
       have hin:=qkl (c:=c) hit hI;have hId:rowP c cells M i=(List.range 25).foldl (qem c cells i) M:=rfl;simp only[go_sem,seval,-List.reduceReplicate]
       repeat' first|assumption|(simp (disch:=first|assumption|omega|(simp;done)|(simp;omega)) only[qaa,qac,yaa,qab,qae,qaf,qah,qai,qar];try simp only[go_sem,seval,-List.reduceReplicate])|(with_reducible first|refine And.intro ?_ ?_|intro _)|((try rw[qad]);omega)
       refine qap (E:=Tryz.env 0) Tryz.tok (σ:=Nat) (fun t=>[(4,.fn 128 [.ptr 1 0]),(5,.d (dIs ((List.range t).foldl (qem c cells i) M).1)),(7,.d (dI ((List.range t).foldl (qem c cells i) M).2)),(8,.d (dI i)),(31,.d (dI s)),(34,.d (dI S.1.length)),(35,.d (dI i)),(38,.d (dI t))]) (fun _=>[.dead 0,.box [.d (dNis N)]]) (fun t=>t<=25) (fun t=>25-t) [] [] 1000 1000 ?_ ?_
       ·simp only[go_sem,seval,-List.reduceReplicate];exact⟨0,by omega,by simp⟩
       ·intro t ht;have hT:=hin t ht;have hT1:(List.range (t+1)).foldl (qem c cells i) M=qem c cells i ((List.range t).foldl (qem c cells i) M) t:=qaW;by_cases htt:t<25
        ·generalize (List.range t).foldl (qem c cells i) M=Z at *
         obtain⟨p,k⟩:=Z;simp only at hT;have hpl:=hT.len;have htr:=Tryz.c_exchanged p i (t:Int) (by omega) (by omega);have hok:=hT.try_ hit (tile:=(t:Int)) (by omega);have hco:=hcost _ hok;have hsd:qem c cells i (p,k) t=if qds c cells (tryP p i (t:Int))<k then(tryP p i (t:Int),qds c cells (tryP p i (t:Int))) else(p,k):=rfl
         generalize tryP p i (t:Int)=nx at *
         simp only[go_sem,seval,-List.reduceReplicate]
         repeat' first|assumption|(simp (disch:=first|assumption|omega|(simp;done)|(simp;omega)) only[qaa,qac,yaa,qab,qae,qaf,qah,qai,qar];try simp only[go_sem,seval,-List.reduceReplicate])|(with_reducible first|refine And.intro ?_ ?_|intro _)|(refine qaj htr ?_;simp only[go_sem,seval,-List.reduceReplicate])|(refine qaj hco ?_;simp only[go_sem,seval,-List.reduceReplicate])|((try rw[qad]);omega)
         ·rename_i h9;refine⟨t+1,by omega,by omega,?_⟩;rw[hT1,hsd,if_pos h9];exact⟨rfl,rfl,rfl⟩
         ·rename_i h9;refine⟨t+1,by omega,by omega,?_⟩;rw[hT1,hsd,if_neg h9];exact⟨rfl,rfl,rfl⟩
        ·obtain rfl:t=25:=by omega
         rw[<-hId,<-hI1];simp only[go_sem,seval,-List.reduceReplicate]
         repeat' first|assumption|(simp (disch:=first|assumption|omega|(simp;done)|(simp;omega)) only[qaa,qac,yaa,qab,qae,qaf,qah,qai,qar];try simp only[go_sem,seval,-List.reduceReplicate])|(with_reducible first|refine And.intro ?_ ?_|intro _)|((try rw[qad]);omega)
         refine⟨i+1,by omega,by omega,?_⟩;rw[yaT];exact⟨rfl,rfl,rfl⟩
      ·obtain rfl:i=cells.length:=by omega
       rw[<-hSd,<-hS1];simp only[go_sem,seval,-List.reduceReplicate]
       repeat' first|assumption|(simp (disch:=first|assumption|omega|(simp;done)|(simp;omega)) only[qaa,qac,yaa,qab,qae,qaf,qah,qai,qar];try simp only[go_sem,seval,-List.reduceReplicate])|(with_reducible first|refine And.intro ?_ ?_|intro _)|((try rw[qad]);omega)
       refine⟨s+1,by omega,by omega,?_⟩;rw[yaT];exact⟨rfl,rfl,rfl⟩
    ·obtain rfl:s=3:=by omega
     simp only[go_sem,seval,-List.reduceReplicate]
     repeat' first|assumption|(simp (disch:=first|assumption|omega|(simp;done)|(simp;omega)) only[qaa,qac,yaa,qab,qae,qaf,qah,qai,qar];try simp only[go_sem,seval,-List.reduceReplicate])|(with_reducible first|refine And.intro ?_ ?_|intro _)|((try rw[qad]);omega)
     all_goals rw[hpd,<-hS9]

theorem Tryz.shp_ints {f:Nat}(y:D) (h:shp Tryz.tyT (f+2) 23 y) : ∃ l:List Int,y=dIs l:=
 shp_slice Tryz.ty23 Tryz.ty3 (fun y h=>shp_int Tryz.ty3 h) h
theorem Tryz.shp_Gate {f:Nat}(y:D) (h:shp Tryz.tyT (f+2) 216 y) : ∃ a:Int×Int,y=dP a:=by
 obtain⟨ys,rfl,k0⟩:=shp_struct Tryz.ty216 h;obtain⟨y1,r1,rfl,h1,k1⟩:=qho k0;obtain⟨y2,r2,rfl,h2,k2⟩:=qho k1;obtain rfl:=qoW k2;obtain⟨n,rfl⟩:=shp_int Tryz.ty3 h1;obtain⟨m,rfl⟩:=shp_int Tryz.ty3 h2;exact⟨(n,m),rfl⟩
theorem Tryz.shp_Gates {f:Nat}(y:D) (h:shp Tryz.tyT (f+3) 47 y) : ∃ l:List (Int×Int),y=dPs l:=
 shp_slice Tryz.ty47 Tryz.ty216 Tryz.shp_Gate h
theorem Tryz.shp_Circuit {f:Nat}(y:D) (h:shp Tryz.tyT (f+4) 49 y) : ∃ c:Circ,y=dC c:=by
 obtain⟨ys,rfl,k0⟩:=shp_struct Tryz.ty49 h;obtain⟨y1,r1,rfl,h1,k1⟩:=qho k0;obtain⟨y2,r2,rfl,h2,k2⟩:=qho k1;obtain⟨y3,r3,rfl,h3,k3⟩:=qho k2;obtain⟨y4,r4,rfl,h4,k4⟩:=qho k3;obtain rfl:=qoW k4;obtain⟨n,rfl⟩:=shp_int Tryz.ty3 h1;obtain⟨a,rfl⟩:=Tryz.shp_ints _ h2;obtain⟨b,rfl⟩:=Tryz.shp_Gates _ h3;obtain⟨d,rfl⟩:=Tryz.shp_ints _ h4;exact⟨⟨n,a,b,d⟩,rfl⟩
theorem Tryz.c_szCircuit (c:Circ) (k:Int) (hk:0<=k/\k<=1048576):Pure Tryz.prog 23 [dC c,dI k] (dI (if k<c.next.length+c.gates.length+c.outs.length then -1 else k-(c.next.length:Int)-(c.gates.length:Int)-(c.outs.length:Int))):=by
 refine qas (E:=Tryz.env 0) Tryz.tok rfl 1000 Tryz.func23 rfl rfl Tryz.ntmps23 (by simp) fun ok=>?_
 simp only[go_sem,seval] at ok;simp only[go_sem,seval];refine qaj (Tryz.c_szIntS _ k hk) ?_;by_cases h1:k<c.next.length
 ·rw[if_pos h1,if_pos (by omega)];simp only[go_sem,seval]
 rw[if_neg h1];simp only[go_sem,seval];refine⟨fun h=>by omega,fun _=>?_⟩;refine qaj (Tryz.c_szGateS _ _ (by omega)) ?_;by_cases h2:k-c.next.length<c.gates.length
 ·rw[if_pos h2,if_pos (by omega)];simp only[go_sem,seval]
 rw[if_neg h2];simp only[go_sem,seval];refine⟨fun h=>by omega,fun _=>?_⟩;refine qaj (Tryz.c_szIntS _ _ (by omega)) ?_;by_cases h3:k-c.next.length-c.gates.length<c.outs.length
 ·rw[if_pos h3,if_pos (by omega)];simp only[go_sem,seval]
 rw[if_neg h3,if_neg (by omega)];simp only[go_sem,seval];omega
end Go.Proofs

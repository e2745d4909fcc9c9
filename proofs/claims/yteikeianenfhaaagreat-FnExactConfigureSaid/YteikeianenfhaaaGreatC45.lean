/- Contracts, plain definitions and lemmas. Conditions: none; lemmas. -/
import Derived.Test.YteikeianenfhaaaGreatK1
import Derived.Test.YteikeianenfhaaaGreatC11
import Derived.Test.YteikeianenfhaaaGreatC10
set_option maxRecDepth 20000
set_option linter.unusedSimpArgs false
set_option linter.unusedVariables false
set_option maxHeartbeats 2000000
namespace Go.Proofs
open Go Go.VL Tryz
@[go_sem] theorem fit1_fn {K:List R}{g:Nat}{cs:List I}{y:I}:fit1 K (.fn g cs) y=fitS K (.fn g cs) y:=qjb nofun
theorem Tryz.c_length (n:Nin) (place:List Int) (hs : ∀ i∈n.sinks,0<=i/\i<place.length) (hk:n.cell<place.length) (hl:n.sinks.length<=400) (hl2:n.pads.length<=400) (hp:place.length<=1000) (hb : ∀ t∈qa3 n place,0<=t/\t<=24):Pure prog 129 [dNi n,dIs place] (dI (qeA (qa3 n place))):=by
 have ht:=c_tiles n place hs hk (by omega) (by omega) hp;have hne:qa3 n place≠[]:=by simp[qa3]
 have hTl:(qa3 n place).length<=1000:=by simp[qa3];omega
 refine qav func129 rfl ntmps129 fun ok=>?_
 simp only[go_sem,seval,-List.reduceReplicate] at ok
 repeat' first|assumption|(simp (disch:=first|assumption|omega|(simp;done)|(simp;omega)) only[go_sem,seval,-List.reduceReplicate,yaa,qab,qaQ])|(with_reducible first|apply And.intro|intro _)|(refine qad ht ?_)|((try rw[qaa]);omega)
 generalize qa3 n place=T at *
 refine qai (E:=env 0) tok (σ:=Nat) (fun i=>[(5,.ptr 1 0),(6,.ptr 2 0),(15,.d (dIs T)),(16,.d (dI T.length)),(17,.d (dI i))])
  (fun i=>[.box [.d (dI n.net),.d (dI n.cell),.d (dI n.tile),.d (dIs n.sinks),.d (dIs n.pads)],.box [.d (dI (boxC (T.take i)).1),.d (dI (boxC (T.take i)).2.2.1)],.box [.d (dI (boxC (T.take i)).2.1),.d (dI (boxC (T.take i)).2.2.2)]]) (fun i=>i<=T.length) (fun i=>T.length-i) [] [] 1000 1000 ?_ ?_
 ·simp only[go_sem,seval,-List.reduceReplicate];exact⟨0,by omega,by simp[boxC]⟩
 ·intro i hi;have hbb:=qmh (tiles:=T.take i) (fun t h=>hb t (yas h));by_cases hlt:i<T.length
  ·have hst:boxC (T.take (i+1))=boxF (boxC (T.take i)) (T.getD i 0):=qax (f:=boxF) (b:=(5,0,5,0)) (0:Int) hlt;have htb:=hb _ (qae hlt:T.getD i 0∈T);generalize boxC (T.take i)=S at *
   obtain⟨s1,s2,s3,s4⟩:=S;simp only at hbb;generalize hx9:T.getD i 0=t at *
   repeat' first|assumption|(simp (disch:=first|assumption|omega|(simp;done)|(simp;omega)) only[go_sem,seval,-List.reduceReplicate,hx9,yaa,qab,qaQ])|(with_reducible first|apply And.intro|intro _)|((try rw[qaa]);omega)
   refine qf5 (E:=env 0) tok 4 1000 1000 ?_;refine qaY ?_
   repeat' first|assumption|(simp (disch:=first|assumption|omega|(simp;done)|(simp;omega)) only[go_sem,seval,-List.reduceReplicate,hx9,yaa,qab,qaQ])|(with_reducible first|apply And.intro|intro _)|((try rw[qaa]);omega)
   refine qaY ?_
   repeat' first|assumption|(simp (disch:=first|assumption|omega|(simp;done)|(simp;omega)) only[go_sem,seval,-List.reduceReplicate,hx9,yaa,qab,qaQ])|(with_reducible first|apply And.intro|intro _)|((try rw[qaa]);omega)
   refine qaY ?_
   repeat' first|assumption|(simp (disch:=first|assumption|omega|(simp;done)|(simp;omega)) only[go_sem,seval,-List.reduceReplicate,hx9,yaa,qab,qaQ])|(with_reducible first|apply And.intro|intro _)|((try rw[qaa]);omega)
   refine⟨i+1,by omega,by omega,?_⟩;rw[hst]
   repeat' apply And.intro
   all_goals rfl
  ·obtain rfl:i=T.length:=by omega
   rw[yau] at hbb ⊢;have hd:qeA T=(boxC T).2.1-(boxC T).1+(boxC T).2.2.2-(boxC T).2.2.1:=if_neg hne;rw[hd]
   repeat' first|assumption|(simp (disch:=first|assumption|omega|(simp;done)|(simp;omega)) only[go_sem,seval,-List.reduceReplicate,yaa,qab,qaQ])|(with_reducible first|apply And.intro|intro _)|((try rw[qaa]);omega)
theorem Tryz.c_Place1 (c:Circ) (hc:c.Valid) (place:List Int) (hp:PlaceOk (qac c).length place):Pure prog 128 [dIs place,.ptr [dNis (qgV c (qac c))]] (dI (qdm c (qac c) place)):=by
 have hnf:=qln hc hp;have hNl:(qgV c (qac c)).length<=1000:=by
  have:=qgq c (qac c) (c.vars.toNat-1);have:=hc.vars_bd;show(qdH c (qac c) (c.vars.toNat-1)).length<=1000
  omega
 have hpl:place.length<=1000:=by rw[hp.len];have:=qbM hc;omega
 rw[<-qnQ hc place];generalize qgV c (qac c)=N at *
 refine qav func128 rfl ntmps128 fun ok=>?_
 simp only[go_sem,seval,-List.reduceReplicate] at ok
 repeat' first|assumption|(simp (disch:=first|assumption|omega|(simp;done)|(simp;omega)) only[go_sem,seval,-List.reduceReplicate,yaa,qab,qaQ])|(with_reducible first|apply And.intro|intro _)|((try rw[qaa]);omega)
 refine qai (E:=env 0) tok (σ:=Nat) (fun i=>[(0,.d (dIs place)),(4,.d (dI (sumD place (N.take i)))),(7,.d (dNis N)),(8,.d (dI N.length)),(9,.d (dI i))]) (fun _=>[]) (fun i=>i<=N.length/\-(10*(i:Int))<=sumD place (N.take i)/\sumD place (N.take i)<=10*(i:Int)) (fun i=>N.length-i) [] [] 1000 1000 ?_ ?_
 ·simp only[go_sem,seval,-List.reduceReplicate];exact⟨0,⟨by omega,by simp[sumD],by simp[sumD]⟩,by simp[sumD]⟩
 ·rintro i ⟨hi,hb1,hb2⟩;by_cases hlt:i<N.length
  ·have hst:sumD place (N.take (i+1))=sumD place (N.take i)+qeA (qa3 (N.getD i nin0) place):=qax (f:=fun s n=>s+qeA (qa3 n place)) (b:=0) nin0 hlt;obtain⟨q1,q2,q3,q4,q5⟩:=hnf _ (qae hlt:N.getD i nin0∈N);have hln:=c_length _ place q1 q2 q3 q4 hpl q5;have hdb:=qkc q5;generalize hx9:N.getD i nin0=n at *
   generalize sumD place (N.take i)=s at *
   generalize qeA (qa3 n place)=d at *
   repeat' first|assumption|(simp (disch:=first|assumption|omega|(simp;done)|(simp;omega)) only[go_sem,seval,-List.reduceReplicate,hx9,yaa,qab,qaQ])|(with_reducible first|apply And.intro|intro _)|(refine qad hln ?_)|((try rw[qaa]);omega)
   refine⟨i+1,⟨by omega,by omega,by omega⟩,by omega,?_⟩;rw[hst];exact⟨rfl,rfl⟩
  ·obtain rfl:i=N.length:=by omega
   rw[yau]
   repeat' first|assumption|(simp (disch:=first|assumption|omega|(simp;done)|(simp;omega)) only[go_sem,seval,-List.reduceReplicate,yaa,qab,qaQ])|(with_reducible first|apply And.intro|intro _)|((try rw[qaa]);omega)
theorem Tryz.c_exchanged (place:List Int) (i:Nat) (tile:Int) (hi:i<place.length) (hl:place.length<=25):Pure prog 130 [dIs place,dI i,dI tile] (dIs (tryP place i tile)):=by
 refine qav func130 rfl ntmps130 fun ok=>?_
 simp only[go_sem,seval,-List.reduceReplicate] at ok
 repeat' first|assumption|(simp (disch:=first|assumption|omega|(simp;done)|(simp;omega)) only[go_sem,seval,-List.reduceReplicate,yaa,qab,qaQ])|(with_reducible first|apply And.intro|intro _)|((try rw[qaa]);omega)
 refine qai (E:=env 0) tok (σ:=Nat×List Int) (fun s=>[(0,.d (dIs place)),(1,.d (dI i)),(2,.d (dI tile)),(7,.sl 0 0 1 0 place.length),(12,.d (dI place.length)),(13,.d (dI s.1))]) (fun s=>[.row 0 1 true (s.2.map (D.int .i64))])
  (fun s=>s.1<=place.length/\s.2.length=place.length/\∀ j,j<place.length->s.2.getD j 0=if j<s.1/\place.getD j 0=tile then place.getD i 0 else place.getD j 0) (fun s=>place.length-s.1) [] [] 1000 1000 ?_ ?_
 ·simp only[go_sem,seval,-List.reduceReplicate];exact⟨(0,place),⟨by simp,rfl,fun j hj=>by simp⟩,rfl,rfl⟩
 ·rintro⟨k,q⟩ ⟨hk,hql,hq⟩;simp only at hk hql hq;by_cases hkt:k<place.length
  ·have hqk:=hq k hkt;rw[if_neg (by omega)] at hqk
   repeat' first|assumption|(simp (disch:=first|assumption|omega|(simp;done)|(simp;omega)) only[go_sem,seval,-List.reduceReplicate,yaa,qab,qaQ])|(with_reducible first|apply And.intro|intro _)|((try rw[qaa]);omega)
   ·rename_i h9;rw[hqk] at h9;refine⟨(k+1,q.set k (place.getD i 0)),⟨by simp only;omega,by simp only[yar];exact hql,fun j hj=>?_⟩,by simp only;omega,rfl,rfl⟩;simp only;rw[qcm (by omega),hq j hj];by_cases hjk:k=j
    ·subst hjk;rw[if_pos rfl,if_pos ⟨by omega,h9⟩]
    ·rw[if_neg hjk];by_cases h2:j<k/\place.getD j 0=tile
     ·rw[if_pos h2,if_pos ⟨by omega,h2.2⟩]
     ·rw[if_neg h2,if_neg (fun h=>h2 ⟨by omega,h.2⟩)]
   ·rename_i h9;rw[hqk] at h9;refine⟨(k+1,q),⟨by simp only;omega,hql,fun j hj=>?_⟩,by simp only;omega,rfl,rfl⟩;simp only;rw[hq j hj];by_cases h2:j<k/\place.getD j 0=tile
    ·rw[if_pos h2,if_pos ⟨by omega,h2.2⟩]
    ·rw[if_neg h2,if_neg (fun h=>by
      by_cases hjk:j=k
      ·subst hjk;exact h9 h.2
      ·exact h2 ⟨by omega,h.2⟩)]
  ·have e:q.set i tile=tryP place i tile:=by
    refine qbD 0 (by rw[yar,qge,hql]) fun j hj=>?_
    rw[yar,hql] at hj;rw[qgf hj,qcm (by omega),hq j hj];by_cases hji:j=i
    ·rw[if_pos hji.symm,if_pos hji]
    ·rw[if_neg (Ne.symm hji),if_neg hji];by_cases h2:place.getD j 0=tile
     ·rw[if_pos ⟨by omega,h2⟩,if_pos h2]
     ·rw[if_neg (fun h=>h2 h.2),if_neg h2]
   repeat' first|assumption|(simp (disch:=first|assumption|omega|(simp;done)|(simp;omega)) only[go_sem,seval,-List.reduceReplicate,yaa,qab,qaQ])|(with_reducible first|apply And.intro|intro _)|((try rw[qaa]);omega)
theorem Tryz.c_Place (c:Circ) (hc:c.Valid):PureF prog 69 [dC c] (dIs (qb8 c (qac c))):=by
 have hcv:=c_CircuitValid c;rw[decide_eq_true hc] at hcv;have hno:=c_netsOf c hc;have hce:=c_Cells c hc;have hcost:=fun p (h:PlaceOk (qac c).length p)=>c_Place1 c hc p h
 have hcl:=qbM hc;refine qcA (E:=env 0) tok rfl 1000 func69 rfl rfl ntmps69 (by simp) fun ok=>?_
 simp only[go_sem,seval,-List.reduceReplicate] at ok
 repeat' first|assumption|(simp (disch:=first|assumption|omega|(simp;done)|(simp;omega)) only[go_sem,seval,-List.reduceReplicate,yaa,qab,qaQ])|(with_reducible first|apply And.intro|intro _)|(refine qad hcv ?_)|((try rw[qaa]);omega)
 refine qaA hno [0] (by simp only[go_sem,seval,-List.reduceReplicate]) ?_;rintro r0 H1 ⟨rfl,rfl⟩
 repeat' first|assumption|(simp (disch:=first|assumption|omega|(simp;done)|(simp;omega)) only[go_sem,seval,-List.reduceReplicate,yaa,qab,qaQ])|(with_reducible first|apply And.intro|intro _)|(refine qbC hce ?_)|((try rw[qaa]);omega)
 have hpd:qb8 c (qac c)=((List.range 3).foldl (qcJ c (qac c)) (qcE (qac c).length,qdm c (qac c) (qcE (qac c).length))).1:=rfl;have hsw:=qgh (c:=c) (cells:=qac c) (by omega);generalize qgV c (qac c)=N at *
 generalize qac c=cells at *
 refine qai (E:=env 0) tok (σ:=Nat) (fun i=>[(4,.fn 128 [.ptr 1 0]),(5,.sl 2 i 1 0 i),(19,.d (dI cells.length)),(20,.d (dI i))]) (fun i=>[.dead 0,.box [.d (dNis N)],.row i 1 true ((qcE i).map (D.int .i64))]) (fun i=>i<=cells.length) (fun i=>cells.length-i) [] [(5,1,true)] 1000 1000 ?_ ?_
 ·simp only[go_sem,seval,-List.reduceReplicate];exact⟨0,by omega,by simp[qcE]⟩
 ·intro i hi;have hil:(qcE i).length=i:=by simp[qcE]
  have his:qcE (i+1)=qcE i ++ [(i:Int)]:=by rw[qcE,yaT,yaB];rfl
  by_cases hlt:i<cells.length
  ·generalize qcE i=q at *
   simp only[go_sem,seval,-List.reduceReplicate]
   repeat' first|assumption|(simp (disch:=first|assumption|omega|(simp;done)|(simp;omega)) only[go_sem,seval,-List.reduceReplicate,hil,yaa,qab,qaQ])|(with_reducible first|apply And.intro|intro _)|((try rw[qaa]);omega)
   refine⟨i+1,by omega,by omega,?_⟩;rw[his]
   repeat' apply And.intro
   all_goals rfl
  ·obtain rfl:i=cells.length:=by omega
   have hpo:=qke (n:=cells.length) (by omega);generalize qcE cells.length=P0 at *
   simp only[go_sem,seval,-List.reduceReplicate]
   repeat' first|assumption|(simp (disch:=first|assumption|omega|(simp;done)|(simp;omega)) only[go_sem,seval,-List.reduceReplicate,hil,yaa,qab,qaQ])|(with_reducible first|apply And.intro|intro _)|(refine qad (hcost _ hpo) ?_)|((try rw[qaa]);omega)
   refine qai (E:=env 0) tok (σ:=Nat) (fun s=>[(4,.fn 128 [.ptr 1 0]),(5,.d (dIs ((List.range s).foldl (qcJ c cells) (P0,qdm c cells P0)).1)),(7,.d (dI ((List.range s).foldl (qcJ c cells) (P0,qdm c cells P0)).2)),(31,.d (dI s))]) (fun s=>[.dead 0,.box [.d (dNis N)]]) (fun s=>s<=3) (fun s=>3-s) [] [] 1000 1000 ?_ ?_
   ·simp only[go_sem,seval,-List.reduceReplicate];refine⟨0,by omega,?_⟩;simp[hil];exact yaa (by omega)
   ·intro s hs;have hS:=hsw s;have hS1:(List.range (s+1)).foldl (qcJ c cells) (P0,qdm c cells P0)=qcJ c cells ((List.range s).foldl (qcJ c cells) (P0,qdm c cells P0)) s:=qaR;generalize hS9:(List.range s).foldl (qcJ c cells) (P0,qdm c cells P0)=S at *
    have hmid:=qgg (c:=c) hS;have hSd:qcJ c cells S s=(List.range cells.length).foldl (rowP c cells) S:=rfl;have hSl:=hS.len;by_cases hst:s<3
    ·repeat' first|assumption|(simp (disch:=first|assumption|omega|(simp;done)|(simp;omega)) only[go_sem,seval,-List.reduceReplicate,yaa,qab,qaQ])|(with_reducible first|apply And.intro|intro _)|((try rw[qaa]);omega)
     refine qai (E:=env 0) tok (σ:=Nat) (fun i=>[(4,.fn 128 [.ptr 1 0]),(5,.d (dIs ((List.range i).foldl (rowP c cells) S).1)),(7,.d (dI ((List.range i).foldl (rowP c cells) S).2)),(31,.d (dI s)),(34,.d (dI S.1.length)),(35,.d (dI i))]) (fun _=>[.dead 0,.box [.d (dNis N)]]) (fun i=>i<=cells.length) (fun i=>cells.length-i) [] [] 1000 1000 ?_ ?_
     ·simp only[go_sem,seval,-List.reduceReplicate];exact⟨0,by omega,by simp⟩
     ·intro i hi;have hI:=hmid i hi;have hI1:(List.range (i+1)).foldl (rowP c cells) S=rowP c cells ((List.range i).foldl (rowP c cells) S) i:=qaR;by_cases hit:i<cells.length
      ·generalize (List.range i).foldl (rowP c cells) S=M at *
       have hin:=qkd (c:=c) hit hI;have hId:rowP c cells M i=(List.range 25).foldl (qeg c cells i) M:=rfl
       repeat' first|assumption|(simp (disch:=first|assumption|omega|(simp;done)|(simp;omega)) only[go_sem,seval,-List.reduceReplicate,yaa,qab,qaQ])|(with_reducible first|apply And.intro|intro _)|((try rw[qaa]);omega)
       refine qai (E:=env 0) tok (σ:=Nat) (fun t=>[(4,.fn 128 [.ptr 1 0]),(5,.d (dIs ((List.range t).foldl (qeg c cells i) M).1)),(7,.d (dI ((List.range t).foldl (qeg c cells i) M).2)),(8,.d (dI i)),(31,.d (dI s)),(34,.d (dI S.1.length)),(35,.d (dI i)),(38,.d (dI t))]) (fun _=>[.dead 0,.box [.d (dNis N)]]) (fun t=>t<=25) (fun t=>25-t) [] [] 1000 1000 ?_ ?_
       ·simp only[go_sem,seval,-List.reduceReplicate];exact⟨0,by omega,by simp⟩
       ·intro t ht;have hT:=hin t ht;have hT1:(List.range (t+1)).foldl (qeg c cells i) M=qeg c cells i ((List.range t).foldl (qeg c cells i) M) t:=qaR;by_cases htt:t<25
        ·generalize (List.range t).foldl (qeg c cells i) M=Z at *
         obtain⟨p,k⟩:=Z;simp only at hT;have hpl:=hT.len;have htr:=c_exchanged p i (t:Int) (by omega) (by omega);have hok:=hT.try_ hit (tile:=(t:Int)) (by omega);have hco:=hcost _ hok;have hsd:qeg c cells i (p,k) t=if qdm c cells (tryP p i (t:Int))<k then(tryP p i (t:Int),qdm c cells (tryP p i (t:Int))) else(p,k):=rfl
         generalize tryP p i (t:Int)=nx at *
         repeat' first|assumption|(simp (disch:=first|assumption|omega|(simp;done)|(simp;omega)) only[go_sem,seval,-List.reduceReplicate,yaa,qab,qaQ])|(with_reducible first|apply And.intro|intro _)|(refine qad htr ?_)|(refine qad hco ?_)|((try rw[qaa]);omega)
         ·rename_i h9;refine⟨t+1,by omega,by omega,?_⟩;rw[hT1,hsd,if_pos h9];exact⟨rfl,rfl,rfl⟩
         ·rename_i h9;refine⟨t+1,by omega,by omega,?_⟩;rw[hT1,hsd,if_neg h9];exact⟨rfl,rfl,rfl⟩
        ·obtain rfl:t=25:=by omega
         rw[<-hId,<-hI1]
         repeat' first|assumption|(simp (disch:=first|assumption|omega|(simp;done)|(simp;omega)) only[go_sem,seval,-List.reduceReplicate,yaa,qab,qaQ])|(with_reducible first|apply And.intro|intro _)|((try rw[qaa]);omega)
         refine⟨i+1,by omega,by omega,?_⟩;rw[yaT];exact⟨rfl,rfl,rfl⟩
      ·obtain rfl:i=cells.length:=by omega
       rw[<-hSd,<-hS1]
       repeat' first|assumption|(simp (disch:=first|assumption|omega|(simp;done)|(simp;omega)) only[go_sem,seval,-List.reduceReplicate,yaa,qab,qaQ])|(with_reducible first|apply And.intro|intro _)|((try rw[qaa]);omega)
       refine⟨s+1,by omega,by omega,?_⟩;rw[yaT];exact⟨rfl,rfl,rfl⟩
    ·obtain rfl:s=3:=by omega
     repeat' first|assumption|(simp (disch:=first|assumption|omega|(simp;done)|(simp;omega)) only[go_sem,seval,-List.reduceReplicate,yaa,qab,qaQ])|(with_reducible first|apply And.intro|intro _)|((try rw[qaa]);omega)
     all_goals rw[hpd,<-hS9]

theorem Tryz.shp_ints {f:Nat}(y:D) (h:shp tyT (f+2) 23 y) : ∃ l:List Int,y=dIs l:=
 shp_slice ty23 ty3 (fun y h=>shp_int ty3 h) h
theorem Tryz.shp_Gate {f:Nat}(y:D) (h:shp tyT (f+2) 216 y) : ∃ a:Int×Int,y=dP a:=by
 obtain⟨ys,rfl,k0⟩:=shp_struct ty216 h;obtain⟨y1,r1,rfl,h1,k1⟩:=qhg k0;obtain⟨y2,r2,rfl,h2,k2⟩:=qhg k1;obtain rfl:=qoQ k2;obtain⟨n,rfl⟩:=shp_int ty3 h1;obtain⟨m,rfl⟩:=shp_int ty3 h2;exact⟨(n,m),rfl⟩
theorem Tryz.shp_Gates {f:Nat}(y:D) (h:shp tyT (f+3) 47 y) : ∃ l:List (Int×Int),y=dPs l:=
 shp_slice ty47 ty216 shp_Gate h
theorem Tryz.shp_Circuit {f:Nat}(y:D) (h:shp tyT (f+4) 49 y) : ∃ c:Circ,y=dC c:=by
 obtain⟨ys,rfl,k0⟩:=shp_struct ty49 h;obtain⟨y1,r1,rfl,h1,k1⟩:=qhg k0;obtain⟨y2,r2,rfl,h2,k2⟩:=qhg k1;obtain⟨y3,r3,rfl,h3,k3⟩:=qhg k2;obtain⟨y4,r4,rfl,h4,k4⟩:=qhg k3;obtain rfl:=qoQ k4;obtain⟨n,rfl⟩:=shp_int ty3 h1;obtain⟨a,rfl⟩:=shp_ints _ h2;obtain⟨b,rfl⟩:=shp_Gates _ h3;obtain⟨d,rfl⟩:=shp_ints _ h4;exact⟨⟨n,a,b,d⟩,rfl⟩
theorem Tryz.c_szCircuit (c:Circ) (k:Int) (hk:0<=k/\k<=1048576):Pure prog 23 [dC c,dI k] (dI (if k<c.next.length+c.gates.length+c.outs.length then -1 else k-(c.next.length:Int)-(c.gates.length:Int)-(c.outs.length:Int))):=by
 refine qav func23 rfl ntmps23 fun ok=>?_
 simp only[go_sem,seval] at ok⊢;refine qad (c_szIntS _ k hk) ?_;by_cases h1:k<c.next.length
 ·rw[if_pos h1,if_pos (by omega)];simp only[go_sem,seval]
 rw[if_neg h1];simp only[go_sem,seval];refine⟨fun h=>by omega,fun _=>?_⟩;refine qad (c_szGateS _ _ (by omega)) ?_;by_cases h2:k-c.next.length<c.gates.length
 ·rw[if_pos h2,if_pos (by omega)];simp only[go_sem,seval]
 rw[if_neg h2];simp only[go_sem,seval];refine⟨fun h=>by omega,fun _=>?_⟩;refine qad (c_szIntS _ _ (by omega)) ?_;by_cases h3:k-c.next.length-c.gates.length<c.outs.length
 ·rw[if_pos h3,if_pos (by omega)];simp only[go_sem,seval]
 rw[if_neg h3,if_neg (by omega)];simp only[go_sem,seval];omega

abbrev dQ (p:Int×Bool):D:=.agg [dI p.1,dB p.2]
abbrev dTcs (l:List Tcfg):D:=.lst 4 (l.map fun x=>dTc x)
abbrev dQs (l:List (Int×Bool)):D:=.lst 2 (l.map fun x=>dQ x)
structure Kcfg where
 tiles:List Tcfg
 pads:List (Int×Bool)
noncomputable instance:DecidableEq Kcfg:=fun _ _=>Classical.propDecidable _
abbrev dK (k:Kcfg):D:=.agg [dTcs k.tiles,dQs k.pads]
def tc0:Tcfg:=⟨0,[],false,[]⟩
abbrev dFp (p:Int×Tcfg):D:=dFr p.1 p.2
theorem qam {l:List Tcfg}{i:Nat}{z:D}(h:i<l.length):(l.map fun x=>dTc x).getD i z=dTc (l.getD i tc0):=getD_lt _ _ _ _ _ h
theorem qat {l:List (Int×Bool)}{i:Nat}{z:D}(h:i<l.length):(l.map fun x=>dQ x).getD i z=dQ (l.getD i (0,false)):=getD_lt _ _ _ _ _ h
theorem getD_fp {l:List (Int×Tcfg)}{i:Nat}{z:D}(h:i<l.length):(l.map fun x=>dFp x).getD i z=dFp (l.getD i (0,tc0)):=getD_lt _ _ _ _ _ h
@[go_sem] theorem scalars_q {l:List (Int×Bool)}:scalars (l.map fun x=>dQ x)=true:=by induction l with|nil=>rfl|cons x r ih=>simp[scalars,D.cells,D.scalar,ih]
def wT (t:Tcfg):Nat:=t.select.length+t.drive.length
def sumB {α : Type}(f : α->Nat) (l:List α):Nat:=(l.map f).sum
theorem qlq {α : Type}{f : α->Nat}{l:List α}{i:Nat}(z : α) (h:i<l.length):sumB f (l.take (i+1))=sumB f (l.take i)+f (l.getD i z):=by
 rw[yaK h,sumB,sumB,yaB,List.sum_append];simp[List.getD,h]
theorem qps {α : Type}{f : α->Nat}{l:List α}(i:Nat):sumB f (l.take i)<=sumB f l:=by
 have:sumB f l=sumB f (l.take i)+sumB f (l.drop i):=by
  rw[sumB,sumB,sumB,<-List.sum_append,<-yaB,ybk]
 omega
def wK (k:Kcfg):Nat:=k.tiles.length+sumB wT k.tiles+k.pads.length
theorem Tryz.c_eqTileConfigS (a b:List Tcfg):Pure prog 110 [dTcs a,dTcs b] (.bool (decide (a=b))):=by
 refine qav func110 rfl ntmps110 fun ok=>?_
 simp only[go_sem,seval] at ok⊢;refine⟨fun h=>?_,fun hlen=>?_⟩
 ·simp only[false_eq_decide_iff];rintro rfl;exact h rfl
 refine qaF (E:=env 0) tok (σ:=Nat) (fun i=>[(0,.d (dTcs a)),(1,.d (dTcs b)),(5,.d (dI i))]) (fun _=>[]) (fun i=>i<=a.length/\∀ j,j<i->a.getD j tc0=b.getD j tc0) (fun i=>a.length-i) [] 1000 1000 ?_ ?_ ?_
 ·simp only[go_sem,seval]
 ·simp only[go_sem,seval];exact⟨0,⟨by omega,by omega⟩,rfl⟩
 ·rintro i ⟨hi,hinv⟩;by_cases hlt:i<a.length
  ·repeat' first|assumption|(simp (disch:=first|assumption|omega|(simp;done)|(simp;omega)) only[go_sem,seval,qam,qat])|(with_reducible first|apply And.intro|intro _)|(refine qb7 (fun _=>⟨c_eqTileConfig _ _,trivial⟩) ?_)|exact lexT|((try rw[qaa]);omega)
   ·rename_i h1;simp only[false_eq_decide_iff];rintro rfl;exact h1 rfl
   ·rename_i h1;exact qga hlt h1 hinv
  ·repeat' first|assumption|(simp (disch:=first|assumption|omega|(simp;done)|(simp;omega)) only[go_sem,seval,qam,qat])|(with_reducible first|apply And.intro|intro _)|exact lexT|((try rw[qaa]);omega)
   simp only[true_eq_decide_iff];exact qbD tc0 hlen fun j hj=>hinv j (by omega)
theorem Tryz.c_eqPadConfig (p q:Int×Bool):Pure prog 178 [dQ p,dQ q] (.bool (decide (p=q))):=by
 refine qav func178 rfl ntmps178 fun ok=>?_
 simp only[go_sem,seval] at ok⊢;obtain⟨a,b⟩:=p;obtain⟨c,d⟩:=q
 repeat' first|assumption|(simp (disch:=first|assumption|omega|(simp;done)|(simp;omega)) only[go_sem,seval,qam,qat])|(with_reducible first|apply And.intro|intro _)|exact lexT|((try rw[qaa]);omega)
 all_goals simp_all
theorem Tryz.c_eqPadConfigS (a b:List (Int×Bool)):Pure prog 111 [dQs a,dQs b] (.bool (decide (a=b))):=by
 refine qav func111 rfl ntmps111 fun ok=>?_
 simp only[go_sem,seval] at ok⊢;refine⟨fun h=>?_,fun hlen=>?_⟩
 ·simp only[false_eq_decide_iff];rintro rfl;exact h rfl
 refine qaF (E:=env 0) tok (σ:=Nat) (fun i=>[(0,.d (dQs a)),(1,.d (dQs b)),(5,.d (dI i))]) (fun _=>[]) (fun i=>i<=a.length/\∀ j,j<i->a.getD j (0,false)=b.getD j (0,false)) (fun i=>a.length-i) [] 1000 1000 ?_ ?_ ?_
 ·simp only[go_sem,seval]
 ·simp only[go_sem,seval];exact⟨0,⟨by omega,by omega⟩,rfl⟩
 ·rintro i ⟨hi,hinv⟩;by_cases hlt:i<a.length
  ·repeat' first|assumption|(simp (disch:=first|assumption|omega|(simp;done)|(simp;omega)) only[go_sem,seval,qam,qat])|(with_reducible first|apply And.intro|intro _)|(refine qb7 (fun _=>⟨c_eqPadConfig _ _,trivial⟩) ?_)|exact lexT|((try rw[qaa]);omega)
   ·rename_i h1;simp only[false_eq_decide_iff];rintro rfl;exact h1 rfl
   ·rename_i h1;exact qga hlt h1 hinv
  ·repeat' first|assumption|(simp (disch:=first|assumption|omega|(simp;done)|(simp;omega)) only[go_sem,seval,qam,qat])|(with_reducible first|apply And.intro|intro _)|exact lexT|((try rw[qaa]);omega)
   simp only[true_eq_decide_iff];exact qbD (0,false) hlen fun j hj=>hinv j (by omega)
theorem Tryz.c_eqConfig (a b:Kcfg):Pure prog 52 [dK a,dK b] (.bool (decide (a=b))):=by
 refine qav func52 rfl ntmps52 fun ok=>?_
 simp only[go_sem,seval] at ok⊢;obtain⟨t,p⟩:=a;obtain⟨t',p'⟩:=b
 repeat' first|assumption|(simp (disch:=first|assumption|omega|(simp;done)|(simp;omega)) only[go_sem,seval,qam,qat])|(with_reducible first|apply And.intro|intro _)|(refine qad (c_eqTileConfigS _ _) ?_)|(refine qad (c_eqPadConfigS _ _) ?_)|exact lexT|((try rw[qaa]);omega)
 all_goals simp_all
end Go.Proofs

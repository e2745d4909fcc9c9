/- Contracts: the reference's routing. Conditions: none; lemmas. -/
import Derived.Test.YtagfdhingigaoaaC64
set_option maxRecDepth 20000
set_option linter.unusedVariables false
set_option linter.unusedSimpArgs false
namespace Go.Proofs
open Go Go.VL
abbrev dRt (x:Rt):D:=.agg [dI x.net,dI x.track,dPs x.hops]
abbrev dRts (l:List Rt):D:=.lst 3 (l.map fun x=>dRt x)
theorem qaC {l:List Rt}{i:Nat}{z:D}(h:i<l.length):(l.map fun x=>dRt x).getD i z=dRt (l.getD i rt0):=getD_lt _ _ _ _ _ h
theorem Try.c_l8Next (t:Int) (h:0≤t∧t≤24):Pure Try.prog 66 [dI t] (dIs (nbC t)):=by
 have hr:=qab (y:=5) h.1
 refine qat (E:=Try.env 0) Try.tok rfl 1000 Try.func66 rfl rfl Try.ntmps66 (by simp) fun ok=>?_
 simp only[go_sem,seval] at ok
 simp only[go_sem,seval,Try.results66]
 repeat' first|assumption|(simp (disch:=first|assumption|omega|(simp;done)|(simp;omega)) only[List.take_of_length_le,qab];try simp only[go_sem,seval,Try.results66,hr])|(with_reducible first|apply And.intro|intro _)|(refine qac ?_;simp only[go_sem,seval,Try.results66,hr])|exact lexT|((try rw[qaa]);omega)
 all_goals (unfold nbC;repeat' split)
 all_goals first|rfl|(exfalso;omega)
theorem Try.c_l8On (hops:List (Int×Int)) (t:Int):Pure Try.prog 65 [dPs hops,dI t] (.bool (decide (t∈qaA hops))):=by
 refine qat (E:=Try.env 0) Try.tok rfl 1000 Try.func65 rfl rfl Try.ntmps65 (by simp) fun ok=>?_
 simp only[go_sem,seval] at ok
 simp only[go_sem,seval,Try.results65]
 repeat' first|assumption|(simp (disch:=first|assumption|omega|(simp;done)|(simp;omega)) only[List.take_of_length_le,qab];try simp only[go_sem,seval,Try.results65])|(with_reducible first|apply And.intro|intro _)|(refine qac ?_;simp only[go_sem,seval,Try.results65])|exact lexT|((try rw[qaa]);omega)
 refine qaH (E:=Try.env 0) Try.tok (σ:=Nat) (fun i=>[(0,.d (dPs hops)),(1,.d (dI t)),(4,.d (dB false)),(5,.d (dI i))]) (fun _=>[]) (fun i=>i≤hops.length∧∀ j,j<i→(hops.getD j (0,0)).1≠t) (fun i=>hops.length-i) [] 1000 1000 ?_ ?_ ?_
 ·simp only[go_sem,seval]
 ·simp only[go_sem,seval]
  exact⟨0,⟨by omega,by omega⟩,rfl⟩
 ·rintro i ⟨hi,hinv⟩
  by_cases hlt:i<hops.length
  ·simp only[go_sem,seval,Try.results65]
   repeat' first|assumption|(simp (disch:=first|assumption|omega|(simp;done)|(simp;omega)) only[List.take_of_length_le,qab];try simp only[go_sem,seval,Try.results65])|(with_reducible first|apply And.intro|intro _)|(refine qac ?_;simp only[go_sem,seval,Try.results65])|exact lexT|((try rw[qaa]);omega)
   ·rename_i h9
    rw[decide_eq_true]
    exact List.mem_map.2 ⟨_,qan hlt,h9⟩
   ·rename_i h9
    refine⟨i+1,⟨by omega,fun j hj=>?_⟩,by omega,rfl⟩
    by_cases hji:j=i
    ·subst hji;exact h9
    ·exact hinv j (by omega)
  ·simp only[go_sem,seval,Try.results65]
   repeat' first|assumption|(simp (disch:=first|assumption|omega|(simp;done)|(simp;omega)) only[List.take_of_length_le,qab];try simp only[go_sem,seval,Try.results65])|(with_reducible first|apply And.intro|intro _)|(refine qac ?_;simp only[go_sem,seval,Try.results65])|exact lexT|((try rw[qaa]);omega)
   simp only[false_eq_decide_iff]
   intro hm
   obtain⟨x,hx,he⟩:=List.mem_map.1 hm
   obtain⟨j,hj,rfl⟩:=qbb (0,0) hx
   exact hinv j (by omega) he
theorem Try.c_l8Path (g:Nat) (hops:List (Int×Int)) (sink:Int) (busy:List Bool) (hb:busy.length=25) (ht:TreeOk busy hops) (hs:0≤sink∧sink≤24) :
  ICall Try.prog 64 [.d (dPs hops),.d (dI sink),.sl 0 g 1 0 25] [.row g 1 true (busy.map D.bool)] (fun r H'=>r=.d (.tup [dPs ((qbs busy hops sink).getD hops),dB (qbs busy hops sink).isSome])∧H'=[.row g 1 true (busy.map D.bool)]):=by
 have hon:=Try.c_l8On hops sink
 refine qco (E:=Try.env 1) Try.tok rfl 1000 Try.func64 rfl rfl Try.ntmps64 (by simp) ?_
 simp only[go_sem,seval,Try.results64]
 repeat' first|assumption|(simp (disch:=first|assumption|omega|(simp;done)|(simp;omega)) only[List.take_of_length_le,qab];try simp only[go_sem,seval,Try.results64])|(with_reducible first|apply And.intro|intro _)|(refine qag hon ?_;simp only[go_sem,seval,Try.results64])|(refine qac ?_;simp only[go_sem,seval,Try.results64])|exact lexT|((try rw[qaa]);omega)
 ·rename_i h9
  rw[qbs,if_pos h9]
  refine qcR (by simp) (by simp only[go_sem,seval]) ?_
  simp only[go_sem,seval]
 rename_i h9
 have hex:qbs busy hops sink=if(bfsC hops sink busy).1.getD sink.toNat 0 = -2 then none else some (hops++qcs (bfsC hops sink busy).1 25 sink []):=if_neg h9
 have hhl:=qf7 ht
 refine qas (E:=Try.env 1) Try.tok (σ:=Nat) (fun i=>[(0,.d (dPs hops)),(1,.d (dI sink)),(2,.sl 0 g 1 0 25),(8,.sl 1 0 1 0 25),(9,.d (dI i))]) (fun i=>[.row g 1 true (busy.map D.bool),.row 0 1 true ((List.replicate i (-2:Int)++List.replicate (25-i) 0).map (D.int .i64))])
  (fun i=>i≤25) (fun i=>25-i) [] [] 1000 1000 ?_ ?_
 ·simp only[go_sem,seval]
  exact⟨0,by omega,by simp⟩
 ·intro i hi
  by_cases hit:i<25
  ·have hst:(List.replicate i (-2:Int)++List.replicate (25-i) 0).set i (-2)=List.replicate (i+1) (-2)++List.replicate (25-(i+1)) 0:=by
    rw[qfk (by simp) (by omega),List.replicate_succ',Nat.sub_sub]
   have hql:(List.replicate i (-2:Int)++List.replicate (25-i) 0).length=25:=by simp;omega
   generalize List.replicate i (-2:Int)++List.replicate (25-i) 0=q at *
   simp only[go_sem,seval,Try.results64]
   repeat' first|assumption|(simp (disch:=first|assumption|omega|(simp;done)|(simp;omega)) only[List.take_of_length_le,qab];try simp only[go_sem,seval,Try.results64,hql])|(with_reducible first|apply And.intro|intro _)|(refine qac ?_;simp only[go_sem,seval,Try.results64,hql])|exact lexT|((try rw[qaa]);omega)
   refine⟨i+1,by omega,by omega,rfl,?_⟩
   rw[hst]
  ·obtain rfl:i=25:=by omega
   rw[show List.replicate 25 (-2:Int)++List.replicate (25-25) 0=List.replicate 25 (-2) by simp]
   have hq25:(List.replicate 25 (-2:Int)).length=25:=by simp
   have hf0d:qih hops=hops.foldl (fun f h=>f.set h.1.toNat (-1)) (List.replicate 25 (-2)):=rfl
   generalize List.replicate 25 (-2:Int)=q0 at *
   simp only[go_sem,seval,Try.results64]
   repeat' first|assumption|(simp (disch:=first|assumption|omega|(simp;done)|(simp;omega)) only[List.take_of_length_le,qab];try simp only[go_sem,seval,Try.results64,hq25])|(with_reducible first|apply And.intro|intro _)|(refine qac ?_;simp only[go_sem,seval,Try.results64,hq25])|exact lexT|((try rw[qaa]);omega)
   refine qas (E:=Try.env 1) Try.tok (σ:=Nat) (fun i=>[(0,.d (dPs hops)),(1,.d (dI sink)),(2,.sl 0 g 1 0 25),(8,.sl 1 0 1 0 25),(10,.sl 2 i 1 0 i),(11,.d (dI i))]) (fun i=>[.row g 1 true (busy.map D.bool),.row 0 1 true (((hops.take i).foldl (fun f h=>f.set h.1.toNat (-1)) q0).map (D.int .i64)),.row i 1 true ((qaA (hops.take i)).map (D.int .i64))])
    (fun i=>i≤hops.length) (fun i=>hops.length-i) [] [] 1000 1000 ?_ ?_
   ·simp only[go_sem,seval]
    exact⟨0,by omega,by simp[qaA]⟩
   ·intro i hi
    have hfl:((hops.take i).foldl (fun f h=>f.set h.1.toNat (-1)) q0).length=25:=by
     have key : ∀ (l:List (Int×Int)) (f:List Int),(l.foldl (fun f h=>f.set h.1.toNat (-1)) f).length=f.length:=by
      intro l
      induction l with
      | nil=>exact fun f=>rfl
      | cons x l ih=>intro f;rw[List.foldl_cons,ih,List.length_set]
     rw[key,hq25]
    have htl:(qaA (hops.take i)).length=i:=by simp[qaA];omega
    by_cases hit:i<hops.length
    ·have hfs:=qaR (f:=fun(f:List Int) (h:Int×Int)=>f.set h.1.toNat (-1)) (b:=q0) ((0,0):Int×Int) hit
     have hts:qaA (hops.take (i+1))=qaA (hops.take i) ++ [(hops.getD i (0,0)).1]:=qdA (0,0) hit
     have hr:=ht.rng _ (qan hit:hops.getD i (0,0)∈hops)
     generalize (hops.take i).foldl (fun f h=>f.set h.1.toNat (-1)) q0=fr at *
     generalize qaA (hops.take i)=tl at *
     simp only[go_sem,seval,Try.results64]
     repeat' first|assumption|(simp (disch:=first|assumption|omega|(simp;done)|(simp;omega)) only[List.take_of_length_le,qab];try simp only[go_sem,seval,Try.results64,hfl,htl])|(with_reducible first|apply And.intro|intro _)|(refine qac ?_;simp only[go_sem,seval,Try.results64,hfl,htl])|exact lexT|((try rw[qaa]);omega)
     refine⟨i+1,by omega,by omega,?_⟩
     rw[hfs,hts]
     repeat' apply And.intro
     all_goals first|rfl|(simp;done)
    ·have e:hops.take i=hops:=List.take_of_length_le (by omega)
     rw[e,←hf0d]
     rw[e] at htl
     obtain rfl:i=hops.length:=by omega
     simp only[go_sem,seval,Try.results64]
     repeat' first|assumption|(simp (disch:=first|assumption|omega|(simp;done)|(simp;omega)) only[List.take_of_length_le,qab];try simp only[go_sem,seval,Try.results64,hq25])|(with_reducible first|apply And.intro|intro _)|(refine qac ?_;simp only[go_sem,seval,Try.results64,hq25])|exact lexT|((try rw[qaa]);omega)
     have hinv0:=binv0 (busy:=busy) ht.rng ht.nd
     have hbc:bfsC hops sink busy=bfsN busy sink 26 0 (qih hops,qaA hops):=rfl
     have hfin:=qkE ht sink
     have hl0:=qi4 (hops:=hops)
     refine qas (E:=Try.env 1) Try.tok (σ:=Nat×BS) (fun s=>[(0,.d (dPs hops)),(1,.d (dI sink)),(2,.sl 0 g 1 0 25),(8,.sl 1 0 1 0 25),(10,.sl 2 s.2.2.length 1 0 s.2.2.length),(12,.d (dI s.1))]) (fun s=>[.row g 1 true (busy.map D.bool),.row 0 1 true (s.2.1.map (D.int .i64)),.row s.2.2.length 1 true (s.2.2.map (D.int .i64))])
      (fun s=>s.1≤s.2.2.length∧BInv busy (qaA hops) s.2∧bfsN busy sink (26-s.1) s.1 s.2=bfsC hops sink busy) (fun s=>26-s.1) [] [] 1000 1000 ?_ ?_
     ·simp only[go_sem,seval]
      refine⟨(0,(qih hops,qaA hops)),⟨by simp,hinv0,hbc.symm⟩,?_⟩
      simp[htl]
     ·rintro⟨k,⟨fr,qu⟩⟩ ⟨hk,hbi,hbn⟩
      simp only at hk hbi hbn
      have hql:=hbi.qlen
      have hfl:=hbi.len
      simp only at hql hfl
      by_cases hkc:k<qu.length∧fr.getD sink.toNat 0 = -2
      ·have hqm:qu.getD k 0∈qu:=qan hkc.1
       have hqr:=hbi.rng _ hqm
       have hst:bfsN busy sink (26-(k+1)) (k+1) (visitB busy (fr,qu) (qu.getD k 0))=bfsC hops sink busy:=by
        rw[←hbn,show 26-k=(26-(k+1))+1 by omega,bfsN,if_pos hkc]
       have hnx:=Try.c_l8Next (qu.getD k 0) hqr
       have hvis:visitB busy (fr,qu) (qu.getD k 0)=(nbC (qu.getD k 0)).foldl (qcJ busy (qu.getD k 0)) (fr,qu):=rfl
       have hnb:=qpk hqr
       have hk1:=hkc.1
       have hk2:=hkc.2
       have hqg:=hqr
       generalize hq9:qu.getD k 0=q at *
       simp only[go_sem,seval,Try.results64,hq9,hk2]
       repeat' first|assumption|(simp (disch:=first|assumption|omega|(simp;done)|(simp;omega)) only[List.take_of_length_le,qab];try simp only[go_sem,seval,Try.results64,hq9,hk2])|(with_reducible first|apply And.intro|intro _)|(refine qag hnx ?_;simp only[go_sem,seval,Try.results64,hq9,hk2])|(refine qac ?_;simp only[go_sem,seval,Try.results64,hq9,hk2])|exact lexT|((try rw[qaa]);omega)
       have hvi:=hbi.visit hqm
       rw[hvis] at hvi
       have hsteps : ∀ i,BInv busy (qaA hops) (((nbC q).take i).foldl (qcJ busy q) (fr,qu)):=fun i=>hbi.steps _ hqm fun n hn=>List.mem_of_mem_take hn
       have hpre : ∀ i,∃ r,(((nbC q).take i).foldl (qcJ busy q) (fr,qu)).2=qu++r:=by
        intro i
        have key : ∀ (l:List Int) (s:BS),∃ r,(l.foldl (qcJ busy q) s).2=s.2++r:=by
         intro l
         induction l with
         | nil=>exact fun s=>⟨[],by simp⟩
         | cons n l ih=>
          intro s
          obtain⟨r1,h1⟩:=qi2 (busy:=busy) (q:=q) (n:=n) (s:=s)
          obtain⟨r2,h2⟩:=ih (qcJ busy q s n)
          exact⟨r1++r2,by rw[List.foldl_cons,h2,h1,List.append_assoc]⟩
        exact key _ _
       refine qas (E:=Try.env 1) Try.tok (σ:=Nat) (fun i=>[(0,.d (dPs hops)),(1,.d (dI sink)),(2,.sl 0 g 1 0 25),(8,.sl 1 0 1 0 25),(10,.sl 2 (((nbC q).take i).foldl (qcJ busy q) (fr,qu)).2.length 1 0 (((nbC q).take i).foldl (qcJ busy q) (fr,qu)).2.length),(12,.d (dI k)),(13,.d (dIs (nbC q))),(14,.d (dI i))])
        (fun i=>[.row g 1 true (busy.map D.bool),.row 0 1 true ((((nbC q).take i).foldl (qcJ busy q) (fr,qu)).1.map (D.int .i64)),.row (((nbC q).take i).foldl (qcJ busy q) (fr,qu)).2.length 1 true ((((nbC q).take i).foldl (qcJ busy q) (fr,qu)).2.map (D.int .i64))])
        (fun i=>i≤(nbC q).length) (fun i=>(nbC q).length-i) [] [] 1000 1000 ?_ ?_
       ·simp only[go_sem,seval]
        exact⟨0,by omega,by simp⟩
       ·intro i hi
        have hSi:=hsteps i
        obtain⟨r,hr⟩:=hpre i
        by_cases hit:i<(nbC q).length
        ·have hfs:=qaR (f:=qcJ busy q) (b:=(fr,qu)) (0:Int) hit
         have hn:=hnb _ (qan hit:(nbC q).getD i 0∈nbC q)
         generalize ((nbC q).take i).foldl (qcJ busy q) (fr,qu)=S at *
         obtain⟨f2,q2⟩:=S
         have hq2l:=hSi.qlen
         have hf2l:=hSi.len
         simp only at hr hq2l hf2l
         have hk3:k<q2.length:=by rw[hr];simp;omega
         have hqk:q2.getD k 0=q:=by rw[hr,qaw hk1];exact hq9
         have hsd:qcJ busy q (f2,q2) ((nbC q).getD i 0)=if f2.getD ((nbC q).getD i 0).toNat 0 = -2∧busy.getD ((nbC q).getD i 0).toNat false=false then(f2.set ((nbC q).getD i 0).toNat q,q2 ++ [(nbC q).getD i 0]) else(f2,q2):=rfl
         generalize hn9:(nbC q).getD i 0=n at *
         have hnl:(nbC q).length≤4:=by unfold nbC;repeat' split <;> simp
         simp only[go_sem,seval,Try.results64,hqk,hn9]
         repeat' first|assumption|(simp (disch:=first|assumption|omega|(simp;done)|(simp;omega)) only[List.take_of_length_le,qab];try simp only[go_sem,seval,Try.results64,hqk,hf2l,hn9])|(with_reducible first|apply And.intro|intro _)|(refine qac ?_;simp only[go_sem,seval,Try.results64,hqk,hf2l,hn9])|exact lexT|((try rw[qaa]);omega)
         ·rename_i h7
          refine qau (E:=Try.env 1) Try.tok Try.follows 1000 1000 [10] (fsts [0,1,2,3,5,6,7,4,8,9] (.one 10 .done)) (by kernel_rfl) ?_
          simp only[go_sem,seval,Try.results64,hqk,hn9]
          repeat' first|assumption|(simp (disch:=first|assumption|omega|(simp;done)|(simp;omega)) only[List.take_of_length_le,qab];try simp only[go_sem,seval,Try.results64,hqk,hf2l,hn9])|(with_reducible first|apply And.intro|intro _)|(refine qac ?_;simp only[go_sem,seval,Try.results64,hqk,hf2l,hn9])|exact lexT|((try rw[qaa]);omega)
          have e:((nbC q).take (i+1)).foldl (qcJ busy q) (fr,qu)=(f2.set n.toNat q,q2 ++ [n]):=by rw[hfs,hsd,if_pos (by simpa using h7)]
          refine⟨i+1,by omega,by omega,?_⟩
          rw[e]
          repeat' apply And.intro
          all_goals first|rfl|(simp;done)
         ·rename_i h7
          have e:((nbC q).take (i+1)).foldl (qcJ busy q) (fr,qu)=(f2,q2):=by rw[hfs,hsd,if_neg (by
           rintro⟨h1,h2⟩
           rcases h7 with h7|h7
           ·exact h7 h1
           ·rw[h2] at h7;exact absurd h7 (by simp))]
          refine⟨i+1,by omega,by omega,?_⟩
          rw[e]
          exact⟨⟨rfl,rfl⟩,rfl,rfl,rfl⟩
        ·have e:(nbC q).take i=nbC q:=List.take_of_length_le (by omega)
         rw[e,←hvis]
         rw[e,←hvis] at hSi hr
         have hgl:k+1≤(visitB busy (fr,qu) q).2.length:=by rw[hr];simp;omega
         generalize visitB busy (fr,qu) q=S at *
         simp only[go_sem,seval,Try.results64]
         repeat' first|assumption|(simp (disch:=first|assumption|omega|(simp;done)|(simp;omega)) only[List.take_of_length_le,qab];try simp only[go_sem,seval,Try.results64])|(with_reducible first|apply And.intro|intro _)|(refine qac ?_;simp only[go_sem,seval,Try.results64])|exact lexT|((try rw[qaa]);omega)
         exact⟨(k+1,S),⟨hgl,hSi,hst⟩,by simp only;omega,⟨rfl,rfl⟩,rfl,rfl,rfl⟩
      ·have hst:(fr,qu)=bfsC hops sink busy:=by
        rw[←hbn,show 26-k=(25-k)+1 by omega,bfsN,if_neg hkc]
       rw[←hst] at hfin hex
       have hpd : ¬ fr.getD sink.toNat 0 = -2→qbs busy hops sink=some (hops++qcs fr 25 sink []):=fun h=>by rw[hex,if_neg h]
       have hpn:fr.getD sink.toNat 0 = -2→qbs busy hops sink=none:=fun h=>by rw[hex,if_pos h]
       simp only[go_sem,seval,Try.results64]
       repeat' first|assumption|(simp (disch:=first|assumption|omega|(simp;done)|(simp;omega)) only[List.take_of_length_le,qab];try simp only[go_sem,seval,Try.results64])|(with_reducible first|apply And.intro|intro _)|(refine qac ?_;simp only[go_sem,seval,Try.results64])|exact lexT|((try rw[qaa]);omega)
       ·rename_i h8
        rw[hpn h8]
        refine qcR (by simp) (by simp only[go_sem,seval]) ?_
        simp only[go_sem,seval]
       rename_i h8
       rw[hpd h8]
       have hsm:=(hfin.seen sink hs.1 hs.2).1 h8
       obtain⟨p0,hp0,hpe⟩:=qbb 0 hsm
       simp only at hp0 hpe
       clear hbn hst hpd hpn hex hkc
       refine qas (E:=Try.env 1) Try.tok (σ:=Nat×Nat×List (Int×Int)) (fun s=>[(0,.d (dPs hops)),(8,.sl 1 0 1 0 25),(15,.d (dPs s.2.2)),(16,.d (dI (qu.getD s.2.1 0)))]) (fun s=>[.row g 1 true (busy.map D.bool),.row 0 1 true (fr.map (D.int .i64))])
        (fun s=>s.2.1<s.1∧s.2.1<qu.length∧s.1+s.2.2.length≤25∧qcs fr s.1 (qu.getD s.2.1 0) s.2.2=qcs fr 25 sink []) (fun s=>s.1) [] [] 1000 1000 ?_ ?_
       ·simp only[go_sem,seval]
        refine⟨(25,p0,[]),⟨by simp only;omega,hp0,by simp,by rw[hpe]⟩,?_⟩
        simp only[List.map_nil,true_and,and_true]
        first|exact hpe.symm|exact⟨rfl,hpe.symm⟩|(rw[hpe];simp;done)|(rw[hpe])
       ·rintro⟨f,p,acc⟩ ⟨hpf,hpq,hfa,hch⟩
        simp only at hpf hpq hfa hch
        have hpm:=hbi.rng _ (qan hpq:qu.getD p 0∈qu)
        have hroot:=hbi.root p hpq
        simp only at hroot
        obtain⟨f',rfl⟩ : ∃ f',f=f'+1:=⟨f-1,by omega⟩
        have hcs:qcs fr (f'+1) (qu.getD p 0) acc=if 0≤fr.getD (qu.getD p 0).toNat 0 then qcs fr f' (fr.getD (qu.getD p 0).toNat 0) ((qu.getD p 0,fr.getD (qu.getD p 0).toNat 0)::acc) else acc:=rfl
        rw[hcs] at hch
        by_cases hge:0≤fr.getD (qu.getD p 0).toNat 0
        ·rw[if_pos hge] at hch
         obtain⟨m,hm1,hm2⟩ : ∃ m,m<p∧qu.getD m 0=fr.getD (qu.getD p 0).toNat 0:=by
          rcases hroot with⟨h1,-⟩|⟨-,-,-,m,h4,h5,-⟩
          ·omega
          ·exact⟨m,h4,h5⟩
         generalize qu.getD p 0=tt at *
         generalize hv9:fr.getD tt.toNat 0=v at *
         simp only[go_sem,seval,Try.results64,hv9]
         repeat' first|assumption|(simp (disch:=first|assumption|omega|(simp;done)|(simp;omega)) only[List.take_of_length_le,qab];try simp only[go_sem,seval,Try.results64,hv9])|(with_reducible first|apply And.intro|intro _)|(refine qac ?_;simp only[go_sem,seval,Try.results64,hv9])|exact lexT|((try rw[qaa]);omega)
         refine⟨(f',m,(tt,v)::acc),⟨by simp only;omega,by simp only;omega,by simp only[List.length_cons];omega,by simp only;rw[hm2];exact hch⟩,by simp only;omega,?_⟩
         exact⟨rfl,hm2.symm⟩
        ·rw[if_neg hge] at hch
         generalize qu.getD p 0=tt at *
         simp only[go_sem,seval,Try.results64]
         repeat' first|assumption|(simp (disch:=first|assumption|omega|(simp;done)|(simp;omega)) only[List.take_of_length_le,qab];try simp only[go_sem,seval,Try.results64])|(with_reducible first|apply And.intro|intro _)|(refine qac ?_;simp only[go_sem,seval,Try.results64])|exact lexT|((try rw[qaa]);omega)
         refine qcR (by simp) (by simp only[go_sem,seval]) ?_
         simp only[go_sem,seval]
         rw[List.take_of_length_le (by simp),hch]
end Go.Proofs

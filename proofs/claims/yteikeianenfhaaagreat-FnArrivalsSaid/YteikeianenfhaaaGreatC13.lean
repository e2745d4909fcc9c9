/- Contracts, plain definitions and lemmas. Conditions: none; lemmas. -/
import Derived.Test.YteikeianenfhaaaGreatG1
import Derived.Test.YteikeianenfhaaaGreatF1
import Derived.Test.YteikeianenfhaaaGreatC9
import Derived.Test.YteikeianenfhaaaGreatC11
set_option maxRecDepth 20000
set_option linter.unusedSimpArgs false
set_option linter.unusedVariables false
set_option maxHeartbeats 2000000
namespace Go.Proofs
open Go Go.VL Tryz
abbrev cbox (c:Circ):R:=.box [.d (dI c.inputs),.d (dIs c.next),.d (dPs c.gates),.d (dIs c.outs)]
noncomputable def qpT (c:Circ) (place:List Int) (o:Option (List Rt)) (r:I) (H':List R):Prop:=
 match o with
 | none=>r=.tup [.d (.agg [.nil,.raw (.map none),.nil]),.d (dB false)]/\H'=[cbox c]
 | some rs=>∃ m B1 B4,HMok rs rs.length 0 m/\r=.tup [.agg [.d (dCes (qac c)),.map 2,.sl 3 0 1 0 (qbK c (qac c) place rs).length],.d (dB true)]/\
   H'=[cbox c,.box B1,.map (hkE m),.row 0 1 true ((qbK c (qac c) place rs).map (D.int .i64)),.box B4]
set_option maxHeartbeats 2000000 in
theorem Tryz.c_timingOf (c:Circ) (place:List Int) :
  ICall prog 98 [.ptr 0 0,.d (dIs place)] [cbox c] (qpT c place (qaM c place [])):=by
 have hR:=c_Route c place;cases hra:qaM c place [] with
 | none=>
  rw[hra] at hR;have hR:Pure prog 39 [dC c,dIs place] (.tup [.nil,dB false]):=hR;refine qaz (E:=env 1) tok rfl 1000 func98 rfl rfl ntmps98 (by simp) ?_
  repeat' first|assumption|(simp (disch:=first|assumption|omega|(simp;done)|(simp;omega)) only[go_sem,seval,-List.reduceReplicate,qah,qav])|(with_reducible first|apply And.intro|intro _)|(refine qad hR ?_)|((try rw[qaa]);omega)
  refine qa3 (r0:=.tup [.d (.agg [.nil,.raw (.map none),.nil]),.d (dB false)]) (H1:=[cbox c]) ?_ ⟨rfl,rfl⟩;simp only[go_sem,seval,-List.reduceReplicate]
 | some rs=>
  rw[hra] at hR;have hR:Pure prog 39 [dC c,dIs place] (.tup [dRts rs,dB true]):=hR;have hro:=qfp hra;obtain⟨hv,hp,-,busy,hRo⟩:=qfo hra;have hce:=c_Cells c hv;have hf:=hv.first_bd;have hi0:=hv.i0;have hi1:=hv.i1;have hvs:=c_vars c (by omega);have hvb:=hv.vars_bd;have hcl:=qbD hv;have hpn:=hp.len;refine qaz (E:=env 1) tok rfl 1000 func98 rfl rfl ntmps98 (by simp) ?_
  repeat' first|assumption|(simp (disch:=first|assumption|omega|(simp;done)|(simp;omega)) only[go_sem,seval,-List.reduceReplicate,qah,qav])|(with_reducible first|apply And.intro|intro _)|(refine qad hR ?_)|(refine qbU hce ?_)|(refine qad hvs ?_)|((try rw[qaa]);omega)
  have hrl:=hro.len;have hA0:List.replicate c.vars.toNat (0:Int)=arrT (qac c) place rs c.vars.toNat 0:=rfl;rw[hA0];have hAl:=fun i=>qeO (cells:=qac c) (place:=place) (routes:=rs) (N:=c.vars.toNat) i
  have hAb:=fun i v=>qjk (cells:=qac c) (place:=place) hro (N:=c.vars.toNat) i v
  have hcn:=qcT hv;have hcin:=qde hv;have hpr:=fun i hi=>hp.get (i:=i) hi
  have hAd:qbK c (qac c) place rs=arrT (qac c) place rs c.vars.toNat (qac c).length:=rfl;generalize hcs:qac c=cells at *
  refine qai (E:=env 1) tok (σ:=Nat×HMap) (fun s=>[(0,.ptr 0 0),(1,.d (dIs place)),(4,.ptr 1 0),(8,.ptr 4 0),(35,.d (dRts rs)),(36,.d (dI rs.length)),(37,.d (dI s.1))])
   (fun s=>[cbox c,.box [.d .nil,.d (.raw (.map none)),.d .nil],.map (hkE s.2),.row 0 1 true ((arrT cells place rs c.vars.toNat 0).map (D.int .i64)),.box [.d (dCes cells),.map 2,.sl 3 0 1 0 c.vars.toNat]]) (fun s=>s.1<=rs.length/\HMok rs s.1 0 s.2) (fun s=>rs.length-s.1) [] [] 1000 1000 ?_ ?_
  ·simp only[go_sem,seval,-List.reduceReplicate];exact⟨(0,[]),⟨by simp only;omega,HMok.zero rs⟩,by simp[hkE]⟩
  ·rintro⟨i,m⟩ ⟨hi,hm⟩;simp only at hi hm;by_cases hit:i<rs.length
   ·have hxm:rs.getD i rt0∈rs:=qab hit;have hhl:=hro.hops _ hxm;have htree:=(hRo.each _ hxm).tree;have hst:=fun j m2 (h:HMok rs i j m2) hj d hd=>HMok.step hro hit h hj (d:=d) hd
    have hat:=fun j hj=>hops_at hro hit (j:=j) hj
    have hfr:=fun j m2 (h:HMok rs i j m2) hj hf=>HMok.from_ hro hit h (j:=j) hj hf
    have hnx:=fun m2 h=>HMok.next (m:=m2) hit h
    have hbd:=fun t=>qec (net:=(rs.getD i rt0).net) (tile:=t) hro.hops
    generalize hx9:rs.getD i rt0=x at *
    repeat' first|assumption|(simp (disch:=first|assumption|omega|(simp;done)|(simp;omega)) only[go_sem,seval,-List.reduceReplicate,hx9,qah,qav])|(with_reducible first|apply And.intro|intro _)|((try rw[qaa]);omega)
    refine qai (E:=env 1) tok (σ:=Nat×HMap) (fun s=>[(0,.ptr 0 0),(1,.d (dIs place)),(4,.ptr 1 0),(8,.ptr 4 0),(35,.d (dRts rs)),(36,.d (dI rs.length)),(37,.d (dI i)),(10,.ptr 5 0),(42,.d (dPs x.hops)),(43,.d (dI x.hops.length)),(44,.d (dI s.1))])
     (fun s=>[cbox c,.box [.d .nil,.d (.raw (.map none)),.d .nil],.map (hkE s.2),.row 0 1 true ((arrT cells place rs c.vars.toNat 0).map (D.int .i64)),.box [.d (dCes cells),.map 2,.sl 3 0 1 0 c.vars.toNat],.box [.d (dI x.net),.d (dI x.track),.d (dPs x.hops)]]) (fun s=>s.1<=x.hops.length/\HMok rs i s.1 s.2) (fun s=>x.hops.length-s.1) [] [] 1000 1000 ?_ ?_
    ·simp only[go_sem,seval,-List.reduceReplicate];exact⟨(0,m),⟨by simp only;omega,hm⟩,rfl,rfl⟩
    ·rintro⟨j,m2⟩ ⟨hj,hm2⟩;simp only at hj hm2;by_cases hjt:j<x.hops.length
     ·have hst2:=hst j m2 hm2 hjt;have hat2:=hat j hjt;have hfr2:=hfr j m2 hm2 hjt;have hb1:=hbd (x.hops.getD j (0,0)).1;have hb2:=hbd (x.hops.getD j (0,0)).2;have eu:=fun d=>qoc (x.net,(x.hops.getD j (0,0)).1) d m2
      have ef:=qjn (x.net,(x.hops.getD j (0,0)).2) m2;generalize hu9:x.hops.getD j (0,0)=u at *
      simp only at eu ef;by_cases hge:0<=u.2
      ·rw[if_pos hge] at hat2;rw[hfr2 hge] at ef
       repeat' first|assumption|(simp (disch:=first|assumption|omega|(simp;done)|(simp;omega)) only[go_sem,seval,-List.reduceReplicate,hu9,eu,ef,yax,yap,qah,qav])|(with_reducible first|apply And.intro|intro _)|((try rw[qaa]);omega)
       refine qbN (n:=1) [16] (fsts [0,2,4,7,9,11,1,3,5,6,8,10,12,13,14,15] (.one 16 .done)) ?_
       repeat' first|assumption|(simp (disch:=first|assumption|omega|(simp;done)|(simp;omega)) only[go_sem,seval,-List.reduceReplicate,hu9,eu,ef,yax,yap,qah,qav])|(with_reducible first|apply And.intro|intro _)|((try rw[qaa]);omega)
       all_goals first|exact qhW rfl m2|skip
       refine⟨(j+1,hkUp m2 (x.net,u.1) (qa9 rs x.net u.2+1)),⟨by simp only;omega,hst2 _ hat2.symm⟩,by simp only;omega,rfl,rfl⟩
      ·rw[if_neg hge] at hat2
       repeat' first|assumption|(simp (disch:=first|assumption|omega|(simp;done)|(simp;omega)) only[go_sem,seval,-List.reduceReplicate,hu9,eu,qah,qav])|(with_reducible first|apply And.intro|intro _)|((try rw[qaa]);omega)
       ·exact qhW rfl m2
       ·exact⟨(j+1,hkUp m2 (x.net,u.1) 0),⟨by simp only;omega,hst2 _ hat2.symm⟩,by simp only;omega,rfl,rfl⟩
     ·obtain rfl:j=x.hops.length:=by omega
      have hnx2:=hnx m2 hm2
      repeat' first|assumption|(simp (disch:=first|assumption|omega|(simp;done)|(simp;omega)) only[go_sem,seval,-List.reduceReplicate,qah,qav])|(with_reducible first|apply And.intro|intro _)|((try rw[qaa]);omega)
      exact⟨(i+1,m2),⟨by simp only;omega,hnx2⟩,by simp only;omega,rfl,rfl⟩
   ·obtain rfl:i=rs.length:=by omega
    repeat' first|assumption|(simp (disch:=first|assumption|omega|(simp;done)|(simp;omega)) only[go_sem,seval,-List.reduceReplicate,qah,qav])|(with_reducible first|apply And.intro|intro _)|((try rw[qaa]);omega)
    refine qai (E:=env 1) tok (σ:=Nat) (fun i=>[(1,.d (dIs place)),(4,.ptr 1 0),(8,.ptr 4 0),(77,.d (dCes cells)),(78,.d (dI cells.length)),(79,.d (dI i))])
     (fun i=>[cbox c,.box [.d .nil,.d (.raw (.map none)),.d .nil],.map (hkE m),.row 0 1 true ((arrT cells place rs c.vars.toNat i).map (D.int .i64)),.box [.d (dCes cells),.map 2,.sl 3 0 1 0 c.vars.toNat]]) (fun i=>i<=cells.length) (fun i=>cells.length-i) [] [] 1000 1000 ?_ ?_
    ·simp only[go_sem,seval,-List.reduceReplicate];exact⟨0,by omega,rfl,rfl⟩
    ·intro i hi;have hali:=hAl i;have habi:=hAb i;by_cases hit:i<cells.length
     ·have hxm:cells.getD i ce0∈cells:=qab hit;have h1:=hcn _ hxm;have h2:=hcin _ hxm;have hpi:=hpr i hit;have hla:=fun nets hn hl tile=>c_latest 0 cells m (arrT cells place rs c.vars.toNat i) rs hm hro (2503*(i:Int)) (by omega) habi nets hn hl tile
      have hlb:=qhQ habi hro (place.getD i 0) (cells.getD i ce0).inputs;have has:arrT cells place rs c.vars.toNat (i+1)=if(cells.getD i ce0).reg then arrT cells place rs c.vars.toNat i else(arrT cells place rs c.vars.toNat i).set (cells.getD i ce0).net.toNat (latT (arrT cells place rs c.vars.toNat i) rs (cells.getD i ce0).inputs (place.getD i 0)+3):=rfl;generalize hx9:cells.getD i ce0=x at *
      have hla2:=hla x.inputs (fun n hn=>by have:=h2.2.2 n hn;omega) (by omega) (place.getD i 0);generalize arrT cells place rs c.vars.toNat i=A at *
      repeat' first|assumption|(simp (disch:=first|assumption|omega|(simp;done)|(simp;omega)) only[go_sem,seval,-List.reduceReplicate,hx9,qah,qav])|(with_reducible first|apply And.intro|intro _)|((try rw[qaa]);omega)
      ·rename_i h7;rw[if_neg (by rw[h7];simp)] at has;rw[hali] at hla2;refine qbN (n:=1) [11,14] (fsts [0,2,5,7,8,9,4,6,10] (.three 1 (.two 3 (.one 11 (fsts [12,13] (.one 14 .done))) 11 (.fst 12 (.one 3 (.fst 13 (.one 14 .done))))) 3 (.two 1 (.one 11 (fsts [12,13] (.one 14 .done))) 11 (.fst 12 (.one 1 (.fst 13 (.one 14 .done))))) 11 (.fst 12 (.two 1 (.one 3 (.fst 13 (.one 14 .done))) 3 (.one 1 (.fst 13 (.one 14 .done))))))) ?_
       repeat' first|assumption|(simp (disch:=first|assumption|omega|(simp;done)|(simp;omega)) only[go_sem,seval,-List.reduceReplicate,hx9,qah,qav])|(with_reducible first|apply And.intro|intro _)|((try rw[qaa]);omega)
       all_goals (
        refine qaq hla2 [2,3] (by simp only[go_sem,seval,-List.reduceReplicate]) ?_;rintro r0 H1 ⟨rfl,rfl⟩;simp only[go_sem,seval,-List.reduceReplicate,hx9]
        repeat' first|assumption|(simp (disch:=first|assumption|omega|(simp;done)|(simp;omega)) only[go_sem,seval,-List.reduceReplicate,hx9,qah,qav])|(with_reducible first|apply And.intro|intro _)|((try rw[qaa]);omega))
       all_goals (
        refine⟨i+1,by omega,by omega,rfl,?_⟩;rw[has,Int.add_comm 3])
      ·rename_i h7;rw[if_pos h7] at has;exact⟨i+1,by omega,by omega,rfl,has.symm⟩
     ·obtain rfl:i=cells.length:=by omega
      repeat' first|assumption|(simp (disch:=first|assumption|omega|(simp;done)|(simp;omega)) only[go_sem,seval,-List.reduceReplicate,qah,qav])|(with_reducible first|apply And.intro|intro _)|((try rw[qaa]);omega)
      have hN:c.vars.toNat=(qbK c cells place rs).length:=by rw[hAd,hAl]
      rw[<-hAd];rw[<-hcs] at hN ⊢;exact qbm ⟨m,_,_,hm,by rw[hN],rfl⟩

noncomputable def arrO (c:Circ) (place:List Int):D:=match qaM c place [] with
 | none=>.nil
 | some rs=>dIs (qbK c (qac c) place rs)
theorem Tryz.c_Arrivals (c:Circ) (place:List Int):Pure prog 36 [dC c,dIs place] (arrO c place):=by
 have hT:=c_timingOf c place;unfold arrO;cases hra:qaM c place [] with
 | none=>
  rw[hra] at hT;show Pure _ _ _ .nil
  refine qaA func36 rfl ntmps36 fun ok=>?_
  simp only[go_sem,seval,-List.reduceReplicate] at ok
  repeat' first|assumption|(simp (disch:=first|assumption|omega|(simp;done)|(simp;omega)) only[go_sem,seval,-List.reduceReplicate])|(with_reducible first|apply And.intro|intro _)|((try rw[qaa]);omega)
  refine qaq hT [0] (by simp only[go_sem,seval,-List.reduceReplicate]) ?_;rintro r0 H1 ⟨rfl,rfl⟩
  repeat' first|assumption|(simp (disch:=first|assumption|omega|(simp;done)|(simp;omega)) only[go_sem,seval,-List.reduceReplicate])|(with_reducible first|apply And.intro|intro _)|((try rw[qaa]);omega)
 | some rs=>
  rw[hra] at hT;show Pure _ _ _ (dIs (qbK c (qac c) place rs))
  refine qaA func36 rfl ntmps36 fun ok=>?_
  simp only[go_sem,seval,-List.reduceReplicate] at ok
  repeat' first|assumption|(simp (disch:=first|assumption|omega|(simp;done)|(simp;omega)) only[go_sem,seval,-List.reduceReplicate])|(with_reducible first|apply And.intro|intro _)|((try rw[qaa]);omega)
  refine qaq hT [0] (by simp only[go_sem,seval,-List.reduceReplicate]) ?_;rintro r0 H1 ⟨m,B1,B4,hm,rfl,rfl⟩
  repeat' first|assumption|(simp (disch:=first|assumption|omega|(simp;done)|(simp;omega)) only[go_sem,seval,-List.reduceReplicate])|(with_reducible first|apply And.intro|intro _)|((try rw[qaa]);omega)

theorem Tryz.c_l22Hops (rs:List Rt) (hro:RtsOk rs) (net tile:Int):Pure prog 207 [dRts rs,dI net,dI tile] (dI (qa9 rs net tile)):=by
 have hrl:=hro.len;refine qaA func207 rfl ntmps207 fun ok=>?_
 simp only[go_sem,seval,-List.reduceReplicate] at ok
 repeat' first|assumption|(simp (disch:=first|assumption|omega|(simp;done)|(simp;omega)) only[go_sem,seval,-List.reduceReplicate,yaa,qah,qav])|(with_reducible first|apply And.intro|intro _)|exact lexT|((try rw[qaa]);omega)
 have hbd:=fun i=>qec (net:=net) (tile:=tile) (l:=rs.take i) fun r hr=>hro.hops r (yam hr)
 refine qaI (E:=env 0) tok (σ:=Nat) (fun i=>[(0,.d (dRts rs)),(1,.d (dI net)),(2,.d (dI tile)),(6,.d (dI 0)),(7,.d (dI (qa9 (rs.take i) net tile))),(8,.d (dI i))]) (fun _=>[]) (fun i=>i<=rs.length) (fun i=>rs.length-i) [] 1000 1000 ?_ ?_ ?_
 ·simp only[go_sem,seval,-List.reduceReplicate]
 ·simp only[go_sem,seval,-List.reduceReplicate];exact⟨0,by omega,rfl,rfl⟩
 ·intro i hi;have hbi:=hbd i;have htl:(rs.take i).length<=100:=by rw[yaw];omega
  by_cases hit:i<rs.length
  ·have hxl:=hro.hops _ (qab hit:rs.getD i rt0∈rs);have hts:qa9 (rs.take (i+1)) net tile=qa9 (rs.take i) net tile+(if(rs.getD i rt0).net=net then qb7 (rs.getD i rt0).hops (rs.getD i rt0).hops.length tile else 0):=qaw (f:=fun(n:Int) (r:Rt)=>n+if r.net=net then qb7 r.hops r.hops.length tile else 0) (b:=0) rt0 hit;obtain⟨bz,hbz⟩:=hro.tree _ (qab hit:rs.getD i rt0∈rs);generalize hx9:rs.getD i rt0=x at *
   generalize qa9 (rs.take i) net tile=h0 at *
   repeat' first|assumption|(simp (disch:=first|assumption|omega|(simp;done)|(simp;omega)) only[go_sem,seval,-List.reduceReplicate,hx9,yaa,qah,qav])|(with_reducible first|apply And.intro|intro _)|exact lexT|((try rw[qaa]);omega)
   ·rename_i h1;rw[if_neg h1,Int.add_zero] at hts;exact⟨i+1,by omega,by omega,hts.symm,rfl⟩
   rename_i h1;rw[if_pos h1] at hts;have hwb:=fun k t=>qfR x.hops k t
   refine qaI (E:=env 0) tok (σ:=Nat×Int×Int) (fun s=>[(0,.d (dRts rs)),(1,.d (dI net)),(2,.d (dI tile)),(6,.d (dI 0)),(7,.d (dI s.2.1)),(8,.d (dI i)),(9,.d (dI s.2.2)),(10,.d (dI ((s.1:Int)-1)))]) (fun _=>[])
    (fun s=>s.1<=x.hops.length/\s.2.1+qb7 x.hops s.1 s.2.2=h0+qb7 x.hops x.hops.length tile/\0<=s.2.1) (fun s=>s.1) [] 1000 1000 ?_ ?_ ?_
   ·simp only[go_sem,seval,-List.reduceReplicate]
   ·simp only[go_sem,seval,-List.reduceReplicate];exact⟨(x.hops.length,h0,tile),⟨by simp only;omega,rfl,by simp only;omega⟩,rfl,rfl,by simp only⟩
   ·rintro⟨k,n,at_⟩ ⟨hk,hw,hn⟩;simp only at hk hw hn;by_cases hk0:0<k
    ·obtain⟨k',rfl⟩ : ∃ k',k=k'+1:=⟨k-1,by omega⟩;have hw1:=hwb (k'+1) at_;have hw2:=hwb x.hops.length tile;have e1:((k'+1:Nat):Int)-1=(k':Int):=by omega
     have hr:=hbz.rng _ (qab (by omega:k'<x.hops.length):x.hops.getD k' (0,0)∈x.hops);have hws:qb7 x.hops (k'+1) at_=if(x.hops.getD k' (0,0)).1=at_/\0<=(x.hops.getD k' (0,0)).2 then 1+qb7 x.hops k' (x.hops.getD k' (0,0)).2 else qb7 x.hops k' at_:=rfl;rw[hws] at hw;generalize hu9:x.hops.getD k' (0,0)=u at *
     repeat' first|assumption|(simp (disch:=first|assumption|omega|(simp;done)|(simp;omega)) only[go_sem,seval,-List.reduceReplicate,hx9,hu9,e1,yaX,yaa,qah,qav])|(with_reducible first|apply And.intro|intro _)|exact lexT|((try rw[qaa]);omega)
     ·rename_i h2;rw[if_pos (by omega)] at hw;exact⟨(k',n+1,u.2),⟨by simp only;omega,by simp only;omega,by simp only;omega⟩,by simp only;omega,rfl,rfl,rfl⟩
     ·rename_i h2;rw[if_neg (by omega)] at hw;exact⟨(k',n,at_),⟨by simp only;omega,by simp only;omega,by simp only;omega⟩,by simp only;omega,rfl,rfl,rfl⟩
    ·obtain rfl:k=0:=by omega
     have hw0:qb7 x.hops 0 at_=0:=rfl
     repeat' first|assumption|(simp (disch:=first|assumption|omega|(simp;done)|(simp;omega)) only[go_sem,seval,-List.reduceReplicate,hx9,yaa,qah,qav])|(with_reducible first|apply And.intro|intro _)|exact lexT|((try rw[qaa]);omega)
     exact⟨i+1,by omega,by omega,by omega,rfl⟩
  ·obtain rfl:i=rs.length:=by omega
   rw[yaq]
   repeat' first|assumption|(simp (disch:=first|assumption|omega|(simp;done)|(simp;omega)) only[go_sem,seval,-List.reduceReplicate,yaa,qah,qav])|(with_reducible first|apply And.intro|intro _)|exact lexT|((try rw[qaa]);omega)
theorem Tryz.c_l22Input (x:Cel) (arr:List Int) (rs:List Rt) (hro:RtsOk rs) (b:Int) (hb:0<=b/\b<=1000000) (ha : ∀ v,0<=arr.getD v 0/\arr.getD v 0<=b) (hn : ∀ n∈x.inputs,0<=n/\n<arr.length) (hl:x.inputs.length<=1000) (tile:Int) :
  Pure prog 172 [dCe x,dI tile,dIs arr,dRts rs] (dI (latT arr rs x.inputs tile)):=by
 have hrl:=hro.len;refine qaA func172 rfl ntmps172 fun ok=>?_
 simp only[go_sem,seval,-List.reduceReplicate] at ok
 repeat' first|assumption|(simp (disch:=first|assumption|omega|(simp;done)|(simp;omega)) only[go_sem,seval,-List.reduceReplicate,yaa,qah,qav])|(with_reducible first|apply And.intro|intro _)|exact lexT|((try rw[qaa]);omega)
 refine qaI (E:=env 0) tok (σ:=Nat) (fun i=>[(1,.d (dI tile)),(2,.d (dIs arr)),(3,.d (dRts rs)),(4,.ptr 0 0),(8,.d (dI 0)),(9,.d (dI (latT arr rs (x.inputs.take i) tile))),(10,.d (dI i))]) (fun _=>[.box [.d (dI x.net),.d (dIs x.inputs),.d (dI x.table),.d (dB x.reg)]]) (fun i=>i<=x.inputs.length) (fun i=>x.inputs.length-i) [] 1000 1000 ?_ ?_ ?_
 ·simp only[go_sem,seval,-List.reduceReplicate]
 ·simp only[go_sem,seval,-List.reduceReplicate];exact⟨0,by omega,rfl,rfl⟩
 ·intro i hi;have hlb:=qhQ ha hro tile (x.inputs.take i);by_cases hit:i<x.inputs.length
  ·have hls:latT arr rs (x.inputs.take (i+1)) tile=max (latT arr rs (x.inputs.take i) tile) (arr.getD (x.inputs.getD i 0).toNat 0+qa9 rs (x.inputs.getD i 0) tile):=qaw (f:=fun(t n:Int)=>max t (arr.getD n.toNat 0+qa9 rs n tile)) (b:=0) (0:Int) hit;have hnb:=hn _ (qab hit:x.inputs.getD i 0∈x.inputs);have hh:=c_l22Hops rs hro (x.inputs.getD i 0) tile;generalize hx9:x.inputs.getD i 0=y at *
   have hax:=ha y.toNat;have hhx:=qec (net:=y) (tile:=tile) hro.hops;generalize latT arr rs (x.inputs.take i) tile=w at *
   simp only[go_sem,seval,-List.reduceReplicate,hx9];have hsc:scal (dI (qa9 rs y tile)):=by show InK .i64 _;rw[qaa];omega
   repeat' first|assumption|(simp (disch:=first|assumption|omega|(simp;done)|(simp;omega)) only[go_sem,seval,-List.reduceReplicate,hx9,yaa,qah,qav])|(with_reducible first|apply And.intro|intro _)|(refine qb3 (fun _=>⟨hh,hsc⟩) ?_)|exact lexT|((try rw[qaa]);omega)
   exact⟨i+1,by omega,by omega,hls.symm,rfl⟩
  ·obtain rfl:i=x.inputs.length:=by omega
   rw[yaq]
   repeat' first|assumption|(simp (disch:=first|assumption|omega|(simp;done)|(simp;omega)) only[go_sem,seval,-List.reduceReplicate,yaa,qah,qav])|(with_reducible first|apply And.intro|intro _)|exact lexT|((try rw[qaa]);omega)
theorem Tryz.c_l22Arrivals (c:Circ) (hv:c.Valid) (place:List Int) (hp:PlaceOk (qac c).length place) (rs:List Rt) (hro:RtsOk rs) :
  Pure prog 100 [dC c,dCes (qac c),dIs place,dRts rs] (dIs (qbK c (qac c) place rs)):=by
 have hrl:=hro.len;have hf:=hv.first_bd;have hi0:=hv.i0;have hi1:=hv.i1;have hvb:=hv.vars_bd;have hvv:c.vars=c.first+(c.gates.length:Int):=rfl
 have hfst:=c_l1First c (by omega);have hcl:=qbD hv;have hpn:=hp.len;have hAl:=fun i=>qeO (cells:=qac c) (place:=place) (routes:=rs) (N:=c.vars.toNat) i
 have hAb:=fun i v=>qjk (cells:=qac c) (place:=place) hro (N:=c.vars.toNat) i v
 have hcn:=qcT hv;have hcin:=qde hv;have hpr:=fun i hi=>hp.get (i:=i) hi
 have hAd:qbK c (qac c) place rs=arrT (qac c) place rs c.vars.toNat (qac c).length:=rfl;have hA0:List.replicate (c.first+(c.gates.length:Int)).toNat (0:Int)=arrT (qac c) place rs c.vars.toNat 0:=rfl;have hA1:(c.first+(c.gates.length:Int)).toNat=c.vars.toNat:=rfl;rw[hAd];generalize qac c=cells at *
 refine qaA func100 rfl ntmps100 fun ok=>?_
 simp only[go_sem,seval,-List.reduceReplicate] at ok
 repeat' first|assumption|(simp (disch:=first|assumption|omega|(simp;done)|(simp;omega)) only[go_sem,seval,-List.reduceReplicate,yaa,qah,qav])|(with_reducible first|apply And.intro|intro _)|(refine qad hfst ?_)|exact lexT|((try rw[qaa]);omega)
 refine qbN (n:=0) [] (fsts [2,0,3,4] (.one 1 (.fst 5 (.one 6 (.fst 7 .done))))) ?_
 repeat' first|assumption|(simp (disch:=first|assumption|omega|(simp;done)|(simp;omega)) only[go_sem,seval,-List.reduceReplicate,yaa,qah,qav])|(with_reducible first|apply And.intro|intro _)|(refine qad hfst ?_)|exact lexT|((try rw[qaa]);omega)
 rw[hA0,hA1];refine qai (E:=env 0) tok (σ:=Nat) (fun i=>[(1,.d (dCes cells)),(2,.d (dIs place)),(3,.d (dRts rs)),(9,.sl 1 0 1 0 c.vars.toNat),(10,.d (dI i))])
  (fun i=>[.dead 0,.row 0 1 true ((arrT cells place rs c.vars.toNat i).map (D.int .i64))]) (fun i=>i<=cells.length) (fun i=>cells.length-i) [] [] 1000 1000 ?_ ?_
 ·simp only[go_sem,seval,-List.reduceReplicate];exact⟨0,by omega,rfl,rfl⟩
 ·intro i hi;have hali:=hAl i;have habi:=hAb i;by_cases hit:i<cells.length
  ·have hxm:cells.getD i ce0∈cells:=qab hit;have h1:=hcn _ hxm;have h2:=hcin _ hxm;have hpi:=hpr i hit;have hlb:=qhQ habi hro (place.getD i 0) (cells.getD i ce0).inputs;have has:arrT cells place rs c.vars.toNat (i+1)=if(cells.getD i ce0).reg then arrT cells place rs c.vars.toNat i else(arrT cells place rs c.vars.toNat i).set (cells.getD i ce0).net.toNat (latT (arrT cells place rs c.vars.toNat i) rs (cells.getD i ce0).inputs (place.getD i 0)+3):=rfl;generalize hx9:cells.getD i ce0=x at *
   have hin:=c_l22Input x (arrT cells place rs c.vars.toNat i) rs hro (2503*(i:Int)) (by omega) habi (fun n hn=>by have:=h2.2.2 n hn;omega) (by omega) (place.getD i 0);generalize arrT cells place rs c.vars.toNat i=A at *
   have hsc:scal (dI (latT A rs x.inputs (place.getD i 0))):=by show InK .i64 _;rw[qaa];omega
   repeat' first|assumption|(simp (disch:=first|assumption|omega|(simp;done)|(simp;omega)) only[go_sem,seval,-List.reduceReplicate,hx9,yaa,qah,qav])|(with_reducible first|apply And.intro|intro _)|exact lexT|((try rw[qaa]);omega)
   ·rename_i h7;rw[if_pos h7] at has;exact⟨i+1,by omega,by omega,rfl,has.symm⟩
   ·rename_i h7;rw[if_neg (by rw[h7];simp)] at has;refine qbN (n:=0) [19] (fsts [0,1,2,3,4,6,7,8,10,11,12,14,15,5,9,13] (.one 16 (fsts [17,18] (.one 19 .done)))) ?_
    repeat' first|assumption|(simp (disch:=first|assumption|omega|(simp;done)|(simp;omega)) only[go_sem,seval,-List.reduceReplicate,hx9,yaa,qah,qav])|(with_reducible first|apply And.intro|intro _)|(refine qb3 (fun _=>⟨hin,hsc⟩) ?_)|(refine qad hin ?_)|exact lexT|((try rw[qaa]);omega)
    exact⟨i+1,by omega,by omega,rfl,has.symm⟩
  ·obtain rfl:i=cells.length:=by omega
   repeat' first|assumption|(simp (disch:=first|assumption|omega|(simp;done)|(simp;omega)) only[go_sem,seval,-List.reduceReplicate,yaa,qah,qav])|(with_reducible first|apply And.intro|intro _)|exact lexT|((try rw[qaa]);omega)

theorem Tryz.shp_ints {f:Nat}(y:D) (h:shp tyT (f+2) 23 y) : ∃ l:List Int,y=dIs l:=
 shp_slice ty23 ty3 (fun y h=>shp_int ty3 h) h
theorem Tryz.shp_Gate {f:Nat}(y:D) (h:shp tyT (f+2) 216 y) : ∃ a:Int×Int,y=dP a:=by
 obtain⟨ys,rfl,k0⟩:=shp_struct ty216 h;obtain⟨y1,r1,rfl,h1,k1⟩:=qiq k0;obtain⟨y2,r2,rfl,h2,k2⟩:=qiq k1;obtain rfl:=qqD k2;obtain⟨n,rfl⟩:=shp_int ty3 h1;obtain⟨m,rfl⟩:=shp_int ty3 h2;exact⟨(n,m),rfl⟩
theorem Tryz.shp_Gates {f:Nat}(y:D) (h:shp tyT (f+3) 47 y) : ∃ l:List (Int×Int),y=dPs l:=
 shp_slice ty47 ty216 shp_Gate h
theorem Tryz.shp_Circuit {f:Nat}(y:D) (h:shp tyT (f+4) 49 y) : ∃ c:Circ,y=dC c:=by
 obtain⟨ys,rfl,k0⟩:=shp_struct ty49 h;obtain⟨y1,r1,rfl,h1,k1⟩:=qiq k0;obtain⟨y2,r2,rfl,h2,k2⟩:=qiq k1;obtain⟨y3,r3,rfl,h3,k3⟩:=qiq k2;obtain⟨y4,r4,rfl,h4,k4⟩:=qiq k3;obtain rfl:=qqD k4;obtain⟨n,rfl⟩:=shp_int ty3 h1;obtain⟨a,rfl⟩:=shp_ints _ h2;obtain⟨b,rfl⟩:=shp_Gates _ h3;obtain⟨d,rfl⟩:=shp_ints _ h4;exact⟨⟨n,a,b,d⟩,rfl⟩
end Go.Proofs

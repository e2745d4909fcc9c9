/- Contracts, plain definitions and lemmas. Conditions: none; lemmas. -/
import Derived.Test.YtoanmdnkgjdinaaGreatG2
import Derived.Test.YtoanmdnkgjdinaaGreatE4
set_option maxRecDepth 20000
set_option linter.unusedVariables false
set_option linter.unusedSimpArgs false
namespace Go.Proofs
open Go Go.VL
noncomputable def arrO (c:Circ) (place:List Int):D:=match qaw c place [] with
 | none=>.nil
 | some rs=>dIs (qej c (qan c) place rs)
theorem Tryz.c_Arrivals (c:Circ) (place:List Int):Pure Tryz.prog 11 [dC c,dIs place] (arrO c place):=by
 have hT:=Tryz.c_timingOf c place
 unfold arrO
 cases hra:qaw c place [] with
 | none=>
  rw[hra] at hT
  show Pure _ _ _ .nil
  refine qam (E:=Tryz.env 0) Tryz.tok rfl 1000 Tryz.func11 rfl rfl Tryz.ntmps11 (by simp) fun ok=>?_
  simp only[go_sem,seval,-List.reduceReplicate] at ok
  simp only[go_sem,seval,-List.reduceReplicate,Tryz.results11]
  repeat' first|assumption|(simp (disch:=first|assumption|omega|(simp;done)|(simp;omega)) only[qaa,qac,List.take_of_length_le,qab,qae,qaf,qag,qah,qaj];try simp only[go_sem,seval,-List.reduceReplicate,Tryz.results11])|(with_reducible refine And.intro ?_ ?_)|(with_reducible intro _)|((try rw[qad]);omega)
  refine qax hT [0] (by simp only[go_sem,seval,-List.reduceReplicate]) ?_
  rintro r0 H1 ⟨rfl,rfl⟩
  simp only[go_sem,seval,-List.reduceReplicate,Tryz.results11]
  repeat' first|assumption|(simp (disch:=first|assumption|omega|(simp;done)|(simp;omega)) only[qaa,qac,List.take_of_length_le,qab,qae,qaf,qag,qah,qaj];try simp only[go_sem,seval,-List.reduceReplicate,Tryz.results11])|(with_reducible refine And.intro ?_ ?_)|(with_reducible intro _)|((try rw[qad]);omega)
 | some rs=>
  rw[hra] at hT
  show Pure _ _ _ (dIs (qej c (qan c) place rs))
  refine qam (E:=Tryz.env 0) Tryz.tok rfl 1000 Tryz.func11 rfl rfl Tryz.ntmps11 (by simp) fun ok=>?_
  simp only[go_sem,seval,-List.reduceReplicate] at ok
  simp only[go_sem,seval,-List.reduceReplicate,Tryz.results11]
  repeat' first|assumption|(simp (disch:=first|assumption|omega|(simp;done)|(simp;omega)) only[qaa,qac,List.take_of_length_le,qab,qae,qaf,qag,qah,qaj];try simp only[go_sem,seval,-List.reduceReplicate,Tryz.results11])|(with_reducible refine And.intro ?_ ?_)|(with_reducible intro _)|((try rw[qad]);omega)
  refine qax hT [0] (by simp only[go_sem,seval,-List.reduceReplicate]) ?_
  rintro r0 H1 ⟨m,B1,B4,hm,rfl,rfl⟩
  simp only[go_sem,seval,-List.reduceReplicate,Tryz.results11]
  repeat' first|assumption|(simp (disch:=first|assumption|omega|(simp;done)|(simp;omega)) only[qaa,qac,List.take_of_length_le,qab,qae,qaf,qag,qah,qaj];try simp only[go_sem,seval,-List.reduceReplicate,Tryz.results11])|(with_reducible refine And.intro ?_ ?_)|(with_reducible intro _)|((try rw[qad]);omega)
end Go.Proofs

set_option maxRecDepth 20000
set_option linter.unusedVariables false
set_option linter.unusedSimpArgs false
namespace Go.Proofs
open Go Go.VL
theorem Tryz.c_l22Hops (rs:List Rt) (hro:RtsOk rs) (net tile:Int):Pure Tryz.prog 88 [dRts rs,dI net,dI tile] (dI (qb8 rs net tile)):=by
 have hrl:=hro.len
 refine qam (E:=Tryz.env 0) Tryz.tok rfl 1000 Tryz.func88 rfl rfl Tryz.ntmps88 (by simp) fun ok=>?_
 simp only[go_sem,seval,-List.reduceReplicate] at ok
 simp only[go_sem,seval,-List.reduceReplicate,Tryz.results88]
 repeat' first|assumption|(simp (disch:=first|assumption|omega|(simp;done)|(simp;omega)) only[qaa,qac,List.take_of_length_le,qab,qae,qaf,qag,qah,qaj];try simp only[go_sem,seval,-List.reduceReplicate,Tryz.results88])|(with_reducible refine And.intro ?_ ?_)|(with_reducible intro _)|((with_reducible (show Region.lexB _ _=true));kernel_rfl)|((try rw[qad]);omega)
 have hbd:=fun i=>qeU (net:=net) (tile:=tile) (l:=rs.take i) fun r hr=>hro.hops r (List.mem_of_mem_take hr)
 refine qaB (E:=Tryz.env 0) Tryz.tok (σ:=Nat) (fun i=>[(0,.d (dRts rs)),(1,.d (dI net)),(2,.d (dI tile)),(6,.d (dI 0)),(7,.d (dI (qb8 (rs.take i) net tile))),(8,.d (dI i))]) (fun _=>[]) (fun i=>i≤rs.length) (fun i=>rs.length-i) [] 1000 1000 ?_ ?_ ?_
 ·simp only[go_sem,seval,-List.reduceReplicate]
 ·simp only[go_sem,seval,-List.reduceReplicate]
  exact⟨0,by omega,rfl,rfl⟩
 ·intro i hi
  have hbi:=hbd i
  have htl:(rs.take i).length≤100:=by rw[List.length_take];omega
  by_cases hit:i<rs.length
  ·have hxl:=hro.hops _ (qak hit:rs.getD i rt0∈rs)
   have hts:qb8 (rs.take (i+1)) net tile=qb8 (rs.take i) net tile+(if(rs.getD i rt0).net=net then qcl (rs.getD i rt0).hops (rs.getD i rt0).hops.length tile else 0):=qaH (f:=fun(n:Int) (r:Rt)=>n+if r.net=net then qcl r.hops r.hops.length tile else 0) (b:=0) rt0 hit
   obtain⟨bz,hbz⟩:=hro.tree _ (qak hit:rs.getD i rt0∈rs)
   generalize hx9:rs.getD i rt0=x at *
   generalize qb8 (rs.take i) net tile=h0 at *
   simp only[go_sem,seval,-List.reduceReplicate,Tryz.results88,hx9]
   repeat' first|assumption|(simp (disch:=first|assumption|omega|(simp;done)|(simp;omega)) only[qaa,qac,List.take_of_length_le,qab,qae,qaf,qag,qah,qaj];try simp only[go_sem,seval,-List.reduceReplicate,Tryz.results88,hx9])|(with_reducible refine And.intro ?_ ?_)|(with_reducible intro _)|((with_reducible (show Region.lexB _ _=true));kernel_rfl)|((try rw[qad]);omega)
   ·rename_i h1
    rw[if_neg h1,Int.add_zero] at hts
    exact⟨i+1,by omega,by omega,hts.symm,rfl⟩
   rename_i h1
   rw[if_pos h1] at hts
   have hwb:=fun k t=>qg2 x.hops k t
   refine qaB (E:=Tryz.env 0) Tryz.tok (σ:=Nat×Int×Int) (fun s=>[(0,.d (dRts rs)),(1,.d (dI net)),(2,.d (dI tile)),(6,.d (dI 0)),(7,.d (dI s.2.1)),(8,.d (dI i)),(9,.d (dI s.2.2)),(10,.d (dI ((s.1:Int)-1)))]) (fun _=>[])
    (fun s=>s.1≤x.hops.length∧s.2.1+qcl x.hops s.1 s.2.2=h0+qcl x.hops x.hops.length tile∧0≤s.2.1) (fun s=>s.1) [] 1000 1000 ?_ ?_ ?_
   ·simp only[go_sem,seval,-List.reduceReplicate]
   ·simp only[go_sem,seval,-List.reduceReplicate]
    exact⟨(x.hops.length,h0,tile),⟨by simp only;omega,rfl,by simp only;omega⟩,rfl,rfl,by simp only⟩
   ·rintro⟨k,n,at_⟩ ⟨hk,hw,hn⟩
    simp only at hk hw hn
    by_cases hk0:0<k
    ·obtain⟨k',rfl⟩ : ∃ k',k=k'+1:=⟨k-1,by omega⟩
     have hw1:=hwb (k'+1) at_
     have hw2:=hwb x.hops.length tile
     have e1:((k'+1:Nat):Int)-1=(k':Int):=by omega
     have hr:=hbz.rng _ (qak (by omega:k'<x.hops.length):x.hops.getD k' (0,0)∈x.hops)
     have hws:qcl x.hops (k'+1) at_=if(x.hops.getD k' (0,0)).1=at_∧0≤(x.hops.getD k' (0,0)).2 then 1+qcl x.hops k' (x.hops.getD k' (0,0)).2 else qcl x.hops k' at_:=rfl
     rw[hws] at hw
     generalize hu9:x.hops.getD k' (0,0)=u at *
     simp only[go_sem,seval,-List.reduceReplicate,Tryz.results88,hx9,hu9,e1,Int.toNat_natCast]
     repeat' first|assumption|(simp (disch:=first|assumption|omega|(simp;done)|(simp;omega)) only[qaa,qac,List.take_of_length_le,qab,qae,qaf,qag,qah,qaj];try simp only[go_sem,seval,-List.reduceReplicate,Tryz.results88,hx9,hu9,e1,Int.toNat_natCast])|(with_reducible refine And.intro ?_ ?_)|(with_reducible intro _)|((with_reducible (show Region.lexB _ _=true));kernel_rfl)|((try rw[qad]);omega)
     ·rename_i h2
      rw[if_pos (by omega)] at hw
      exact⟨(k',n+1,u.2),⟨by simp only;omega,by simp only;omega,by simp only;omega⟩,by simp only;omega,rfl,rfl,rfl⟩
     ·rename_i h2
      rw[if_neg (by omega)] at hw
      exact⟨(k',n,at_),⟨by simp only;omega,by simp only;omega,by simp only;omega⟩,by simp only;omega,rfl,rfl,rfl⟩
    ·obtain rfl:k=0:=by omega
     have hw0:qcl x.hops 0 at_=0:=rfl
     simp only[go_sem,seval,-List.reduceReplicate,Tryz.results88,hx9]
     repeat' first|assumption|(simp (disch:=first|assumption|omega|(simp;done)|(simp;omega)) only[qaa,qac,List.take_of_length_le,qab,qae,qaf,qag,qah,qaj];try simp only[go_sem,seval,-List.reduceReplicate,Tryz.results88,hx9])|(with_reducible refine And.intro ?_ ?_)|(with_reducible intro _)|((with_reducible (show Region.lexB _ _=true));kernel_rfl)|((try rw[qad]);omega)
     exact⟨i+1,by omega,by omega,by omega,rfl⟩
  ·obtain rfl:i=rs.length:=by omega
   rw[List.take_length]
   simp only[go_sem,seval,-List.reduceReplicate,Tryz.results88]
   repeat' first|assumption|(simp (disch:=first|assumption|omega|(simp;done)|(simp;omega)) only[qaa,qac,List.take_of_length_le,qab,qae,qaf,qag,qah,qaj];try simp only[go_sem,seval,-List.reduceReplicate,Tryz.results88])|(with_reducible refine And.intro ?_ ?_)|(with_reducible intro _)|((with_reducible (show Region.lexB _ _=true));kernel_rfl)|((try rw[qad]);omega)
theorem Tryz.c_l22Input (x:Cel) (arr:List Int) (rs:List Rt) (hro:RtsOk rs) (b:Int) (hb:0≤b∧b≤1000000) (ha : ∀ v,0≤arr.getD v 0∧arr.getD v 0≤b) (hn : ∀ n∈x.inputs,0≤n∧n<arr.length) (hl:x.inputs.length≤1000) (tile:Int) :
  Pure Tryz.prog 64 [dCe x,dI tile,dIs arr,dRts rs] (dI (latT arr rs x.inputs tile)):=by
 have hrl:=hro.len
 refine qam (E:=Tryz.env 0) Tryz.tok rfl 1000 Tryz.func64 rfl rfl Tryz.ntmps64 (by simp) fun ok=>?_
 simp only[go_sem,seval,-List.reduceReplicate] at ok
 simp only[go_sem,seval,-List.reduceReplicate,Tryz.results64]
 repeat' first|assumption|(simp (disch:=first|assumption|omega|(simp;done)|(simp;omega)) only[qaa,qac,List.take_of_length_le,qab,qae,qaf,qag,qah,qaj];try simp only[go_sem,seval,-List.reduceReplicate,Tryz.results64])|(with_reducible refine And.intro ?_ ?_)|(with_reducible intro _)|((with_reducible (show Region.lexB _ _=true));kernel_rfl)|((try rw[qad]);omega)
 refine qaB (E:=Tryz.env 0) Tryz.tok (σ:=Nat) (fun i=>[(1,.d (dI tile)),(2,.d (dIs arr)),(3,.d (dRts rs)),(4,.ptr 0 0),(8,.d (dI 0)),(9,.d (dI (latT arr rs (x.inputs.take i) tile))),(10,.d (dI i))]) (fun _=>[.box [.d (dI x.net),.d (dIs x.inputs),.d (dI x.table),.d (dB x.reg)]]) (fun i=>i≤x.inputs.length) (fun i=>x.inputs.length-i) [] 1000 1000 ?_ ?_ ?_
 ·simp only[go_sem,seval,-List.reduceReplicate]
 ·simp only[go_sem,seval,-List.reduceReplicate]
  exact⟨0,by omega,rfl,rfl⟩
 ·intro i hi
  have hlb:=qh2 ha hro tile (x.inputs.take i)
  by_cases hit:i<x.inputs.length
  ·have hls:latT arr rs (x.inputs.take (i+1)) tile=max (latT arr rs (x.inputs.take i) tile) (arr.getD (x.inputs.getD i 0).toNat 0+qb8 rs (x.inputs.getD i 0) tile):=qaH (f:=fun(t n:Int)=>max t (arr.getD n.toNat 0+qb8 rs n tile)) (b:=0) (0:Int) hit
   have hnb:=hn _ (qak hit:x.inputs.getD i 0∈x.inputs)
   have hh:=Tryz.c_l22Hops rs hro (x.inputs.getD i 0) tile
   generalize hx9:x.inputs.getD i 0=y at *
   have hax:=ha y.toNat
   have hhx:=qeU (net:=y) (tile:=tile) hro.hops
   generalize latT arr rs (x.inputs.take i) tile=w at *
   simp only[go_sem,seval,-List.reduceReplicate,Tryz.results64,hx9]
   have hsc:scal (dI (qb8 rs y tile)):=by show InK .i64 _;rw[qad];omega
   repeat' first|assumption|(simp (disch:=first|assumption|omega|(simp;done)|(simp;omega)) only[qaa,qac,List.take_of_length_le,qab,qae,qaf,qag,qah,qaj];try simp only[go_sem,seval,-List.reduceReplicate,Tryz.results64,hx9])|(with_reducible refine And.intro ?_ ?_)|(with_reducible intro _)|(refine qa9 (fun _=>⟨hh,hsc⟩) ?_;simp only[go_sem,seval,-List.reduceReplicate,Tryz.results64,hx9])|((with_reducible (show Region.lexB _ _=true));kernel_rfl)|((try rw[qad]);omega)
   exact⟨i+1,by omega,by omega,hls.symm,rfl⟩
  ·obtain rfl:i=x.inputs.length:=by omega
   rw[List.take_length]
   simp only[go_sem,seval,-List.reduceReplicate,Tryz.results64]
   repeat' first|assumption|(simp (disch:=first|assumption|omega|(simp;done)|(simp;omega)) only[qaa,qac,List.take_of_length_le,qab,qae,qaf,qag,qah,qaj];try simp only[go_sem,seval,-List.reduceReplicate,Tryz.results64])|(with_reducible refine And.intro ?_ ?_)|(with_reducible intro _)|((with_reducible (show Region.lexB _ _=true));kernel_rfl)|((try rw[qad]);omega)
theorem Tryz.c_l22Arrivals (c:Circ) (hv:c.Valid) (place:List Int) (hp:PlaceOk (qan c).length place) (rs:List Rt) (hro:RtsOk rs) :
  Pure Tryz.prog 38 [dC c,dCes (qan c),dIs place,dRts rs] (dIs (qej c (qan c) place rs)):=by
 have hrl:=hro.len
 have hf:=hv.first_bd
 have hi0:=hv.i0
 have hi1:=hv.i1
 have hvb:=hv.vars_bd
 have hvv:c.vars=c.first+(c.gates.length:Int):=rfl
 have hfst:=Tryz.c_l1First c (by omega)
 have hcl:=qb4 hv
 have hpn:=hp.len
 have hAl:=fun i=>qf7 (cells:=qan c) (place:=place) (routes:=rs) (N:=c.vars.toNat) i
 have hAb:=fun i v=>qk9 (cells:=qan c) (place:=place) hro (N:=c.vars.toNat) i v
 have hcn:=qgv hv
 have hcin:=qdi hv
 have hpr:=fun i hi=>hp.get (i:=i) hi
 have hAd:qej c (qan c) place rs=arrT (qan c) place rs c.vars.toNat (qan c).length:=rfl
 have hA0:List.replicate (c.first+(c.gates.length:Int)).toNat (0:Int)=arrT (qan c) place rs c.vars.toNat 0:=rfl
 have hA1:(c.first+(c.gates.length:Int)).toNat=c.vars.toNat:=rfl
 rw[hAd]
 generalize qan c=cells at *
 refine qam (E:=Tryz.env 0) Tryz.tok rfl 1000 Tryz.func38 rfl rfl Tryz.ntmps38 (by simp) fun ok=>?_
 simp only[go_sem,seval,-List.reduceReplicate] at ok
 simp only[go_sem,seval,-List.reduceReplicate,Tryz.results38]
 repeat' first|assumption|(simp (disch:=first|assumption|omega|(simp;done)|(simp;omega)) only[qaa,qac,List.take_of_length_le,qab,qae,qaf,qag,qah,qaj];try simp only[go_sem,seval,-List.reduceReplicate,Tryz.results38])|(with_reducible refine And.intro ?_ ?_)|(with_reducible intro _)|(refine qai hfst ?_;simp only[go_sem,seval,-List.reduceReplicate,Tryz.results38])|((with_reducible (show Region.lexB _ _=true));kernel_rfl)|((try rw[qad]);omega)
 refine qaT (E:=Tryz.env 0) Tryz.tok Tryz.follows 1000 1000 [] (.fst 2 (.fst 0 (.fst 3 (.fst 4 (.one 1 (.fst 5 (.one 6 (.fst 7 (.done))))))))) (by kernel_rfl) ?_
 simp only[go_sem,seval,-List.reduceReplicate,Tryz.results38]
 repeat' first|assumption|(simp (disch:=first|assumption|omega|(simp;done)|(simp;omega)) only[qaa,qac,List.take_of_length_le,qab,qae,qaf,qag,qah,qaj];try simp only[go_sem,seval,-List.reduceReplicate,Tryz.results38])|(with_reducible refine And.intro ?_ ?_)|(with_reducible intro _)|(refine qai hfst ?_;simp only[go_sem,seval,-List.reduceReplicate,Tryz.results38])|((with_reducible (show Region.lexB _ _=true));kernel_rfl)|((try rw[qad]);omega)
 rw[hA0,hA1]
 refine qaq (E:=Tryz.env 0) Tryz.tok (σ:=Nat) (fun i=>[(1,.d (dCes cells)),(2,.d (dIs place)),(3,.d (dRts rs)),(9,.sl 1 0 1 0 c.vars.toNat),(10,.d (dI i))])
  (fun i=>[.dead 0,.row 0 1 true ((arrT cells place rs c.vars.toNat i).map (D.int .i64))]) (fun i=>i≤cells.length) (fun i=>cells.length-i) [] [] 1000 1000 ?_ ?_
 ·simp only[go_sem,seval,-List.reduceReplicate]
  exact⟨0,by omega,rfl,rfl⟩
 ·intro i hi
  have hali:=hAl i
  have habi:=hAb i
  by_cases hit:i<cells.length
  ·have hxm:cells.getD i ce0∈cells:=qak hit
   have h1:=hcn _ hxm
   have h2:=hcin _ hxm
   have hpi:=hpr i hit
   have hlb:=qh2 habi hro (place.getD i 0) (cells.getD i ce0).inputs
   have has:arrT cells place rs c.vars.toNat (i+1)=if(cells.getD i ce0).reg then arrT cells place rs c.vars.toNat i else(arrT cells place rs c.vars.toNat i).set (cells.getD i ce0).net.toNat (latT (arrT cells place rs c.vars.toNat i) rs (cells.getD i ce0).inputs (place.getD i 0)+3):=rfl
   generalize hx9:cells.getD i ce0=x at *
   have hin:=Tryz.c_l22Input x (arrT cells place rs c.vars.toNat i) rs hro (2503*(i:Int)) (by omega) habi (fun n hn=>by have:=h2.2.2 n hn;omega) (by omega) (place.getD i 0)
   generalize arrT cells place rs c.vars.toNat i=A at *
   have hsc:scal (dI (latT A rs x.inputs (place.getD i 0))):=by show InK .i64 _;rw[qad];omega
   simp only[go_sem,seval,-List.reduceReplicate,Tryz.results38,hx9]
   repeat' first|assumption|(simp (disch:=first|assumption|omega|(simp;done)|(simp;omega)) only[qaa,qac,List.take_of_length_le,qab,qae,qaf,qag,qah,qaj];try simp only[go_sem,seval,-List.reduceReplicate,Tryz.results38,hx9])|(with_reducible refine And.intro ?_ ?_)|(with_reducible intro _)|((with_reducible (show Region.lexB _ _=true));kernel_rfl)|((try rw[qad]);omega)
   ·rename_i h7
    rw[if_pos h7] at has
    exact⟨i+1,by omega,by omega,rfl,has.symm⟩
   ·rename_i h7
    rw[if_neg (by rw[h7];simp)] at has
    refine qaT (E:=Tryz.env 0) Tryz.tok Tryz.follows 1000 1000 [19] (.fst 0 (.fst 1 (.fst 2 (.fst 3 (.fst 4 (.fst 6 (.fst 7 (.fst 8 (.fst 10 (.fst 11 (.fst 12 (.fst 14 (.fst 15 (.fst 5 (.fst 9 (.fst 13 (.one 16 (.fst 17 (.fst 18 (.one 19 (.done))))))))))))))))))))) (by kernel_rfl) ?_
    simp only[go_sem,seval,-List.reduceReplicate,Tryz.results38,hx9]
    repeat' first|assumption|(simp (disch:=first|assumption|omega|(simp;done)|(simp;omega)) only[qaa,qac,List.take_of_length_le,qab,qae,qaf,qag,qah,qaj];try simp only[go_sem,seval,-List.reduceReplicate,Tryz.results38,hx9])|(with_reducible refine And.intro ?_ ?_)|(with_reducible intro _)|(refine qa9 (fun _=>⟨hin,hsc⟩) ?_;simp only[go_sem,seval,-List.reduceReplicate,Tryz.results38,hx9])|(refine qai hin ?_;simp only[go_sem,seval,-List.reduceReplicate,Tryz.results38,hx9])|((with_reducible (show Region.lexB _ _=true));kernel_rfl)|((try rw[qad]);omega)
    exact⟨i+1,by omega,by omega,rfl,has.symm⟩
  ·obtain rfl:i=cells.length:=by omega
   simp only[go_sem,seval,-List.reduceReplicate,Tryz.results38]
   repeat' first|assumption|(simp (disch:=first|assumption|omega|(simp;done)|(simp;omega)) only[qaa,qac,List.take_of_length_le,qab,qae,qaf,qag,qah,qaj];try simp only[go_sem,seval,-List.reduceReplicate,Tryz.results38])|(with_reducible refine And.intro ?_ ?_)|(with_reducible intro _)|((with_reducible (show Region.lexB _ _=true));kernel_rfl)|((try rw[qad]);omega)
end Go.Proofs

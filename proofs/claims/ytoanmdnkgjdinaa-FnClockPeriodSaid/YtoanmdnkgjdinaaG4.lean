/- Contracts: the reference's times. Conditions: none; lemmas. -/
import Derived.Test.YtoanmdnkgjdinaaG3
import Derived.Test.YtoanmdnkgjdinaaE4
set_option maxRecDepth 20000
set_option linter.unusedVariables false
set_option linter.unusedSimpArgs false
namespace Go.Proofs
open Go Go.VL
theorem Try.c_l22Hops (rs:List Rt) (hro:RtsOk rs) (net tile:Int):Pure Try.prog 55 [dRts rs,dI net,dI tile] (dI (qaW rs net tile)):=by
 have hrl:=hro.len
 refine qan (E:=Try.env 0) Try.tok rfl 1000 Try.func55 rfl rfl Try.ntmps55 (by simp) fun ok=>?_
 simp only[go_sem,seval,-List.reduceReplicate] at ok
 simp only[go_sem,seval,-List.reduceReplicate,Try.results55]
 repeat' first|assumption|(simp (disch:=first|assumption|omega|(simp;done)|(simp;omega)) only[qaa,qac,List.take_of_length_le,qab,qae,qaf,qag,qah,qak];try simp only[go_sem,seval,-List.reduceReplicate,Try.results55])|(with_reducible refine And.intro ?_ ?_)|(with_reducible intro _)|((with_reducible (show Region.lexB _ _=true));kernel_rfl)|((try rw[qad]);omega)
 have hbd:=fun i=>qbD (net:=net) (tile:=tile) (l:=rs.take i) fun r hr=>hro.hops r (List.mem_of_mem_take hr)
 refine qaH (E:=Try.env 0) Try.tok (σ:=Nat) (fun i=>[(0,.d (dRts rs)),(1,.d (dI net)),(2,.d (dI tile)),(6,.d (dI 0)),(7,.d (dI (qaW (rs.take i) net tile))),(8,.d (dI i))]) (fun _=>[]) (fun i=>i≤rs.length) (fun i=>rs.length-i) [] 1000 1000 ?_ ?_ ?_
 ·simp only[go_sem,seval,-List.reduceReplicate]
 ·simp only[go_sem,seval,-List.reduceReplicate]
  exact⟨0,by omega,rfl,rfl⟩
 ·intro i hi
  have hbi:=hbd i
  have htl:(rs.take i).length≤100:=by rw[List.length_take];omega
  by_cases hit:i<rs.length
  ·have hxl:=hro.hops _ (qal hit:rs.getD i rt0∈rs)
   have hts:qaW (rs.take (i+1)) net tile=qaW (rs.take i) net tile+(if(rs.getD i rt0).net=net then qcl (rs.getD i rt0).hops (rs.getD i rt0).hops.length tile else 0):=qaC (f:=fun(n:Int) (r:Rt)=>n+if r.net=net then qcl r.hops r.hops.length tile else 0) (b:=0) rt0 hit
   obtain⟨bz,hbz⟩:=hro.tree _ (qal hit:rs.getD i rt0∈rs)
   generalize hx9:rs.getD i rt0=x at *
   generalize qaW (rs.take i) net tile=h0 at *
   simp only[go_sem,seval,-List.reduceReplicate,Try.results55,hx9]
   repeat' first|assumption|(simp (disch:=first|assumption|omega|(simp;done)|(simp;omega)) only[qaa,qac,List.take_of_length_le,qab,qae,qaf,qag,qah,qak];try simp only[go_sem,seval,-List.reduceReplicate,Try.results55,hx9])|(with_reducible refine And.intro ?_ ?_)|(with_reducible intro _)|((with_reducible (show Region.lexB _ _=true));kernel_rfl)|((try rw[qad]);omega)
   ·rename_i h1
    rw[if_neg h1,Int.add_zero] at hts
    exact⟨i+1,by omega,by omega,hts.symm,rfl⟩
   rename_i h1
   rw[if_pos h1] at hts
   have hwb:=fun k t=>qhe x.hops k t
   refine qaH (E:=Try.env 0) Try.tok (σ:=Nat×Int×Int) (fun s=>[(0,.d (dRts rs)),(1,.d (dI net)),(2,.d (dI tile)),(6,.d (dI 0)),(7,.d (dI s.2.1)),(8,.d (dI i)),(9,.d (dI s.2.2)),(10,.d (dI ((s.1:Int)-1)))]) (fun _=>[])
    (fun s=>s.1≤x.hops.length∧s.2.1+qcl x.hops s.1 s.2.2=h0+qcl x.hops x.hops.length tile∧0≤s.2.1) (fun s=>s.1) [] 1000 1000 ?_ ?_ ?_
   ·simp only[go_sem,seval,-List.reduceReplicate]
   ·simp only[go_sem,seval,-List.reduceReplicate]
    exact⟨(x.hops.length,h0,tile),⟨by simp only;omega,rfl,by simp only;omega⟩,rfl,rfl,by simp only⟩
   ·rintro⟨k,n,at_⟩ ⟨hk,hw,hn⟩
    simp only at hk hw hn
    by_cases hk0:0<k
    ·obtain⟨k',rfl⟩ : ∃ k',k=k'+1:=⟨k-1,by omega⟩
     have hw1:=hwb (k'+1) at_
     have hw2:=hwb x.hops.length tile
     have e1:((k'+1:Nat):Int)-1=(k':Int):=by omega
     have hr:=hbz.rng _ (qal (by omega:k'<x.hops.length):x.hops.getD k' (0,0)∈x.hops)
     have hws:qcl x.hops (k'+1) at_=if(x.hops.getD k' (0,0)).1=at_∧0≤(x.hops.getD k' (0,0)).2 then 1+qcl x.hops k' (x.hops.getD k' (0,0)).2 else qcl x.hops k' at_:=rfl
     rw[hws] at hw
     generalize hu9:x.hops.getD k' (0,0)=u at *
     simp only[go_sem,seval,-List.reduceReplicate,Try.results55,hx9,hu9,e1,Int.toNat_natCast]
     repeat' first|assumption|(simp (disch:=first|assumption|omega|(simp;done)|(simp;omega)) only[qaa,qac,List.take_of_length_le,qab,qae,qaf,qag,qah,qak];try simp only[go_sem,seval,-List.reduceReplicate,Try.results55,hx9,hu9,e1,Int.toNat_natCast])|(with_reducible refine And.intro ?_ ?_)|(with_reducible intro _)|((with_reducible (show Region.lexB _ _=true));kernel_rfl)|((try rw[qad]);omega)
     ·rename_i h2
      rw[if_pos (by omega)] at hw
      exact⟨(k',n+1,u.2),⟨by simp only;omega,by simp only;omega,by simp only;omega⟩,by simp only;omega,rfl,rfl,rfl⟩
     ·rename_i h2
      rw[if_neg (by omega)] at hw
      exact⟨(k',n,at_),⟨by simp only;omega,by simp only;omega,by simp only;omega⟩,by simp only;omega,rfl,rfl,rfl⟩
    ·obtain rfl:k=0:=by omega
     have hw0:qcl x.hops 0 at_=0:=rfl
     simp only[go_sem,seval,-List.reduceReplicate,Try.results55,hx9]
     repeat' first|assumption|(simp (disch:=first|assumption|omega|(simp;done)|(simp;omega)) only[qaa,qac,List.take_of_length_le,qab,qae,qaf,qag,qah,qak];try simp only[go_sem,seval,-List.reduceReplicate,Try.results55,hx9])|(with_reducible refine And.intro ?_ ?_)|(with_reducible intro _)|((with_reducible (show Region.lexB _ _=true));kernel_rfl)|((try rw[qad]);omega)
     exact⟨i+1,by omega,by omega,by omega,rfl⟩
  ·obtain rfl:i=rs.length:=by omega
   rw[List.take_length]
   simp only[go_sem,seval,-List.reduceReplicate,Try.results55]
   repeat' first|assumption|(simp (disch:=first|assumption|omega|(simp;done)|(simp;omega)) only[qaa,qac,List.take_of_length_le,qab,qae,qaf,qag,qah,qak];try simp only[go_sem,seval,-List.reduceReplicate,Try.results55])|(with_reducible refine And.intro ?_ ?_)|(with_reducible intro _)|((with_reducible (show Region.lexB _ _=true));kernel_rfl)|((try rw[qad]);omega)
theorem Try.c_l22Input (x:Cel) (arr:List Int) (rs:List Rt) (hro:RtsOk rs) (b:Int) (hb:0≤b∧b≤1000000) (ha : ∀ v,0≤arr.getD v 0∧arr.getD v 0≤b) (hn : ∀ n∈x.inputs,0≤n∧n<arr.length) (hl:x.inputs.length≤1000) (tile:Int) :
  Pure Try.prog 61 [dCe x,dI tile,dIs arr,dRts rs] (dI (latT arr rs x.inputs tile)):=by
 have hrl:=hro.len
 refine qan (E:=Try.env 0) Try.tok rfl 1000 Try.func61 rfl rfl Try.ntmps61 (by simp) fun ok=>?_
 simp only[go_sem,seval,-List.reduceReplicate] at ok
 simp only[go_sem,seval,-List.reduceReplicate,Try.results61]
 repeat' first|assumption|(simp (disch:=first|assumption|omega|(simp;done)|(simp;omega)) only[qaa,qac,List.take_of_length_le,qab,qae,qaf,qag,qah,qak];try simp only[go_sem,seval,-List.reduceReplicate,Try.results61])|(with_reducible refine And.intro ?_ ?_)|(with_reducible intro _)|((with_reducible (show Region.lexB _ _=true));kernel_rfl)|((try rw[qad]);omega)
 refine qaH (E:=Try.env 0) Try.tok (σ:=Nat) (fun i=>[(1,.d (dI tile)),(2,.d (dIs arr)),(3,.d (dRts rs)),(4,.ptr 0 0),(8,.d (dI 0)),(9,.d (dI (latT arr rs (x.inputs.take i) tile))),(10,.d (dI i))]) (fun _=>[.box [.d (dI x.net),.d (dIs x.inputs),.d (dI x.table),.d (dB x.reg)]]) (fun i=>i≤x.inputs.length) (fun i=>x.inputs.length-i) [] 1000 1000 ?_ ?_ ?_
 ·simp only[go_sem,seval,-List.reduceReplicate]
 ·simp only[go_sem,seval,-List.reduceReplicate]
  exact⟨0,by omega,rfl,rfl⟩
 ·intro i hi
  have hlb:=qer ha hro tile (x.inputs.take i)
  by_cases hit:i<x.inputs.length
  ·have hls:latT arr rs (x.inputs.take (i+1)) tile=max (latT arr rs (x.inputs.take i) tile) (arr.getD (x.inputs.getD i 0).toNat 0+qaW rs (x.inputs.getD i 0) tile):=qaC (f:=fun(t n:Int)=>max t (arr.getD n.toNat 0+qaW rs n tile)) (b:=0) (0:Int) hit
   have hnb:=hn _ (qal hit:x.inputs.getD i 0∈x.inputs)
   have hh:=Try.c_l22Hops rs hro (x.inputs.getD i 0) tile
   generalize hx9:x.inputs.getD i 0=y at *
   have hax:=ha y.toNat
   have hhx:=qbD (net:=y) (tile:=tile) hro.hops
   generalize latT arr rs (x.inputs.take i) tile=w at *
   simp only[go_sem,seval,-List.reduceReplicate,Try.results61,hx9]
   have hsc:scal (dI (qaW rs y tile)):=by show InK .i64 _;rw[qad];omega
   repeat' first|assumption|(simp (disch:=first|assumption|omega|(simp;done)|(simp;omega)) only[qaa,qac,List.take_of_length_le,qab,qae,qaf,qag,qah,qak];try simp only[go_sem,seval,-List.reduceReplicate,Try.results61,hx9])|(with_reducible refine And.intro ?_ ?_)|(with_reducible intro _)|(refine qa1 (fun _=>⟨hh,hsc⟩) ?_;simp only[go_sem,seval,-List.reduceReplicate,Try.results61,hx9])|((with_reducible (show Region.lexB _ _=true));kernel_rfl)|((try rw[qad]);omega)
   exact⟨i+1,by omega,by omega,hls.symm,rfl⟩
  ·obtain rfl:i=x.inputs.length:=by omega
   rw[List.take_length]
   simp only[go_sem,seval,-List.reduceReplicate,Try.results61]
   repeat' first|assumption|(simp (disch:=first|assumption|omega|(simp;done)|(simp;omega)) only[qaa,qac,List.take_of_length_le,qab,qae,qaf,qag,qah,qak];try simp only[go_sem,seval,-List.reduceReplicate,Try.results61])|(with_reducible refine And.intro ?_ ?_)|(with_reducible intro _)|((with_reducible (show Region.lexB _ _=true));kernel_rfl)|((try rw[qad]);omega)
theorem Try.c_l22Arrivals (c:Circ) (hv:c.Valid) (place:List Int) (hp:PlaceOk (qaj c).length place) (rs:List Rt) (hro:RtsOk rs) :
  Pure Try.prog 60 [dC c,dCes (qaj c),dIs place,dRts rs] (dIs (qaS c (qaj c) place rs)):=by
 have hrl:=hro.len
 have hf:=hv.first_bd
 have hi0:=hv.i0
 have hi1:=hv.i1
 have hvb:=hv.vars_bd
 have hvv:c.vars=c.first+(c.gates.length:Int):=rfl
 have hfst:=Try.c_l1First c (by omega)
 have hcl:=qbi hv
 have hpn:=hp.len
 have hAl:=fun i=>qdB (cells:=qaj c) (place:=place) (routes:=rs) (N:=c.vars.toNat) i
 have hAb:=fun i v=>qes (cells:=qaj c) (place:=place) hro (N:=c.vars.toNat) i v
 have hcn:=qd3 hv
 have hcin:=qcD hv
 have hpr:=fun i hi=>hp.get (i:=i) hi
 have hAd:qaS c (qaj c) place rs=arrT (qaj c) place rs c.vars.toNat (qaj c).length:=rfl
 have hA0:List.replicate (c.first+(c.gates.length:Int)).toNat (0:Int)=arrT (qaj c) place rs c.vars.toNat 0:=rfl
 have hA1:(c.first+(c.gates.length:Int)).toNat=c.vars.toNat:=rfl
 rw[hAd]
 generalize qaj c=cells at *
 refine qan (E:=Try.env 0) Try.tok rfl 1000 Try.func60 rfl rfl Try.ntmps60 (by simp) fun ok=>?_
 simp only[go_sem,seval,-List.reduceReplicate] at ok
 simp only[go_sem,seval,-List.reduceReplicate,Try.results60]
 repeat' first|assumption|(simp (disch:=first|assumption|omega|(simp;done)|(simp;omega)) only[qaa,qac,List.take_of_length_le,qab,qae,qaf,qag,qah,qak];try simp only[go_sem,seval,-List.reduceReplicate,Try.results60])|(with_reducible refine And.intro ?_ ?_)|(with_reducible intro _)|(refine qai hfst ?_;simp only[go_sem,seval,-List.reduceReplicate,Try.results60])|((with_reducible (show Region.lexB _ _=true));kernel_rfl)|((try rw[qad]);omega)
 refine qaQ (E:=Try.env 0) Try.tok Try.follows 1000 1000 [] (.fst 2 (.fst 0 (.fst 3 (.fst 4 (.one 1 (.fst 5 (.one 6 (.fst 7 (.done))))))))) (by kernel_rfl) ?_
 simp only[go_sem,seval,-List.reduceReplicate,Try.results60]
 repeat' first|assumption|(simp (disch:=first|assumption|omega|(simp;done)|(simp;omega)) only[qaa,qac,List.take_of_length_le,qab,qae,qaf,qag,qah,qak];try simp only[go_sem,seval,-List.reduceReplicate,Try.results60])|(with_reducible refine And.intro ?_ ?_)|(with_reducible intro _)|(refine qai hfst ?_;simp only[go_sem,seval,-List.reduceReplicate,Try.results60])|((with_reducible (show Region.lexB _ _=true));kernel_rfl)|((try rw[qad]);omega)
 rw[hA0,hA1]
 refine qao (E:=Try.env 0) Try.tok (σ:=Nat) (fun i=>[(1,.d (dCes cells)),(2,.d (dIs place)),(3,.d (dRts rs)),(9,.sl 1 0 1 0 c.vars.toNat),(10,.d (dI i))])
  (fun i=>[.dead 0,.row 0 1 true ((arrT cells place rs c.vars.toNat i).map (D.int .i64))]) (fun i=>i≤cells.length) (fun i=>cells.length-i) [] [] 1000 1000 ?_ ?_
 ·simp only[go_sem,seval,-List.reduceReplicate]
  exact⟨0,by omega,rfl,rfl⟩
 ·intro i hi
  have hali:=hAl i
  have habi:=hAb i
  by_cases hit:i<cells.length
  ·have hxm:cells.getD i ce0∈cells:=qal hit
   have h1:=hcn _ hxm
   have h2:=hcin _ hxm
   have hpi:=hpr i hit
   have hlb:=qer habi hro (place.getD i 0) (cells.getD i ce0).inputs
   have has:arrT cells place rs c.vars.toNat (i+1)=if(cells.getD i ce0).reg then arrT cells place rs c.vars.toNat i else(arrT cells place rs c.vars.toNat i).set (cells.getD i ce0).net.toNat (latT (arrT cells place rs c.vars.toNat i) rs (cells.getD i ce0).inputs (place.getD i 0)+3):=rfl
   generalize hx9:cells.getD i ce0=x at *
   have hin:=Try.c_l22Input x (arrT cells place rs c.vars.toNat i) rs hro (2503*(i:Int)) (by omega) habi (fun n hn=>by have:=h2.2.2 n hn;omega) (by omega) (place.getD i 0)
   generalize arrT cells place rs c.vars.toNat i=A at *
   have hsc:scal (dI (latT A rs x.inputs (place.getD i 0))):=by show InK .i64 _;rw[qad];omega
   simp only[go_sem,seval,-List.reduceReplicate,Try.results60,hx9]
   repeat' first|assumption|(simp (disch:=first|assumption|omega|(simp;done)|(simp;omega)) only[qaa,qac,List.take_of_length_le,qab,qae,qaf,qag,qah,qak];try simp only[go_sem,seval,-List.reduceReplicate,Try.results60,hx9])|(with_reducible refine And.intro ?_ ?_)|(with_reducible intro _)|((with_reducible (show Region.lexB _ _=true));kernel_rfl)|((try rw[qad]);omega)
   ·rename_i h7
    rw[if_pos h7] at has
    exact⟨i+1,by omega,by omega,rfl,has.symm⟩
   ·rename_i h7
    rw[if_neg (by rw[h7];simp)] at has
    refine qaQ (E:=Try.env 0) Try.tok Try.follows 1000 1000 [19] (.fst 0 (.fst 1 (.fst 2 (.fst 3 (.fst 4 (.fst 6 (.fst 7 (.fst 8 (.fst 10 (.fst 11 (.fst 12 (.fst 14 (.fst 15 (.fst 5 (.fst 9 (.fst 13 (.one 16 (.fst 17 (.fst 18 (.one 19 (.done))))))))))))))))))))) (by kernel_rfl) ?_
    simp only[go_sem,seval,-List.reduceReplicate,Try.results60,hx9]
    repeat' first|assumption|(simp (disch:=first|assumption|omega|(simp;done)|(simp;omega)) only[qaa,qac,List.take_of_length_le,qab,qae,qaf,qag,qah,qak];try simp only[go_sem,seval,-List.reduceReplicate,Try.results60,hx9])|(with_reducible refine And.intro ?_ ?_)|(with_reducible intro _)|(refine qa1 (fun _=>⟨hin,hsc⟩) ?_;simp only[go_sem,seval,-List.reduceReplicate,Try.results60,hx9])|(refine qai hin ?_;simp only[go_sem,seval,-List.reduceReplicate,Try.results60,hx9])|((with_reducible (show Region.lexB _ _=true));kernel_rfl)|((try rw[qad]);omega)
    exact⟨i+1,by omega,by omega,rfl,has.symm⟩
  ·obtain rfl:i=cells.length:=by omega
   simp only[go_sem,seval,-List.reduceReplicate,Try.results60]
   repeat' first|assumption|(simp (disch:=first|assumption|omega|(simp;done)|(simp;omega)) only[qaa,qac,List.take_of_length_le,qab,qae,qaf,qag,qah,qak];try simp only[go_sem,seval,-List.reduceReplicate,Try.results60])|(with_reducible refine And.intro ?_ ?_)|(with_reducible intro _)|((with_reducible (show Region.lexB _ _=true));kernel_rfl)|((try rw[qad]);omega)
theorem Try.c_sRouteDelay (c:Circ) (place:List Int) (net tile:Int):Pure Try.prog 24 [dC c,dIs place,dI net,dI tile] (dI (qd6 c place net tile)):=by
 have hS:=Try.c_sRoute c place
 unfold qd6
 cases hra:qaI c place [] with
 | none=>
  rw[hra] at hS
  have hS:PureF Try.prog 13 [dC c,dIs place] (.tup [dRts [],dB false]):=hS
  show Pure _ _ _ (dI (-1))
  refine qan (E:=Try.env 0) Try.tok rfl 1000 Try.func24 rfl rfl Try.ntmps24 (by simp) fun ok=>?_
  simp only[go_sem,seval,-List.reduceReplicate] at ok
  simp only[go_sem,seval,-List.reduceReplicate,Try.results24]
  repeat' first|assumption|(simp (disch:=first|assumption|omega|(simp;done)|(simp;omega)) only[qaa,qac,List.take_of_length_le,qab,qae,qaf,qag,qah,qak];try simp only[go_sem,seval,-List.reduceReplicate,Try.results24])|(with_reducible refine And.intro ?_ ?_)|(with_reducible intro _)|(refine qbk hS ?_;simp only[go_sem,seval,-List.reduceReplicate,Try.results24])|((with_reducible (show Region.lexB _ _=true));kernel_rfl)|((try rw[qad]);omega)
 | some rs=>
  rw[hra] at hS
  have hS:PureF Try.prog 13 [dC c,dIs place] (.tup [dRts rs,dB true]):=hS
  have hro:=qb4 hra
  have hh:=Try.c_l22Hops rs hro net tile
  have hon:=fun hops=>Try.c_l8On hops tile
  show Pure _ _ _ (dI (qbQ rs net tile))
  refine qan (E:=Try.env 0) Try.tok rfl 1000 Try.func24 rfl rfl Try.ntmps24 (by simp) fun ok=>?_
  simp only[go_sem,seval,-List.reduceReplicate] at ok
  simp only[go_sem,seval,-List.reduceReplicate,Try.results24]
  repeat' first|assumption|(simp (disch:=first|assumption|omega|(simp;done)|(simp;omega)) only[qaa,qac,List.take_of_length_le,qab,qae,qaf,qag,qah,qak];try simp only[go_sem,seval,-List.reduceReplicate,Try.results24])|(with_reducible refine And.intro ?_ ?_)|(with_reducible intro _)|(refine qbk hS ?_;simp only[go_sem,seval,-List.reduceReplicate,Try.results24])|((with_reducible (show Region.lexB _ _=true));kernel_rfl)|((try rw[qad]);omega)
  have hrl:=hro.len
  refine qaH (E:=Try.env 0) Try.tok (σ:=Nat) (fun i=>[(2,.d (dI net)),(3,.d (dI tile)),(9,.d (dRts rs)),(11,.d (dI i))]) (fun _=>[.box [.d (dI c.inputs),.d (dIs c.next),.d (dPs c.gates),.d (dIs c.outs)]]) (fun i=>i≤rs.length∧∀ j,j<i→¬ ((rs.getD j rt0).net=net∧tile∈qaq (rs.getD j rt0).hops)) (fun i=>rs.length-i) [] 1000 1000 ?_ ?_ ?_
  ·simp only[go_sem,seval,-List.reduceReplicate]
  ·simp only[go_sem,seval,-List.reduceReplicate]
   exact⟨0,⟨by omega,by omega⟩,rfl⟩
  ·rintro i ⟨hi,hinv⟩
   by_cases hit:i<rs.length
   ·have hxm:rs.getD i rt0∈rs:=qal hit
    have hon2:=hon (rs.getD i rt0).hops
    have hyes:(rs.getD i rt0).net=net∧tile∈qaq (rs.getD i rt0).hops→qbQ rs net tile=qaW rs net tile:=fun h=>by rw[qbQ,if_pos ⟨_,hxm,h⟩]
    have hno : ¬ ((rs.getD i rt0).net=net∧tile∈qaq (rs.getD i rt0).hops)→∀ j,j<i+1→¬ ((rs.getD j rt0).net=net∧tile∈qaq (rs.getD j rt0).hops):=fun h j hj=>by
     by_cases e:j=i
     ·subst e;exact h
     ·exact hinv j (by omega)
    generalize hx9:rs.getD i rt0=x at *
    simp only[go_sem,seval,-List.reduceReplicate,Try.results24,hx9]
    repeat' first|assumption|(simp (disch:=first|assumption|omega|(simp;done)|(simp;omega)) only[qaa,qac,List.take_of_length_le,qab,qae,qaf,qag,qah,qak];try simp only[go_sem,seval,-List.reduceReplicate,Try.results24,hx9])|(with_reducible refine And.intro ?_ ?_)|(with_reducible intro _)|(refine qbl (fun _=>hon2) ?_;simp only[go_sem,seval,-List.reduceReplicate,Try.results24,hx9])|(refine qa1 (fun _=>⟨hon2,trivial⟩) ?_;simp only[go_sem,seval,-List.reduceReplicate,Try.results24,hx9])|(refine qai hh ?_;simp only[go_sem,seval,-List.reduceReplicate,Try.results24,hx9])|((with_reducible (show Region.lexB _ _=true));kernel_rfl)|((try rw[qad]);omega)
    ·rename_i h7
     rw[hyes (by simpa using h7)]
    ·rename_i h7
     exact⟨i+1,⟨by omega,hno fun h=>h7.elim (fun q=>q h.1) (fun q=>q h.2)⟩,by omega,rfl⟩
   ·obtain rfl:i=rs.length:=by omega
    have hd:qbQ rs net tile = -1:=by
     rw[qbQ,if_neg]
     rintro⟨r,hr,h⟩
     obtain⟨j,hj,rfl⟩:=qbf rt0 hr
     exact hinv j hj h
    rw[hd]
    simp only[go_sem,seval,-List.reduceReplicate,Try.results24]
    repeat' first|assumption|(simp (disch:=first|assumption|omega|(simp;done)|(simp;omega)) only[qaa,qac,List.take_of_length_le,qab,qae,qaf,qag,qah,qak];try simp only[go_sem,seval,-List.reduceReplicate,Try.results24])|(with_reducible refine And.intro ?_ ?_)|(with_reducible intro _)|((with_reducible (show Region.lexB _ _=true));kernel_rfl)|((try rw[qad]);omega)
theorem Try.c_sClockPeriod (c:Circ) (place:List Int):Pure Try.prog 30 [dC c,dIs place] (dI (qcO c place)):=by
 have hS:=Try.c_sRoute c place
 unfold qcO
 cases hra:qaI c place [] with
 | none=>
  rw[hra] at hS
  have hS:PureF Try.prog 13 [dC c,dIs place] (.tup [dRts [],dB false]):=hS
  show Pure _ _ _ (dI (-1))
  refine qan (E:=Try.env 0) Try.tok rfl 1000 Try.func30 rfl rfl Try.ntmps30 (by simp) fun ok=>?_
  simp only[go_sem,seval,-List.reduceReplicate] at ok
  simp only[go_sem,seval,-List.reduceReplicate,Try.results30]
  repeat' first|assumption|(simp (disch:=first|assumption|omega|(simp;done)|(simp;omega)) only[qaa,qac,List.take_of_length_le,qab,qae,qaf,qag,qah,qak];try simp only[go_sem,seval,-List.reduceReplicate,Try.results30])|(with_reducible refine And.intro ?_ ?_)|(with_reducible intro _)|(refine qbk hS ?_;simp only[go_sem,seval,-List.reduceReplicate,Try.results30])|((with_reducible (show Region.lexB _ _=true));kernel_rfl)|((try rw[qad]);omega)
 | some rs=>
  rw[hra] at hS
  have hS:PureF Try.prog 13 [dC c,dIs place] (.tup [dRts rs,dB true]):=hS
  show Pure _ _ _ (dI (qce c (qaj c) place rs))
  have hro:=qb4 hra
  obtain⟨hv,hp,-,busy,hRo⟩:=qcN hra
  have hce:=Try.c_l6Cells c hv
  have har:=Try.c_l22Arrivals c hv place hp rs hro
  refine qan (E:=Try.env 0) Try.tok rfl 1000 Try.func30 rfl rfl Try.ntmps30 (by simp) fun ok=>?_
  simp only[go_sem,seval,-List.reduceReplicate] at ok
  simp only[go_sem,seval,-List.reduceReplicate,Try.results30]
  repeat' first|assumption|(simp (disch:=first|assumption|omega|(simp;done)|(simp;omega)) only[qaa,qac,List.take_of_length_le,qab,qae,qaf,qag,qah,qak];try simp only[go_sem,seval,-List.reduceReplicate,Try.results30])|(with_reducible refine And.intro ?_ ?_)|(with_reducible intro _)|(refine qbk hS ?_;simp only[go_sem,seval,-List.reduceReplicate,Try.results30])|(refine qai hce ?_;simp only[go_sem,seval,-List.reduceReplicate,Try.results30])|(refine qai har ?_;simp only[go_sem,seval,-List.reduceReplicate,Try.results30])|((with_reducible (show Region.lexB _ _=true));kernel_rfl)|((try rw[qad]);omega)
  have hpd:qce c (qaj c) place rs=perB c rs (qaS c (qaj c) place rs) (perA (qaj c) place rs (qaS c (qaj c) place rs) (qaj c).length) c.outs.length:=rfl
  rw[hpd]
  have hvb:=hv.vars_bd
  have hcl:=qbi hv
  have hcin:=qcD hv
  have hpr:=fun i hi=>hp.get (i:=i) hi
  have hpn:=hp.len
  have hlo:=hv.lo
  have hrl:=hro.len
  have hAl:(qaS c (qaj c) place rs).length=c.vars.toNat:=qdB _
  have hAb:=fun v=>qes (cells:=qaj c) (place:=place) hro (N:=c.vars.toNat) (qaj c).length v
  have hAd:arrT (qaj c) place rs c.vars.toNat (qaj c).length=qaS c (qaj c) place rs:=rfl
  rw[hAd] at hAb
  generalize qaj c=cells at *
  generalize qaS c cells place rs=A at *
  refine qaH (E:=Try.env 0) Try.tok (σ:=Nat) (fun i=>[(1,.d (dIs place)),(2,.ptr 0 0),(5,.d (dRts rs)),(7,.d (dCes cells)),(8,.d (dIs A)),(9,.d (dI (perA cells place rs A i))),(10,.d (dI i))])
   (fun _=>[.box [.d (dI c.inputs),.d (dIs c.next),.d (dPs c.gates),.d (dIs c.outs)]]) (fun i=>i≤cells.length) (fun i=>cells.length-i) [] 1000 1000 ?_ ?_ ?_
  ·simp only[go_sem,seval,-List.reduceReplicate]
  ·simp only[go_sem,seval,-List.reduceReplicate]
   exact⟨0,by omega,rfl,rfl⟩
  ·intro i hi
   have hpb:=qlx (cells:=cells) (place:=place) hro hAb i
   by_cases hit:i<cells.length
   ·have hxm:cells.getD i ce0∈cells:=qal hit
    have h2:=hcin _ hxm
    have hpi:=hpr i hit
    have hlb:=qer hAb hro (place.getD i 0) (cells.getD i ce0).inputs
    have has:perA cells place rs A (i+1)=if(cells.getD i ce0).reg then max (perA cells place rs A i) (latT A rs (cells.getD i ce0).inputs (place.getD i 0)+3) else perA cells place rs A i:=rfl
    generalize hx9:cells.getD i ce0=x at *
    have hin:=Try.c_l22Input x A rs hro (2503*(cells.length:Int)) (by omega) hAb (fun n hn=>by have:=h2.2.2 n hn;omega) (by omega) (place.getD i 0)
    have hsc:scal (dI (latT A rs x.inputs (place.getD i 0))):=by show InK .i64 _;rw[qad];omega
    generalize perA cells place rs A i=w at *
    simp only[go_sem,seval,-List.reduceReplicate,Try.results30,hx9]
    repeat' first|assumption|(simp (disch:=first|assumption|omega|(simp;done)|(simp;omega)) only[qaa,qac,List.take_of_length_le,qab,qae,qaf,qag,qah,qak];try simp only[go_sem,seval,-List.reduceReplicate,Try.results30,hx9])|(with_reducible refine And.intro ?_ ?_)|(with_reducible intro _)|(refine qa1 (fun _=>⟨hin,hsc⟩) ?_;simp only[go_sem,seval,-List.reduceReplicate,Try.results30,hx9])|(refine qai hin ?_;simp only[go_sem,seval,-List.reduceReplicate,Try.results30,hx9])|((with_reducible (show Region.lexB _ _=true));kernel_rfl)|((try rw[qad]);omega)
    ·rename_i h7
     rw[if_pos h7] at has
     exact⟨i+1,by omega,by omega,has.symm,rfl⟩
    ·rename_i h7
     rw[if_neg (by rw[h7];simp)] at has
     exact⟨i+1,by omega,by omega,has.symm,rfl⟩
   ·obtain rfl:i=cells.length:=by omega
    generalize perA cells place rs A cells.length=t0 at *
    simp only[go_sem,seval,-List.reduceReplicate,Try.results30]
    repeat' first|assumption|(simp (disch:=first|assumption|omega|(simp;done)|(simp;omega)) only[qaa,qac,List.take_of_length_le,qab,qae,qaf,qag,qah,qak];try simp only[go_sem,seval,-List.reduceReplicate,Try.results30])|(with_reducible refine And.intro ?_ ?_)|(with_reducible intro _)|((with_reducible (show Region.lexB _ _=true));kernel_rfl)|((try rw[qad]);omega)
    have hpb2:=qly (c:=c) hro hAb hpb
    refine qaH (E:=Try.env 0) Try.tok (σ:=Nat) (fun o=>[(2,.ptr 0 0),(5,.d (dRts rs)),(8,.d (dIs A)),(9,.d (dI (perB c rs A t0 o))),(11,.d (dI o))])
     (fun _=>[.box [.d (dI c.inputs),.d (dIs c.next),.d (dPs c.gates),.d (dIs c.outs)]]) (fun o=>o≤c.outs.length) (fun o=>c.outs.length-o) [] 1000 1000 ?_ ?_ ?_
    ·simp only[go_sem,seval,-List.reduceReplicate]
    ·simp only[go_sem,seval,-List.reduceReplicate]
     exact⟨0,by omega,rfl,rfl⟩
    ·intro o ho
     have hpo:=hpb2 o
     by_cases hot:o<c.outs.length
     ·have hoo:=hv.o _ (qal hot:c.outs.getD o 0∈c.outs)
      unfold qbc at hoo
      have hbs:perB c rs A t0 (o+1)=max (perB c rs A t0 o) (A.getD (c.outs.getD o 0/2).toNat 0+qaW rs (c.outs.getD o 0/2) ((o:Int)*5+4)):=rfl
      have e5:(o:Int)*5+5-1=(o:Int)*5+4:=by omega
      generalize hx9:c.outs.getD o 0=x at *
      have hh:=Try.c_l22Hops rs hro (x/2) ((o:Int)*5+4)
      have hAx:=hAb (x/2).toNat
      have hhx:=qbD (net:=x/2) (tile:=(o:Int)*5+4) hro.hops
      have hsc:scal (dI (qaW rs (x/2) ((o:Int)*5+4))):=by show InK .i64 _;rw[qad];omega
      generalize perB c rs A t0 o=w at *
      simp only[go_sem,seval,-List.reduceReplicate,Try.results30,hx9,e5]
      repeat' first|assumption|(simp (disch:=first|assumption|omega|(simp;done)|(simp;omega)) only[qaa,qac,List.take_of_length_le,qab,qae,qaf,qag,qah,qak];try simp only[go_sem,seval,-List.reduceReplicate,Try.results30,hx9,e5])|(with_reducible refine And.intro ?_ ?_)|(with_reducible intro _)|(refine qa1 (fun _=>⟨hh,hsc⟩) ?_;simp only[go_sem,seval,-List.reduceReplicate,Try.results30,hx9,e5])|(refine qai hh ?_;simp only[go_sem,seval,-List.reduceReplicate,Try.results30,hx9,e5])|((with_reducible (show Region.lexB _ _=true));kernel_rfl)|((try rw[qad]);omega)
      exact⟨o+1,by omega,by omega,hbs.symm,rfl⟩
     ·obtain rfl:o=c.outs.length:=by omega
      simp only[go_sem,seval,-List.reduceReplicate,Try.results30]
      repeat' first|assumption|(simp (disch:=first|assumption|omega|(simp;done)|(simp;omega)) only[qaa,qac,List.take_of_length_le,qab,qae,qaf,qag,qah,qak];try simp only[go_sem,seval,-List.reduceReplicate,Try.results30])|(with_reducible refine And.intro ?_ ?_)|(with_reducible intro _)|((with_reducible (show Region.lexB _ _=true));kernel_rfl)|((try rw[qad]);omega)
end Go.Proofs

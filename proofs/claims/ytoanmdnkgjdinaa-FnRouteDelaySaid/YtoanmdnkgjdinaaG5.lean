/- Laws: delays of routes. Conditions: none; lemmas. -/
import Derived.Test.YtoanmdnkgjdinaaG4
import Derived.Test.YtoanmdnkgjdinaaF1
import Derived.Test.YtoanmdnkgjdinaaC13
set_option maxRecDepth 20000
set_option linter.unusedVariables false
set_option linter.unusedSimpArgs false
namespace Go.Proofs
open Go Go.VL
theorem qjQ {rs:List Rt}(hro:RtsOk rs) (net tile:Int) : -1≤qbQ rs net tile∧qbQ rs net tile≤2500:=by
 have:=qbD (net:=net) (tile:=tile) hro.hops
 have:=hro.len
 unfold qbQ
 split <;> omega
theorem qoH (c:Circ) (place:List Int) (net tile:Int) : -1≤qd6 c place net tile∧qd6 c place net tile≤2500:=by
 unfold qd6
 cases h:qaI c place [] with
 | none=>exact⟨Int.le_refl _,show(-1:Int)≤2500 by decide⟩
 | some rs=>exact qjQ (qb4 h) net tile
theorem qoI {rs:List Rt}(hro:RtsOk rs) {i k:Nat}(hi:i<rs.length) (hk:k<(rs.getD i rt0).hops.length) :
  qbQ rs (rs.getD i rt0).net ((rs.getD i rt0).hops.getD k (0,0)).1=if 0≤((rs.getD i rt0).hops.getD k (0,0)).2 then 1+qbQ rs (rs.getD i rt0).net ((rs.getD i rt0).hops.getD k (0,0)).2 else 0:=by
 have hm:rs.getD i rt0∈rs:=qal hi
 have h1 : ∀ j,j<(rs.getD i rt0).hops.length→qbQ rs (rs.getD i rt0).net ((rs.getD i rt0).hops.getD j (0,0)).1=qaW rs (rs.getD i rt0).net ((rs.getD i rt0).hops.getD j (0,0)).1:=fun j hj=>by
  rw[qbQ,if_pos ⟨_,hm,rfl,List.mem_map.2 ⟨_,qal hj,rfl⟩⟩]
 rw[h1 k hk,qoF hro hi hk]
 by_cases hf:0≤((rs.getD i rt0).hops.getD k (0,0)).2
 ·rw[if_pos hf,if_pos hf]
  obtain⟨b,hb⟩:=hro.tree _ hm
  rcases hb.root k hk with⟨-,h2⟩|⟨-,m,h2,h3,-⟩
  ·omega
  ·rw[←h3,h1 m (by omega)];omega
 ·rw[if_neg hf,if_neg hf]
set_option maxHeartbeats 2000000 in
theorem Try.c_FnRouteDelay (code:List Int):Pure Try.prog 6 [dUs code] (.bool true):=by
 refine qan (E:=Try.env 0) Try.tok rfl 1000 Try.func6 rfl rfl Try.ntmps6 (by simp) fun ok=>?_
 simp only[go_sem,seval,-List.reduceReplicate] at ok
 simp only[go_sem,seval,-List.reduceReplicate,Try.results6]
 repeat' first|assumption|(simp (disch:=first|assumption|omega|(simp;done)|(simp;omega)) only[qaa,qac,List.take_of_length_le,qab,qae,qaf,qag,qah,qak];try simp only[go_sem,seval,-List.reduceReplicate,Try.results6])|(with_reducible refine And.intro ?_ ?_)|(with_reducible intro _)|((with_reducible (show Region.lexB _ _=true));kernel_rfl)|((try rw[qad]);omega)
 refine qdm (Try.c_DrawRouteDelay code) ?_
 rintro x ⟨c,place,net,tile,rfl,hc,hpl⟩
 have hD:=fun n t=>Try.c_RouteDelay c place n t
 have hDs:=Try.c_sRouteDelay c place net tile
 have hR:=Try.c_Route c place
 have hdb:=fun n t=>qoH c place n t
 have hdv:=hdb net tile
 simp only[go_sem,seval,-List.reduceReplicate,Try.results6]
 repeat' first|assumption|(simp (disch:=first|assumption|omega|(simp;done)|(simp;omega)) only[qaa,qac,List.take_of_length_le,qab,qae,qaf,qag,qah,qak];try simp only[go_sem,seval,-List.reduceReplicate,Try.results6])|(with_reducible refine And.intro ?_ ?_)|(with_reducible intro _)|(refine qai (hD net tile) ?_;simp only[go_sem,seval,-List.reduceReplicate,Try.results6])|(refine qai hDs ?_;simp only[go_sem,seval,-List.reduceReplicate,Try.results6])|((with_reducible (show Region.lexB _ _=true));kernel_rfl)|((try rw[qad]);omega)
 cases hra:qaI c place [] with
 | none=>
  rw[hra] at hR
  have hR:Pure Try.prog 12 [dC c,dIs place] (.tup [.nil,dB false]):=hR
  refine qai hR ?_
  simp only[go_sem,seval,-List.reduceReplicate,Try.results6]
  repeat' first|assumption|(simp (disch:=first|assumption|omega|(simp;done)|(simp;omega)) only[qaa,qac,List.take_of_length_le,qab,qae,qaf,qag,qah,qak];try simp only[go_sem,seval,-List.reduceReplicate,Try.results6])|(with_reducible refine And.intro ?_ ?_)|(with_reducible intro _)|((with_reducible (show Region.lexB _ _=true));kernel_rfl)|((try rw[qad]);omega)
  generalize qd6 c place net tile=w at *
  refine qao (E:=Try.env 0) Try.tok (σ:=Unit) (fun _=>[(7,.d (dI w)),(8,.d .nil),(10,.d (dI 0))]) (fun _=>[]) (fun _=>True) (fun _=>0) [] [] 1000 1000 ?_ ?_
  ·simp only[go_sem,seval,-List.reduceReplicate]
   exact⟨(),trivial⟩
  ·intro _ _
   simp only[go_sem,seval,-List.reduceReplicate,Try.results6]
   repeat' first|assumption|(simp (disch:=first|assumption|omega|(simp;done)|(simp;omega)) only[qaa,qac,List.take_of_length_le,qab,qae,qaf,qag,qah,qak];try simp only[go_sem,seval,-List.reduceReplicate,Try.results6])|(with_reducible refine And.intro ?_ ?_)|(with_reducible intro _)|(refine qbl (fun _=>Try.c_alive) ?_;simp only[go_sem,seval,-List.reduceReplicate,Try.results6])|(refine qa1 (fun _=>⟨Try.c_alive,trivial⟩) ?_;simp only[go_sem,seval,-List.reduceReplicate,Try.results6])|((with_reducible (show Region.lexB _ _=true));kernel_rfl)|((try rw[qad]);omega)
 | some rs=>
  rw[hra] at hR
  have hR:Pure Try.prog 12 [dC c,dIs place] (.tup [dRts rs,dB true]):=hR
  have hro:=qb4 hra
  have hdo : ∀ n t,qd6 c place n t=qbQ rs n t:=fun n t=>by unfold qd6;rw[hra]
  refine qai hR ?_
  simp only[go_sem,seval,-List.reduceReplicate,Try.results6]
  repeat' first|assumption|(simp (disch:=first|assumption|omega|(simp;done)|(simp;omega)) only[qaa,qac,List.take_of_length_le,qab,qae,qaf,qag,qah,qak];try simp only[go_sem,seval,-List.reduceReplicate,Try.results6])|(with_reducible refine And.intro ?_ ?_)|(with_reducible intro _)|((with_reducible (show Region.lexB _ _=true));kernel_rfl)|((try rw[qad]);omega)
  generalize qd6 c place net tile=w at *
  have hrl:=hro.len
  have hdl:=fun i k h1 h2=>qoI hro (i:=i) (k:=k) h1 h2
  refine qaH (E:=Try.env 0) Try.tok (σ:=Nat) (fun i=>[(3,.ptr 0 0),(4,.d (dIs place)),(7,.d (dI w)),(8,.d (dRts rs)),(10,.d (dI i))]) (fun _=>[.box [.d (dI c.inputs),.d (dIs c.next),.d (dPs c.gates),.d (dIs c.outs)]]) (fun i=>i≤rs.length) (fun i=>rs.length-i) [] 1000 1000 ?_ ?_ ?_
  ·simp only[go_sem,seval,-List.reduceReplicate]
  ·simp only[go_sem,seval,-List.reduceReplicate]
   exact⟨0,by omega,rfl⟩
  ·intro i hi
   by_cases hit:i<rs.length
   ·have hdi:=hdl i
    have hhl:=hro.hops _ (qal hit:rs.getD i rt0∈rs)
    generalize hx9:rs.getD i rt0=x at *
    simp only[go_sem,seval,-List.reduceReplicate,Try.results6,hx9]
    repeat' first|assumption|(simp (disch:=first|assumption|omega|(simp;done)|(simp;omega)) only[qaa,qac,List.take_of_length_le,qab,qae,qaf,qag,qah,qak];try simp only[go_sem,seval,-List.reduceReplicate,Try.results6,hx9])|(with_reducible refine And.intro ?_ ?_)|(with_reducible intro _)|((with_reducible (show Region.lexB _ _=true));kernel_rfl)|((try rw[qad]);omega)
    refine qaH (E:=Try.env 0) Try.tok (σ:=Nat) (fun k=>[(3,.ptr 0 0),(4,.d (dIs place)),(7,.d (dI w)),(8,.d (dRts rs)),(10,.d (dI i)),(11,.d (dPs x.hops)),(12,.d (dI k))]) (fun _=>[.box [.d (dI c.inputs),.d (dIs c.next),.d (dPs c.gates),.d (dIs c.outs)]]) (fun k=>k≤x.hops.length) (fun k=>x.hops.length-k) [] 1000 1000 ?_ ?_ ?_
    ·simp only[go_sem,seval,-List.reduceReplicate]
    ·simp only[go_sem,seval,-List.reduceReplicate]
     exact⟨0,by omega,rfl⟩
    ·intro k hk
     by_cases hkt:k<x.hops.length
     ·have hd2:=hdi k hit hkt
      generalize hu9:x.hops.getD k (0,0)=u at *
      have hD1:=hD x.net u.1
      have hD2:=hD x.net u.2
      rw[hdo] at hD1 hD2
      have hb2:=qjQ hro x.net u.2
      have hb1:=qjQ hro x.net u.1
      have hs1:scal (dI (qbQ rs x.net u.1)):=by show InK .i64 _;rw[qad];omega
      have hs2:scal (dI (qbQ rs x.net u.2)):=by show InK .i64 _;rw[qad];omega
      generalize qbQ rs x.net u.1=d1 at *
      generalize qbQ rs x.net u.2=d2 at *
      simp only[go_sem,seval,-List.reduceReplicate,Try.results6,hx9,hu9]
      repeat' first|assumption|(simp (disch:=first|assumption|omega|(simp;done)|(simp;omega)) only[qaa,qac,List.take_of_length_le,qab,qae,qaf,qag,qah,qak];try simp only[go_sem,seval,-List.reduceReplicate,Try.results6,hx9,hu9])|(with_reducible refine And.intro ?_ ?_)|(with_reducible intro _)|(refine qa1 (fun _=>⟨hD1,hs1⟩) ?_;simp only[go_sem,seval,-List.reduceReplicate,Try.results6,hx9,hu9])|(refine qa1 (fun _=>⟨hD2,hs2⟩) ?_;simp only[go_sem,seval,-List.reduceReplicate,Try.results6,hx9,hu9])|((with_reducible (show Region.lexB _ _=true));kernel_rfl)|((try rw[qad]);omega)
      exact⟨k+1,by omega,by omega,rfl⟩
     ·simp only[go_sem,seval,-List.reduceReplicate,Try.results6]
      repeat' first|assumption|(simp (disch:=first|assumption|omega|(simp;done)|(simp;omega)) only[qaa,qac,List.take_of_length_le,qab,qae,qaf,qag,qah,qak];try simp only[go_sem,seval,-List.reduceReplicate,Try.results6])|(with_reducible refine And.intro ?_ ?_)|(with_reducible intro _)|((with_reducible (show Region.lexB _ _=true));kernel_rfl)|((try rw[qad]);omega)
      exact⟨i+1,by omega,by omega,rfl⟩
   ·simp only[go_sem,seval,-List.reduceReplicate,Try.results6]
    repeat' first|assumption|(simp (disch:=first|assumption|omega|(simp;done)|(simp;omega)) only[qaa,qac,List.take_of_length_le,qab,qae,qaf,qag,qah,qak];try simp only[go_sem,seval,-List.reduceReplicate,Try.results6])|(with_reducible refine And.intro ?_ ?_)|(with_reducible intro _)|(refine qbl (fun _=>Try.c_alive) ?_;simp only[go_sem,seval,-List.reduceReplicate,Try.results6])|(refine qa1 (fun _=>⟨Try.c_alive,trivial⟩) ?_;simp only[go_sem,seval,-List.reduceReplicate,Try.results6])|((with_reducible (show Region.lexB _ _=true));kernel_rfl)|((try rw[qad]);omega)
set_option maxHeartbeats 2000000 in
theorem Try.c_FnExactRouteDelay (c:Circ) (place:List Int) (net tile:Int):Pure Try.prog 7 [dC c,dIs place,dI net,dI tile] (.bool true):=by
 have hD:=Try.c_RouteDelay c place net tile
 have hDs:=Try.c_sRouteDelay c place net tile
 refine qan (E:=Try.env 0) Try.tok rfl 1000 Try.func7 rfl rfl Try.ntmps7 (by simp) fun ok=>?_
 simp only[go_sem,seval,-List.reduceReplicate] at ok
 simp only[go_sem,seval,-List.reduceReplicate,Try.results7]
 repeat' first|assumption|(simp (disch:=first|assumption|omega|(simp;done)|(simp;omega)) only[qaa,qac,List.take_of_length_le,qab,qae,qaf,qag,qah,qak];try simp only[go_sem,seval,-List.reduceReplicate,Try.results7])|(with_reducible refine And.intro ?_ ?_)|(with_reducible intro _)|((with_reducible (show Region.lexB _ _=true));kernel_rfl)|((try rw[qad]);omega)
 have hz:=Try.c_szCircuit c 1048576 (by omega)
 by_cases h1:(1048576:Int)<c.next.length+c.gates.length+c.outs.length
 ·rw[if_pos h1] at hz
  refine qai hz ?_
  simp only[go_sem,seval,-List.reduceReplicate,Try.results7]
 rw[if_neg h1] at hz
 refine qai hz ?_
 simp only[go_sem,seval,-List.reduceReplicate,Try.results7]
 repeat' first|assumption|(simp (disch:=first|assumption|omega|(simp;done)|(simp;omega)) only[qaa,qac,List.take_of_length_le,qab,qae,qaf,qag,qah,qak];try simp only[go_sem,seval,-List.reduceReplicate,Try.results7])|(with_reducible refine And.intro ?_ ?_)|(with_reducible intro _)|((with_reducible (show Region.lexB _ _=true));kernel_rfl)|((try rw[qad]);omega)
 have htc:=Try.c_toCircuit c (by omega) (by omega) (by omega)
 have hti:=Try.c_toIntS place (by omega)
 have hec:=Try.c_eqCircuit c c
 have hei:=Try.c_eqIntS place place
 rw[decide_eq_true rfl] at hec hei
 refine qai htc ?_
 simp only[go_sem,seval,-List.reduceReplicate,Try.results7]
 repeat' first|assumption|(simp (disch:=first|assumption|omega|(simp;done)|(simp;omega)) only[qaa,qac,List.take_of_length_le,qab,qae,qaf,qag,qah,qak];try simp only[go_sem,seval,-List.reduceReplicate,Try.results7])|(with_reducible refine And.intro ?_ ?_)|(with_reducible intro _)|((with_reducible (show Region.lexB _ _=true));kernel_rfl)|((try rw[qad]);omega)
 repeat' first|assumption|(simp (disch:=first|assumption|omega|(simp;done)|(simp;omega)) only[qaa,qac,List.take_of_length_le,qab,qae,qaf,qag,qah,qak];try simp only[go_sem,seval,-List.reduceReplicate,Try.results7])|(with_reducible refine And.intro ?_ ?_)|(with_reducible intro _)|(refine qai htc ?_;simp only[go_sem,seval,-List.reduceReplicate,Try.results7])|(refine qai hti ?_;simp only[go_sem,seval,-List.reduceReplicate,Try.results7])|(refine qai hDs ?_;simp only[go_sem,seval,-List.reduceReplicate,Try.results7])|(refine qai hD ?_;simp only[go_sem,seval,-List.reduceReplicate,Try.results7])|(refine qai hec ?_;simp only[go_sem,seval,-List.reduceReplicate,Try.results7])|(refine qai hei ?_;simp only[go_sem,seval,-List.reduceReplicate,Try.results7])|((with_reducible (show Region.lexB _ _=true));kernel_rfl)|((try rw[qad]);omega)
 refine qaQ (E:=Try.env 0) Try.tok Try.follows 1000 1000 [] (.fst 0 (.fst 1 (.one 2 (.one 3 (.fst 4 (.done)))))) (by kernel_rfl) ?_
 simp only[go_sem,seval,-List.reduceReplicate,Try.results7]
 repeat' first|assumption|(simp (disch:=first|assumption|omega|(simp;done)|(simp;omega)) only[qaa,qac,List.take_of_length_le,qab,qae,qaf,qag,qah,qak];try simp only[go_sem,seval,-List.reduceReplicate,Try.results7])|(with_reducible refine And.intro ?_ ?_)|(with_reducible intro _)|(refine qai htc ?_;simp only[go_sem,seval,-List.reduceReplicate,Try.results7])|(refine qai hti ?_;simp only[go_sem,seval,-List.reduceReplicate,Try.results7])|(refine qai hDs ?_;simp only[go_sem,seval,-List.reduceReplicate,Try.results7])|(refine qai hD ?_;simp only[go_sem,seval,-List.reduceReplicate,Try.results7])|(refine qai hec ?_;simp only[go_sem,seval,-List.reduceReplicate,Try.results7])|(refine qai hei ?_;simp only[go_sem,seval,-List.reduceReplicate,Try.results7])|((with_reducible (show Region.lexB _ _=true));kernel_rfl)|((try rw[qad]);omega)
end Go.Proofs

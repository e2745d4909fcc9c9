/- Law: routes are trees. Conditions: none; lemmas. -/
import Derived.Test.YtoanmdnkgjdinaaC12
import Derived.Test.YtoanmdnkgjdinaaE9
set_option maxRecDepth 20000
set_option linter.unusedVariables false
set_option linter.unusedSimpArgs false
namespace Go.Proofs
open Go Go.VL
theorem qhZ {c:Circ}{place:List Int}{list:List (Int×Int)}{routes:List Rt}(h:qaH c place list=some routes):c.Valid∧PlaceOk (qaq c).length place∧qjh list∧∃ busy,RoutesOk c (qaq c) place (qcF list) (c.vars.toNat-1) busy routes:=by
 classical
 rw[qaH] at h
 split at h
 ·rename_i hv
  obtain⟨busy,hR⟩:=qkd hv.1.1 hv.1.2 (qgR list) h
  exact⟨hv.1.1,hv.1.2,hv.2,busy,hR⟩
 ·cases h
theorem qd7 {c:Circ}{place:List Int}{list:List (Int×Int)}{routes:List Rt}(h:qaH c place list=some routes):RtsOk routes:=by
 classical
 rw[qaH] at h
 split at h
 ·rename_i hv
  exact ql7 hv.1.1 hv.1.2 (qgR list) h
 ·cases h
theorem sq_nn (x:Int):0≤x*x:=by
 rcases Int.le_total 0 x with h|h
 ·exact Int.mul_nonneg h h
 ·exact Int.mul_nonneg_of_nonpos_of_nonpos h h
set_option maxHeartbeats 2000000 in
theorem Try.c_FnRoute (code:List Int):Pure Try.prog 4 [dUs code] (.bool true):=by
 refine qau (E:=Try.env 0) Try.tok rfl 1000 Try.func4 rfl rfl Try.ntmps4 (by simp) fun ok=>?_
 simp only[go_sem,seval,-List.reduceReplicate] at ok
 simp only[go_sem,seval,-List.reduceReplicate,Try.results4]
 repeat' first|assumption|(simp (disch:=first|assumption|omega|(simp;done)|(simp;omega)) only[qaa,qac,List.take_of_length_le,qab,qae,qaf,qag,qah,qal];try simp only[go_sem,seval,-List.reduceReplicate,Try.results4])|(with_reducible refine And.intro ?_ ?_)|(with_reducible intro _)|(refine @Exists.intro I _ (I.d D.nil) ?_;simp only[go_sem,seval,-List.reduceReplicate,Try.results4])|((with_reducible (show Region.lexB _ _=true));kernel_rfl)|((try rw[qad]);omega)
 refine qhl (Try.c_DrawRoute code) ?_
 rintro x ⟨c,place,rfl,hc,hpl⟩
 have hR:=Try.c_Route c place
 have hS:=Try.c_sRoute c place
 cases hra:qaH c place [] with
 | none=>
  rw[hra] at hR hS
  have hR:Pure Try.prog 12 [dC c,dIs place] (.tup [.nil,dB false]):=hR
  have hS:PureF Try.prog 13 [dC c,dIs place] (.tup [dRts [],dB false]):=hS
  have hsr:=(Try.c_sameRoutes [] [] (by simp)).wk (ds':=[.nil,dRts []]) (by simp only[go_sem];omega)
  simp only[go_sem,seval,-List.reduceReplicate,Try.results4]
  repeat' first|assumption|(simp (disch:=first|assumption|omega|(simp;done)|(simp;omega)) only[qaa,qac,List.take_of_length_le,qab,qae,qaf,qag,qah,qal];try simp only[go_sem,seval,-List.reduceReplicate,Try.results4])|(with_reducible refine And.intro ?_ ?_)|(with_reducible intro _)|(refine qai hR ?_;simp only[go_sem,seval,-List.reduceReplicate,Try.results4])|(refine qbD hS ?_;simp only[go_sem,seval,-List.reduceReplicate,Try.results4])|(refine qai hsr ?_;simp only[go_sem,seval,-List.reduceReplicate,Try.results4])|(refine qa7 (fun _=>Try.c_alive) ?_;simp only[go_sem,seval,-List.reduceReplicate,Try.results4])|(refine @Exists.intro I _ (I.d D.nil) ?_;simp only[go_sem,seval,-List.reduceReplicate,Try.results4])|((with_reducible (show Region.lexB _ _=true));kernel_rfl)|((try rw[qad]);omega)
 | some rs=>
  rw[hra] at hR hS
  have hR:Pure Try.prog 12 [dC c,dIs place] (.tup [dRts rs,dB true]):=hR
  have hS:PureF Try.prog 13 [dC c,dIs place] (.tup [dRts rs,dB true]):=hS
  have hro:=qd7 hra
  have hsr:=Try.c_sameRoutes rs rs (fun x hx=>by have:=hro.hops x hx;omega)
  rw[decide_eq_true rfl] at hsr
  simp only[go_sem,seval,-List.reduceReplicate,Try.results4]
  repeat' first|assumption|(simp (disch:=first|assumption|omega|(simp;done)|(simp;omega)) only[qaa,qac,List.take_of_length_le,qab,qae,qaf,qag,qah,qal];try simp only[go_sem,seval,-List.reduceReplicate,Try.results4])|(with_reducible refine And.intro ?_ ?_)|(with_reducible intro _)|(refine qai hR ?_;simp only[go_sem,seval,-List.reduceReplicate,Try.results4])|(refine qbD hS ?_;simp only[go_sem,seval,-List.reduceReplicate,Try.results4])|(refine qai hsr ?_;simp only[go_sem,seval,-List.reduceReplicate,Try.results4])|(refine @Exists.intro I _ (I.d D.nil) ?_;simp only[go_sem,seval,-List.reduceReplicate,Try.results4])|((with_reducible (show Region.lexB _ _=true));kernel_rfl)|((try rw[qad]);omega)
  obtain⟨-,-,-,busy,hRo⟩:=qhZ hra
  have hwl : ∀ i,i≤rs.length→(qcn (rs.take i)).length≤25*i:=by
   intro i
   induction i with
   | zero=>intro _;simp[qcn]
   | succ i ih=>
    intro hi
    have h1:=ih (by omega)
    have h2:=hro.hops _ (qaj (by omega):rs.getD i rt0∈rs)
    rw[qd6 (by omega),List.length_append,qbw,List.length_map]
    omega
  have hrl:=hro.len
  refine qao (E:=Try.env 0) Try.tok (σ:=Nat) (fun i=>[(5,.d (dRts rs)),(9,.sl 1 (qcn (rs.take i)).length 1 0 (qcn (rs.take i)).length),(10,.d (dI i))])
   (fun i=>[.dead 0,.row (qcn (rs.take i)).length 1 true ((qcn (rs.take i)).map (D.int .i64))]) (fun i=>i≤rs.length) (fun i=>rs.length-i) [] [] 1000 1000 ?_ ?_
  ·simp only[go_sem,seval,-List.reduceReplicate]
   exact⟨0,by omega,by simp[qcn]⟩
  ·intro i hi
   have hwli:=hwl i hi
   by_cases hlt:i<rs.length
   ·have hwt:=qd6 hlt
    have hwn:=fun k=>qlw hRo (k:=k) hlt
    have hrm:=hRo.each _ (qaj hlt:rs.getD i rt0∈rs)
    have hhl:=hro.hops _ (qaj hlt:rs.getD i rt0∈rs)
    have htr:=hrm.track
    have htree:=hrm.tree
    generalize hx9:rs.getD i rt0=x at *
    generalize qcn (rs.take i)=W at *
    simp only[go_sem,seval,-List.reduceReplicate,Try.results4,hx9]
    repeat' first|assumption|(simp (disch:=first|assumption|omega|(simp;done)|(simp;omega)) only[qaa,qac,List.take_of_length_le,qab,qae,qaf,qag,qah,qal];try simp only[go_sem,seval,-List.reduceReplicate,Try.results4,hx9])|(with_reducible refine And.intro ?_ ?_)|(with_reducible intro _)|(refine @Exists.intro I _ (I.d D.nil) ?_;simp only[go_sem,seval,-List.reduceReplicate,Try.results4,hx9])|((with_reducible (show Region.lexB _ _=true));kernel_rfl)|((try rw[qad]);omega)
    refine qao (E:=Try.env 0) Try.tok (σ:=Nat) (fun k=>[(5,.d (dRts rs)),(9,.sl 1 (W.length+k) 1 0 (W.length+k)),(10,.d (dI i)),(11,.sl 2 k 1 0 k),(12,.d (dI k))])
     (fun k=>[.dead 0,.row (W.length+k) 1 true ((W++qbw x.track (x.hops.take k)).map (D.int .i64)),.row k 1 true ((qap (x.hops.take k)).map (D.int .i64))]) (fun k=>k≤x.hops.length) (fun k=>x.hops.length-k) [] [] 1000 1000 ?_ ?_
    ·simp only[go_sem,seval,-List.reduceReplicate]
     exact⟨0,by omega,by simp[qbw,qap]⟩
    ·intro k hk
     have hql:(qap (x.hops.take k)).length=k:=by simp[qap];omega
     have hUl:(W++qbw x.track (x.hops.take k)).length=W.length+k:=by simp[qbw];omega
     by_cases hkt:k<x.hops.length
     ·have hh1:=qnN htree hkt
      have hh2:=qlv htree hkt
      have hh3:=hwn k hkt
      have hh4:=qnO htree hkt
      have hr:=htree.rng _ (qaj hkt:x.hops.getD k (0,0)∈x.hops)
      have hts:qap (x.hops.take (k+1))=qap (x.hops.take k) ++ [(x.hops.getD k (0,0)).1]:=qaT (0,0) hkt
      have hus:=qhY (track:=x.track) hkt
      have hct:=Try.c_contains (qap (x.hops.take k)) (x.hops.getD k (0,0)).1
      have hcu:=Try.c_contains (W++qbw x.track (x.hops.take k)) ((x.hops.getD k (0,0)).1*8+x.track)
      have hcf:=Try.c_contains (qap (x.hops.take k)) (x.hops.getD k (0,0)).2
      rw[decide_eq_false hh2] at hct
      rw[decide_eq_false hh3] at hcu
      have hUs:W++qbw x.track (x.hops.take (k+1))=(W++qbw x.track (x.hops.take k)) ++ [(x.hops.getD k (0,0)).1*8+x.track]:=by rw[hus,List.append_assoc]
      generalize W++qbw x.track (x.hops.take k)=U at *
      generalize qap (x.hops.take k)=Tk at *
      generalize hu9:x.hops.getD k (0,0)=u at *
      by_cases hk0:k=0
      ·have hu2:=hh1.2 hk0
       have hd1:decide (u.2 = -1)=true:=decide_eq_true (hh1.2 hk0)
       have hd2:decide ((k:Int)=0)=true:=decide_eq_true (by omega)
       simp only[go_sem,seval,-List.reduceReplicate,Try.results4,hx9,hu9,hd1,hd2]
       repeat' first|assumption|(simp (disch:=first|assumption|omega|(simp;done)|(simp;omega)) only[qaa,qac,List.take_of_length_le,qab,qae,qaf,qag,qah,qal];try simp only[go_sem,seval,-List.reduceReplicate,Try.results4,hx9,hu9,hql,hUl,hd1,hd2])|(with_reducible refine And.intro ?_ ?_)|(with_reducible intro _)|(refine qbj (fun _=>⟨hct,trivial⟩) ?_;simp only[go_sem,seval,-List.reduceReplicate,Try.results4,hx9,hu9,hql,hUl,hd1,hd2])|(refine qbj (fun _=>⟨hcu,trivial⟩) ?_;simp only[go_sem,seval,-List.reduceReplicate,Try.results4,hx9,hu9,hql,hUl,hd1,hd2])|(refine @Exists.intro I _ (I.d D.nil) ?_;simp only[go_sem,seval,-List.reduceReplicate,Try.results4,hx9,hu9,hql,hUl,hd1,hd2])|((with_reducible (show Region.lexB _ _=true));kernel_rfl)|((try rw[qad]);omega)
       ·rename_i h9
        rcases h9 with(h9|h9)|h9
        ·exact h9 (by omega)
        ·exact h9
        ·exact h9
       refine qaS (E:=Try.env 0) Try.tok Try.follows 1000 1000 [11] (.fst 0 (.fst 1 (.fst 4 (.fst 5 (.fst 6 (.fst 7 (.fst 2 (.fst 3 (.fst 8 (.fst 9 (.one 10 (.one 11 (.fst 12 (.done)))))))))))))) (by kernel_rfl) ?_
       simp only[go_sem,seval,-List.reduceReplicate,Try.results4,hx9,hu9,hd1,hd2]
       repeat' first|assumption|(simp (disch:=first|assumption|omega|(simp;done)|(simp;omega)) only[qaa,qac,List.take_of_length_le,qab,qae,qaf,qag,qah,qal];try simp only[go_sem,seval,-List.reduceReplicate,Try.results4,hx9,hu9,hql,hUl,hd1,hd2])|(with_reducible refine And.intro ?_ ?_)|(with_reducible intro _)|(refine @Exists.intro I _ (I.d D.nil) ?_;simp only[go_sem,seval,-List.reduceReplicate,Try.results4,hx9,hu9,hql,hUl,hd1,hd2])|((with_reducible (show Region.lexB _ _=true));kernel_rfl)|((try rw[qad]);omega)
       refine⟨k+1,by omega,by omega,?_⟩
       rw[hUs,hts]
       exact⟨⟨by omega,rfl⟩,⟨by omega,rfl⟩,rfl,rfl⟩
      ·obtain⟨hh5,hh6,hh7⟩:=hh4 (by omega)
       rw[decide_eq_true hh5] at hcf
       have hd1:decide (u.2 = -1)=false:=decide_eq_false (by omega)
       have hd2:decide ((k:Int)=0)=false:=decide_eq_false (by omega)
       have hrv:=qab (y:=5) hh6.1
       have hs1:=sq_nn (u.1/5-u.2/5)
       have hs2:=sq_nn (u.1%5-u.2%5)
       simp only[go_sem,seval,-List.reduceReplicate,Try.results4,hx9,hu9,hd1,hd2]
       repeat' first|assumption|(simp (disch:=first|assumption|omega|(simp;done)|(simp;omega)) only[qaa,qac,List.take_of_length_le,qab,qae,qaf,qag,qah,qal];try simp only[go_sem,seval,-List.reduceReplicate,Try.results4,hx9,hu9,hql,hUl,hd1,hd2,hrv,hh7])|(with_reducible refine And.intro ?_ ?_)|(with_reducible intro _)|(refine qbj (fun _=>⟨hct,trivial⟩) ?_;simp only[go_sem,seval,-List.reduceReplicate,Try.results4,hx9,hu9,hql,hUl,hd1,hd2,hrv,hh7])|(refine qbj (fun _=>⟨hcu,trivial⟩) ?_;simp only[go_sem,seval,-List.reduceReplicate,Try.results4,hx9,hu9,hql,hUl,hd1,hd2,hrv,hh7])|(refine qai hcf ?_;simp only[go_sem,seval,-List.reduceReplicate,Try.results4,hx9,hu9,hql,hUl,hd1,hd2,hrv,hh7])|(refine @Exists.intro I _ (I.d D.nil) ?_;simp only[go_sem,seval,-List.reduceReplicate,Try.results4,hx9,hu9,hql,hUl,hd1,hd2,hrv,hh7])|((with_reducible (show Region.lexB _ _=true));kernel_rfl)|((try rw[qad]);omega)
       ·rename_i h9
        rcases h9 with(h9|h9)|h9
        ·exact h9 (by omega)
        ·exact h9
        ·exact h9
       refine qaS (E:=Try.env 0) Try.tok Try.follows 1000 1000 [11] (.fst 0 (.fst 1 (.fst 4 (.fst 5 (.fst 6 (.fst 7 (.fst 2 (.fst 3 (.fst 8 (.fst 9 (.one 10 (.one 11 (.fst 12 (.done)))))))))))))) (by kernel_rfl) ?_
       simp only[go_sem,seval,-List.reduceReplicate,Try.results4,hx9,hu9,hd1,hd2]
       repeat' first|assumption|(simp (disch:=first|assumption|omega|(simp;done)|(simp;omega)) only[qaa,qac,List.take_of_length_le,qab,qae,qaf,qag,qah,qal];try simp only[go_sem,seval,-List.reduceReplicate,Try.results4,hx9,hu9,hql,hUl,hd1,hd2])|(with_reducible refine And.intro ?_ ?_)|(with_reducible intro _)|(refine @Exists.intro I _ (I.d D.nil) ?_;simp only[go_sem,seval,-List.reduceReplicate,Try.results4,hx9,hu9,hql,hUl,hd1,hd2])|((with_reducible (show Region.lexB _ _=true));kernel_rfl)|((try rw[qad]);omega)
       refine⟨k+1,by omega,by omega,?_⟩
       rw[hUs,hts]
       exact⟨⟨by omega,rfl⟩,⟨by omega,rfl⟩,rfl,rfl⟩
     ·obtain rfl:k=x.hops.length:=by omega
      simp only[go_sem,seval,-List.reduceReplicate,Try.results4]
      repeat' first|assumption|(simp (disch:=first|assumption|omega|(simp;done)|(simp;omega)) only[qaa,qac,List.take_of_length_le,qab,qae,qaf,qag,qah,qal];try simp only[go_sem,seval,-List.reduceReplicate,Try.results4,hx9])|(with_reducible refine And.intro ?_ ?_)|(with_reducible intro _)|(refine @Exists.intro I _ (I.d D.nil) ?_;simp only[go_sem,seval,-List.reduceReplicate,Try.results4,hx9])|((with_reducible (show Region.lexB _ _=true));kernel_rfl)|((try rw[qad]);omega)
      refine⟨i+1,by omega,by omega,?_⟩
      rw[hwt]
      have e9:(W++qbw x.track x.hops).length=W.length+x.hops.length:=by rw[List.length_append,qbw,List.length_map]
      exact⟨⟨by rw[e9],rfl⟩,by rw[e9],rfl⟩
   ·simp only[go_sem,seval,-List.reduceReplicate,Try.results4]
    repeat' first|assumption|(simp (disch:=first|assumption|omega|(simp;done)|(simp;omega)) only[qaa,qac,List.take_of_length_le,qab,qae,qaf,qag,qah,qal];try simp only[go_sem,seval,-List.reduceReplicate,Try.results4])|(with_reducible refine And.intro ?_ ?_)|(with_reducible intro _)|(refine @Exists.intro I _ (I.d D.nil) ?_;simp only[go_sem,seval,-List.reduceReplicate,Try.results4])|((with_reducible (show Region.lexB _ _=true));kernel_rfl)|((try rw[qad]);omega)
end Go.Proofs

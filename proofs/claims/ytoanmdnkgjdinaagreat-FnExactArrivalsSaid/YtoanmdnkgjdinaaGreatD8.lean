/- Contracts, plain definitions and lemmas. Conditions: none; lemmas. -/
import Derived.Test.YtoanmdnkgjdinaaGreatC10
import Derived.Test.YtoanmdnkgjdinaaGreatC90
set_option maxRecDepth 20000
set_option linter.unusedVariables false
set_option linter.unusedSimpArgs false
namespace Go.Proofs
open Go Go.VL
theorem qh9 (c:Circ) (cells:List Cel) : ∀ k,(qdT c cells k).length≤k
 | 0=>by simp[qdT]
 | k+1=>by
  have:=qh9 c cells k
  rw[qdT,List.length_append]
  split <;> simp <;> omega
theorem Tryz.c_netsOf (c:Circ) (hc:c.Valid):ICall Tryz.prog 60 [.ptr 0 0] [.box [.d (dI c.inputs),.d (dIs c.next),.d (dPs c.gates),.d (dIs c.outs)]] (fun r H'=>r=.d (dNis (qk7 c (qan c)))∧H'=[.box [.d (dI c.inputs),.d (dIs c.next),.d (dPs c.gates),.d (dIs c.outs)]]):=by
 have hf:=hc.first_bd
 have hv:=hc.vars_bd
 have hi0:=hc.i0
 have hi1:=hc.i1
 have hce:=Tryz.c_Cells c hc
 have hvs:=Tryz.c_vars c (by omega)
 have hsk:=fun v=>Tryz.c_NetSinks c hc v
 have hcl:=qb4 hc
 have hlo:=hc.lo
 rw[qk7]
 refine qaJ (E:=Tryz.env 1) Tryz.tok rfl 1000 Tryz.func60 rfl rfl Tryz.ntmps60 (by simp) ?_
 simp only[go_sem,seval,Tryz.results60]
 repeat' first|assumption|(simp (disch:=first|assumption|omega|(simp;done)|(simp;omega)) only[qaa,qac,List.take_of_length_le,qab,qae,qaf,qag,qah,qao];try simp only[go_sem,seval,Tryz.results60])|(with_reducible refine And.intro ?_ ?_)|(with_reducible intro _)|(refine qbt hce ?_;simp only[go_sem,seval,Tryz.results60])|((try rw[qad]);omega)
 generalize hcs:qan c=cells at *
 refine qaq (E:=Tryz.env 1) Tryz.tok (σ:=Nat) (fun k=>[(0,.ptr 0 0),(3,.d (dCes cells)),(4,.sl 1 (qdT c cells k).length 5 0 (qdT c cells k).length),(5,.d (dI ((k+1:Nat):Int)))])
  (fun k=>[.box [.d (dI c.inputs),.d (dIs c.next),.d (dPs c.gates),.d (dIs c.outs)],.row (qdT c cells k).length 5 true ((qdT c cells k).map fun x=>dNi x)]) (fun k=>(k:Int)≤c.vars-1) (fun k=>c.vars.toNat-k) [] [(4,5,true)] 1000 1000 ?_ ?_
 ·simp only[go_sem,seval]
  exact⟨0,by omega,by simp[qdT]⟩
 ·intro k hk
  have hnl:=qh9 c cells k
  have hns:qdT c cells (k+1)=qdT c cells k++(if 0<(ninC c cells ((k:Int)+1)).sinks.length+(ninC c cells ((k:Int)+1)).pads.length then [ninC c cells ((k:Int)+1)] else []):=rfl
  have ek:((k+1:Nat):Int)=(k:Int)+1:=by omega
  by_cases hlt:(k:Int)<c.vars-1
  ·generalize hq9:qdT c cells k=q at *
   have hskv:=hsk ((k+1:Nat):Int)
   simp only[go_sem,seval,Tryz.results60,hq9]
   repeat' first|assumption|(simp (disch:=first|assumption|omega|(simp;done)|(simp;omega)) only[qaa,qac,List.take_of_length_le,qab,qae,qaf,qag,qah,qao];try simp only[go_sem,seval,Tryz.results60,hq9])|(with_reducible refine And.intro ?_ ?_)|(with_reducible intro _)|(refine qai hvs ?_;simp only[go_sem,seval,Tryz.results60,hq9])|(refine qa6 hskv ?_;simp only[go_sem,seval,Tryz.results60,hq9])|((try rw[qad]);omega)
   have hnin:ninC c cells ((k:Int)+1)=⟨(k:Int)+1,qdv cells ((k+1:Nat):Int) cells.length,((k:Int)+1-1)*5,qcU cells ((k+1:Nat):Int),qaW c ((k+1:Nat):Int) c.outs.length⟩:=by rw[ek];rfl
   rw[hnin] at hns
   simp only at hns
   rw[←ek] at hns
   have hsl:(qcU cells ((k+1:Nat):Int)).length≤1000:=by
    have:=qdr (cells:=cells) (fun x hx=>(qdi hc x (by rw[hcs];exact hx)).2.1) ((k+1:Nat):Int) cells.length (Nat.le_refl _)
    show(qaZ cells ((k+1:Nat):Int) cells.length).length≤1000
    omega
   generalize qcU cells ((k+1:Nat):Int)=S at *
   generalize hv9:((k+1:Nat):Int)=v at *
   refine qaq (E:=Tryz.env 1) Tryz.tok (σ:=Nat) (fun i=>[(0,.ptr 0 0),(3,.d (dCes cells)),(4,.sl 1 q.length 5 0 q.length),(5,.d (dI v)),(6,.ptr 3 0),(31,.d (dCes cells)),(32,.d (dI cells.length)),(33,.d (dI i))])
    (fun i=>[.box [.d (dI c.inputs),.d (dIs c.next),.d (dPs c.gates),.d (dIs c.outs)],.row q.length 5 true (q.map fun x=>dNi x),.row 0 1 true (S.map (D.int .i64)),.box [.d (dI v),.d (dI (qdv cells v i)),.d (dI ((v-1)*5)),.sl 2 0 1 0 S.length,.d .nil]]) (fun i=>i≤cells.length) (fun i=>cells.length-i) [] [] 1000 1000 ?_ ?_
   ·simp only[go_sem,seval]
    exact⟨0,by omega,by simp[qdv]⟩
   ·intro i hi
    by_cases hit:i<cells.length
    ·have hcn:qdv cells v (i+1)=if(cells.getD i ce0).net=v then(i:Int) else qdv cells v i:=rfl
     generalize hx9:cells.getD i ce0=x at *
     generalize qdv cells v i=u at *
     simp only[go_sem,seval,Tryz.results60,hx9]
     repeat' first|assumption|(simp (disch:=first|assumption|omega|(simp;done)|(simp;omega)) only[qaa,qac,List.take_of_length_le,qab,qae,qaf,qag,qah,qao];try simp only[go_sem,seval,Tryz.results60,hx9])|(with_reducible refine And.intro ?_ ?_)|(with_reducible intro _)|((try rw[qad]);omega)
     ·rename_i h1
      rw[if_pos h1] at hcn
      refine⟨i+1,by omega,by omega,rfl,?_⟩
      rw[hcn]
     ·rename_i h1
      rw[if_neg h1] at hcn
      refine⟨i+1,by omega,by omega,rfl,?_⟩
      rw[hcn]
    ·obtain rfl:i=cells.length:=by omega
     simp only[go_sem,seval,Tryz.results60]
     repeat' first|assumption|(simp (disch:=first|assumption|omega|(simp;done)|(simp;omega)) only[qaa,qac,List.take_of_length_le,qab,qae,qaf,qag,qah,qao];try simp only[go_sem,seval,Tryz.results60])|(with_reducible refine And.intro ?_ ?_)|(with_reducible intro _)|((try rw[qad]);omega)
     generalize qdv cells v cells.length=u at *
     have hpl : ∀ i,(qaW c v i).length≤i:=by
      intro i
      induction i with
      | zero=>simp[qaW]
      | succ i ih=>rw[qaW,List.length_append];split <;> simp <;> omega
     refine qaq (E:=Tryz.env 1) Tryz.tok (σ:=Nat) (fun i=>[(0,.ptr 0 0),(3,.d (dCes cells)),(4,.sl 1 q.length 5 0 q.length),(5,.d (dI v)),(6,.ptr 3 0),(48,.d (dIs c.outs)),(49,.d (dI c.outs.length)),(50,.d (dI i))])
      (fun i=>[.box [.d (dI c.inputs),.d (dIs c.next),.d (dPs c.gates),.d (dIs c.outs)],.row q.length 5 true (q.map fun x=>dNi x),.row 0 1 true (S.map (D.int .i64)),.box [.d (dI v),.d (dI u),.d (dI ((v-1)*5)),.sl 2 0 1 0 S.length,.sl 4 (qaW c v i).length 1 0 (qaW c v i).length],.row (qaW c v i).length 1 true ((qaW c v i).map (D.int .i64))]) (fun i=>i≤c.outs.length) (fun i=>c.outs.length-i) [(3,4,1,true)] [] 1000 1000 ?_ ?_
     ·simp only[go_sem,seval]
      exact⟨0,by omega,by simp[qaW]⟩
     ·intro i hi
      have hpli:=hpl i
      by_cases hit:i<c.outs.length
      ·have hps:qaW c v (i+1)=qaW c v i++(if c.outs.getD i 0/2=v then [(i:Int)*5+4] else []):=rfl
       have hpt:=Tryz.c_padTile (i:Int) (by omega)
       have ho:=hc.o _ (qak hit:c.outs.getD i 0∈c.outs)
       unfold qbe at ho
       generalize hx9:c.outs.getD i 0=x at *
       generalize qaW c v i=P at *
       have hr:=qab (y:=2) ho.1
       simp only[go_sem,seval,Tryz.results60,hx9]
       repeat' first|assumption|(simp (disch:=first|assumption|omega|(simp;done)|(simp;omega)) only[qaa,qac,List.take_of_length_le,qab,qae,qaf,qag,qah,qao];try simp only[go_sem,seval,Tryz.results60,hx9,hr])|(with_reducible refine And.intro ?_ ?_)|(with_reducible intro _)|(refine qai hpt ?_;simp only[go_sem,seval,Tryz.results60,hx9,hr])|((try rw[qad]);omega)
       ·rename_i h1
        rw[if_pos h1] at hps
        refine qaT (E:=Tryz.env 1) Tryz.tok Tryz.follows 1000 1000 [5,7] (.fst 0 (.fst 2 (.fst 1 (.one 3 (.one 4 (.one 5 (.fst 6 (.one 7 (.done))))))))) (by kernel_rfl) ?_
        simp only[go_sem,seval,Tryz.results60,hx9]
        repeat' first|assumption|(simp (disch:=first|assumption|omega|(simp;done)|(simp;omega)) only[qaa,qac,List.take_of_length_le,qab,qae,qaf,qag,qah,qao];try simp only[go_sem,seval,Tryz.results60,hx9,hr])|(with_reducible refine And.intro ?_ ?_)|(with_reducible intro _)|(refine qai hpt ?_;simp only[go_sem,seval,Tryz.results60,hx9,hr])|((try rw[qad]);omega)
        refine⟨i+1,by omega,by omega,rfl,?_⟩
        rw[hps]
        simp
       ·rename_i h1
        rw[if_neg h1,List.append_nil] at hps
        refine⟨i+1,by omega,by omega,rfl,?_⟩
        rw[hps]
        exact⟨rfl,rfl,rfl⟩
      ·obtain rfl:i=c.outs.length:=by omega
       generalize qaW c v c.outs.length=P at *
       simp only[go_sem,seval,Tryz.results60]
       repeat' first|assumption|(simp (disch:=first|assumption|omega|(simp;done)|(simp;omega)) only[qaa,qac,List.take_of_length_le,qab,qae,qaf,qag,qah,qao];try simp only[go_sem,seval,Tryz.results60])|(with_reducible refine And.intro ?_ ?_)|(with_reducible intro _)|((try rw[qad]);omega)
       ·rename_i h1
        rw[if_pos (by omega)] at hns
        refine⟨k+1,by omega,by omega,?_⟩
        rw[hns]
        exact⟨⟨by simp,by omega⟩,by simp,by simp⟩
       ·rename_i h1
        rw[if_neg (by omega),List.append_nil] at hns
        refine⟨k+1,by omega,by omega,?_⟩
        rw[hns]
        exact⟨⟨rfl,by omega⟩,rfl,rfl⟩
  ·simp only[go_sem,seval,Tryz.results60]
   repeat' first|assumption|(simp (disch:=first|assumption|omega|(simp;done)|(simp;omega)) only[qaa,qac,List.take_of_length_le,qab,qae,qaf,qag,qah,qao];try simp only[go_sem,seval,Tryz.results60])|(with_reducible refine And.intro ?_ ?_)|(with_reducible intro _)|(refine qai hvs ?_;simp only[go_sem,seval,Tryz.results60])|((try rw[qad]);omega)
   obtain rfl:k=c.vars.toNat-1:=by omega
   generalize qdT c cells (c.vars.toNat-1)=q at *
   refine qcJ (by simp) (by simp only[go_sem,seval]) ?_
   simp only[go_sem,seval]
   repeat' first|assumption|(simp (disch:=first|assumption|omega|(simp;done)|(simp;omega)) only[qaa,qac,List.take_of_length_le,qab,qae,qaf,qag,qah,qao];try simp only[go_sem,seval,Tryz.results60])|(with_reducible refine And.intro ?_ ?_)|(with_reducible intro _)|((try rw[qad]);omega)
end Go.Proofs

set_option maxRecDepth 20000
set_option linter.unusedVariables false
set_option linter.unusedSimpArgs false
namespace Go.Proofs
open Go Go.VL
noncomputable instance (n:Nat) (l:List Int):Decidable (PlaceOk n l):=Classical.propDecidable _
theorem Tryz.c_PlacementValid (c:Circ) (place:List Int):Pure Tryz.prog 58 [dC c,dIs place] (.bool (decide (c.Valid∧PlaceOk (qan c).length place))):=by
 have hcv:=Tryz.c_CircuitValid c
 by_cases hc:c.Valid
 ·have hce:=Tryz.c_Cells c hc
  have hcl:=qb4 hc
  rw[decide_eq_true hc] at hcv
  refine qam (E:=Tryz.env 0) Tryz.tok rfl 1000 Tryz.func58 rfl rfl Tryz.ntmps58 (by simp) fun ok=>?_
  simp only[go_sem,seval] at ok
  simp only[go_sem,seval,Tryz.results58]
  repeat' first|assumption|(simp (disch:=first|assumption|omega|(simp;done)|(simp;omega)) only[qaa,qac,List.take_of_length_le,qab,qae,qaf,qag,qah,qao];try simp only[go_sem,seval,Tryz.results58])|(with_reducible refine And.intro ?_ ?_)|(with_reducible intro _)|(refine qai hcv ?_;simp only[go_sem,seval,Tryz.results58])|(refine qbt hce ?_;simp only[go_sem,seval,Tryz.results58])|(refine @Exists.intro I _ (I.d D.nil) ?_;simp only[go_sem,seval,Tryz.results58])|((try rw[qad]);omega)
  ·rename_i h9
   rw[eq_comm,decide_eq_false]
   exact fun h=>h9 h.2.len
  rename_i h9
  refine qaB (E:=Tryz.env 0) Tryz.tok (σ:=Nat×Kn) (fun s=>[(5,.map 1),(20,.d (dIs place)),(21,.d (dI place.length)),(22,.d (dI s.1))]) (fun s=>[.box [.d (dI c.inputs),.d (dIs c.next),.d (dPs c.gates),.d (dIs c.outs)],.map (knE s.2)]) (fun s=>s.1≤place.length∧(∀ t∈place.take s.1,0≤t∧t≤24)∧(place.take s.1).Nodup∧∀ t,kn s.2 t=if t∈place.take s.1 then some true else none) (fun s=>place.length-s.1) [] 1000 1000 ?_ ?_ ?_
  ·simp only[go_sem,seval]
  ·simp only[go_sem,seval]
   exact⟨(0,[]),⟨by simp,by simp,by simp,fun t=>by simp[kn]⟩,rfl,rfl⟩
  ·rintro⟨i,m⟩ ⟨hi,hr,hn,hm⟩
   simp only at hi hr hn hm
   by_cases hlt:i<place.length
   ·have hts:place.take (i+1)=place.take i ++ [place.getD i 0]:=by simpa using qaV (f:=fun x:Int=>x) 0 hlt
    have hmem:=qak hlt (z:=(0:Int))
    have hup : ∀ t,kn (knUp m t true) t=some true:=fun t=>by rw[qk3,if_pos rfl]
    have hbad:place.getD i 0∈place.take i→¬ PlaceOk (qan c).length place:=fun h1 h2=>by
     have hnd:=h2.nd
     rw[←List.take_append_drop (i+1) place,hts,List.append_assoc,List.nodup_append] at hnd
     exact hnd.2.2 _ h1 _ (by simp) rfl
    generalize hx9:place.getD i 0=x at *
    have ek:=qjr x m
    have eu:=qjs x true m
    have hks:=qg1
    have hmx:=hm x
    by_cases hin:x∈place.take i
    ·rw[if_pos hin] at hmx
     have hb:=hbad hin
     simp only[go_sem,seval,Tryz.results58,hx9,ek,eu,hmx,Option.map_some,Option.map_none,Option.getD_some,Option.getD_none]
     repeat' first|assumption|(simp (disch:=first|assumption|omega|(simp;done)|(simp;omega)) only[qaa,qac,List.take_of_length_le,qab,qae,qaf,qag,qah,qao];try simp only[go_sem,seval,Tryz.results58,hx9,ek,eu,hmx,Option.map_some,Option.map_none,Option.getD_some,Option.getD_none])|(with_reducible refine And.intro ?_ ?_)|(with_reducible intro _)|(refine @Exists.intro I _ (I.d D.nil) ?_;simp only[go_sem,seval,Tryz.results58,hx9,ek,eu,hmx,Option.map_some,Option.map_none,Option.getD_some,Option.getD_none])|((try rw[qad]);omega)
     all_goals first|exact hks m|(rw[eq_comm,decide_eq_false];exact fun h=>hb h.2)|(exfalso;simp_all;done)
    ·rw[if_neg hin] at hmx
     simp only[go_sem,seval,Tryz.results58,hx9,ek,eu,hmx,Option.map_some,Option.map_none,Option.getD_some,Option.getD_none]
     repeat' first|assumption|(simp (disch:=first|assumption|omega|(simp;done)|(simp;omega)) only[qaa,qac,List.take_of_length_le,qab,qae,qaf,qag,qah,qao];try simp only[go_sem,seval,Tryz.results58,hx9,ek,eu,hmx,Option.map_some,Option.map_none,Option.getD_some,Option.getD_none])|(with_reducible refine And.intro ?_ ?_)|(with_reducible intro _)|(refine @Exists.intro I _ (I.d D.nil) ?_;simp only[go_sem,seval,Tryz.results58,hx9,ek,eu,hmx,Option.map_some,Option.map_none,Option.getD_some,Option.getD_none])|((try rw[qad]);omega)
     ·exact hks m
     ·rename_i h1
      rw[eq_comm,decide_eq_false]
      intro h2
      have:=h2.2.rng x hmem
      omega
     ·exact hks m
     ·rename_i h1
      refine⟨(i+1,knUp m x true),⟨by simp only;omega,fun t ht=>?_,?_,fun t=>?_⟩,by simp only;omega,rfl,rfl⟩
      ·rw[hts] at ht
       rcases List.mem_append.1 ht with h2|h2
       ·exact hr t h2
       ·obtain rfl:t=x:=by simpa using h2
        omega
      ·rw[hts,List.nodup_append]
       exact⟨hn,by simp,fun a ha b hb e=>by
        obtain rfl:b=x:=by simpa using hb
        subst e
        exact hin ha⟩
      ·rw[qk3,hm t,hts]
       by_cases e:t=x
       ·subst e;simp
       ·simp[e]
   ·obtain rfl:i=place.length:=by omega
    rw[List.take_length] at hr hn
    simp only[go_sem,seval,Tryz.results58]
    repeat' first|assumption|(simp (disch:=first|assumption|omega|(simp;done)|(simp;omega)) only[qaa,qac,List.take_of_length_le,qab,qae,qaf,qag,qah,qao];try simp only[go_sem,seval,Tryz.results58])|(with_reducible refine And.intro ?_ ?_)|(with_reducible intro _)|(refine @Exists.intro I _ (I.d D.nil) ?_;simp only[go_sem,seval,Tryz.results58])|((try rw[qad]);omega)
    rw[eq_comm,decide_eq_true_eq]
    exact⟨hc,by omega,hr,hn⟩
 ·rw[decide_eq_false hc] at hcv
  rw[decide_eq_false (fun h=>hc h.1)]
  refine qam (E:=Tryz.env 0) Tryz.tok rfl 1000 Tryz.func58 rfl rfl Tryz.ntmps58 (by simp) fun ok=>?_
  simp only[go_sem,seval] at ok
  simp only[go_sem,seval,Tryz.results58]
  repeat' first|assumption|(simp (disch:=first|assumption|omega|(simp;done)|(simp;omega)) only[qaa,qac,List.take_of_length_le,qab,qae,qaf,qag,qah,qao];try simp only[go_sem,seval,Tryz.results58])|(with_reducible refine And.intro ?_ ?_)|(with_reducible intro _)|(refine qai hcv ?_;simp only[go_sem,seval,Tryz.results58])|(refine @Exists.intro I _ (I.d D.nil) ?_;simp only[go_sem,seval,Tryz.results58])|((try rw[qad]);omega)
end Go.Proofs

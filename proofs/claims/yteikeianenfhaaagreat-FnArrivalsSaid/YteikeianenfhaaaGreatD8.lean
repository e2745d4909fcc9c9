/- Contracts, plain definitions and lemmas. Conditions: none; lemmas. -/
import Derived.Test.YteikeianenfhaaaGreatD6
import Derived.Test.YteikeianenfhaaaGreatC90
set_option maxRecDepth 20000
set_option linter.unusedSimpArgs false
set_option linter.unusedVariables false
set_option maxHeartbeats 2000000
namespace Go.Proofs
open Go Go.VL Tryz
theorem qhV (c:Circ) (cells:List Cel) : ∀ k,(qdP c cells k).length<=k
 | 0=>by simp[qdP]
 | k+1=>by
  have:=qhV c cells k;rw[qdP,yae];split <;> simp <;> omega
theorem Tryz.c_netsOf (c:Circ) (hc:c.Valid):ICall prog 127 [.ptr 0 0] [.box [.d (dI c.inputs),.d (dIs c.next),.d (dPs c.gates),.d (dIs c.outs)]] (fun r H'=>r=.d (dNis (qk8 c (qac c)))/\H'=[.box [.d (dI c.inputs),.d (dIs c.next),.d (dPs c.gates),.d (dIs c.outs)]]):=by
 have hf:=hc.first_bd;have hv:=hc.vars_bd;have hi0:=hc.i0;have hi1:=hc.i1;have hce:=c_Cells c hc;have hvs:=c_vars c (by omega);have hsk:=fun v=>c_NetSinks c hc v
 have hcl:=qbD hc;have hlo:=hc.lo;rw[qk8];refine qaz (E:=env 1) tok rfl 1000 func127 rfl rfl ntmps127 (by simp) ?_
 repeat' first|assumption|(simp (disch:=first|assumption|omega|(simp;done)|(simp;omega)) only[go_sem,seval,qah])|(with_reducible first|apply And.intro|intro _)|(refine qbU hce ?_)|((try rw[qaa]);omega)
 generalize hcs:qac c=cells at *
 refine qai (E:=env 1) tok (σ:=Nat) (fun k=>[(0,.ptr 0 0),(3,.d (dCes cells)),(4,.sl 1 (qdP c cells k).length 5 0 (qdP c cells k).length),(5,.d (dI ((k+1:Nat):Int)))])
  (fun k=>[.box [.d (dI c.inputs),.d (dIs c.next),.d (dPs c.gates),.d (dIs c.outs)],.row (qdP c cells k).length 5 true ((qdP c cells k).map fun x=>dNi x)]) (fun k=>(k:Int)<=c.vars-1) (fun k=>c.vars.toNat-k) [] [(4,5,true)] 1000 1000 ?_ ?_
 ·simp only[go_sem,seval];exact⟨0,by omega,by simp[qdP]⟩
 ·intro k hk;have hnl:=qhV c cells k;have hns:qdP c cells (k+1)=qdP c cells k++(if 0<(ninC c cells ((k:Int)+1)).sinks.length+(ninC c cells ((k:Int)+1)).pads.length then [ninC c cells ((k:Int)+1)] else []):=rfl;have ek:((k+1:Nat):Int)=(k:Int)+1:=by omega
  by_cases hlt:(k:Int)<c.vars-1
  ·generalize hq9:qdP c cells k=q at *
   have hskv:=hsk ((k+1:Nat):Int)
   repeat' first|assumption|(simp (disch:=first|assumption|omega|(simp;done)|(simp;omega)) only[go_sem,seval,hq9,qah])|(with_reducible first|apply And.intro|intro _)|(refine qad hvs ?_)|(refine qc9 hskv ?_)|((try rw[qaa]);omega)
   have hnin:ninC c cells ((k:Int)+1)=⟨(k:Int)+1,qdt cells ((k+1:Nat):Int) cells.length,((k:Int)+1-1)*5,qcJ cells ((k+1:Nat):Int),qaR c ((k+1:Nat):Int) c.outs.length⟩:=by rw[ek];rfl
   rw[hnin] at hns;simp only at hns;rw[<-ek] at hns;have hsl:(qcJ cells ((k+1:Nat):Int)).length<=1000:=by
    have:=qdo (cells:=cells) (fun x hx=>(qde hc x (by rw[hcs];exact hx)).2.1) ((k+1:Nat):Int) cells.length (yad _);show(qaU cells ((k+1:Nat):Int) cells.length).length<=1000
    omega
   generalize qcJ cells ((k+1:Nat):Int)=S at *
   generalize hv9:((k+1:Nat):Int)=v at *
   refine qai (E:=env 1) tok (σ:=Nat) (fun i=>[(0,.ptr 0 0),(3,.d (dCes cells)),(4,.sl 1 q.length 5 0 q.length),(5,.d (dI v)),(6,.ptr 3 0),(31,.d (dCes cells)),(32,.d (dI cells.length)),(33,.d (dI i))])
    (fun i=>[.box [.d (dI c.inputs),.d (dIs c.next),.d (dPs c.gates),.d (dIs c.outs)],.row q.length 5 true (q.map fun x=>dNi x),.row 0 1 true (S.map (D.int .i64)),.box [.d (dI v),.d (dI (qdt cells v i)),.d (dI ((v-1)*5)),.sl 2 0 1 0 S.length,.d .nil]]) (fun i=>i<=cells.length) (fun i=>cells.length-i) [] [] 1000 1000 ?_ ?_
   ·simp only[go_sem,seval];exact⟨0,by omega,by simp[qdt]⟩
   ·intro i hi;by_cases hit:i<cells.length
    ·have hcn:qdt cells v (i+1)=if(cells.getD i ce0).net=v then(i:Int) else qdt cells v i:=rfl;generalize hx9:cells.getD i ce0=x at *
     generalize qdt cells v i=u at *
     repeat' first|assumption|(simp (disch:=first|assumption|omega|(simp;done)|(simp;omega)) only[go_sem,seval,hx9,qah])|(with_reducible first|apply And.intro|intro _)|((try rw[qaa]);omega)
     ·rename_i h1;rw[if_pos h1] at hcn;refine⟨i+1,by omega,by omega,rfl,?_⟩;rw[hcn]
     ·rename_i h1;rw[if_neg h1] at hcn;refine⟨i+1,by omega,by omega,rfl,?_⟩;rw[hcn]
    ·obtain rfl:i=cells.length:=by omega
     repeat' first|assumption|(simp (disch:=first|assumption|omega|(simp;done)|(simp;omega)) only[go_sem,seval,qah])|(with_reducible first|apply And.intro|intro _)|((try rw[qaa]);omega)
     generalize qdt cells v cells.length=u at *
     have hpl : ∀ i,(qaR c v i).length<=i:=by
      intro i;induction i with
      | zero=>simp[qaR]
      | succ i ih=>rw[qaR,yae];split <;> simp <;> omega
     refine qai (E:=env 1) tok (σ:=Nat) (fun i=>[(0,.ptr 0 0),(3,.d (dCes cells)),(4,.sl 1 q.length 5 0 q.length),(5,.d (dI v)),(6,.ptr 3 0),(48,.d (dIs c.outs)),(49,.d (dI c.outs.length)),(50,.d (dI i))])
      (fun i=>[.box [.d (dI c.inputs),.d (dIs c.next),.d (dPs c.gates),.d (dIs c.outs)],.row q.length 5 true (q.map fun x=>dNi x),.row 0 1 true (S.map (D.int .i64)),.box [.d (dI v),.d (dI u),.d (dI ((v-1)*5)),.sl 2 0 1 0 S.length,.sl 4 (qaR c v i).length 1 0 (qaR c v i).length],.row (qaR c v i).length 1 true ((qaR c v i).map (D.int .i64))]) (fun i=>i<=c.outs.length) (fun i=>c.outs.length-i) [(3,4,1,true)] [] 1000 1000 ?_ ?_
     ·simp only[go_sem,seval];exact⟨0,by omega,by simp[qaR]⟩
     ·intro i hi;have hpli:=hpl i;by_cases hit:i<c.outs.length
      ·have hps:qaR c v (i+1)=qaR c v i++(if c.outs.getD i 0/2=v then [(i:Int)*5+4] else []):=rfl;have hpt:=c_padTile (i:Int) (by omega);have ho:=hc.o _ (qab hit:c.outs.getD i 0∈c.outs);unfold qa6 at ho;generalize hx9:c.outs.getD i 0=x at *
       generalize qaR c v i=P at *
       have hr:=qae (y:=2) ho.1;simp only[go_sem,seval,hx9]
       repeat' first|assumption|(simp (disch:=first|assumption|omega|(simp;done)|(simp;omega)) only[go_sem,seval,hx9,hr,qah])|(with_reducible first|apply And.intro|intro _)|(refine qad hpt ?_)|((try rw[qaa]);omega)
       ·rename_i h1;rw[if_pos h1] at hps;refine qbN (n:=1) [5,7] (fsts [0,2,1] (.one 3 (.one 4 (.one 5 (.fst 6 (.one 7 .done)))))) ?_;simp only[go_sem,seval,hx9]
        repeat' first|assumption|(simp (disch:=first|assumption|omega|(simp;done)|(simp;omega)) only[go_sem,seval,hx9,hr,qah])|(with_reducible first|apply And.intro|intro _)|(refine qad hpt ?_)|((try rw[qaa]);omega)
        refine⟨i+1,by omega,by omega,rfl,?_⟩;rw[hps];simp
       ·rename_i h1;rw[if_neg h1,yaA] at hps;refine⟨i+1,by omega,by omega,rfl,?_⟩;rw[hps];exact⟨rfl,rfl,rfl⟩
      ·obtain rfl:i=c.outs.length:=by omega
       generalize qaR c v c.outs.length=P at *
       repeat' first|assumption|(simp (disch:=first|assumption|omega|(simp;done)|(simp;omega)) only[go_sem,seval,qah])|(with_reducible first|apply And.intro|intro _)|((try rw[qaa]);omega)
       ·rename_i h1;rw[if_pos (by omega)] at hns;refine⟨k+1,by omega,by omega,?_⟩;rw[hns];exact⟨⟨by simp,by omega⟩,by simp,by simp⟩
       ·rename_i h1;rw[if_neg (by omega),yaA] at hns;refine⟨k+1,by omega,by omega,?_⟩;rw[hns];exact⟨⟨rfl,by omega⟩,rfl,rfl⟩
  ·repeat' first|assumption|(simp (disch:=first|assumption|omega|(simp;done)|(simp;omega)) only[go_sem,seval,qah])|(with_reducible first|apply And.intro|intro _)|(refine qad hvs ?_)|((try rw[qaa]);omega)
   obtain rfl:k=c.vars.toNat-1:=by omega
   generalize qdP c cells (c.vars.toNat-1)=q at *
   refine qcl (by simp) (by simp only[go_sem,seval]) ?_;simp only[go_sem,seval]
   repeat' first|assumption|(simp (disch:=first|assumption|omega|(simp;done)|(simp;omega)) only[go_sem,seval,qah])|(with_reducible first|apply And.intro|intro _)|((try rw[qaa]);omega)

noncomputable instance (n:Nat) (l:List Int):Decidable (PlaceOk n l):=Classical.propDecidable _
theorem Tryz.c_PlacementValid (c:Circ) (place:List Int):Pure prog 131 [dC c,dIs place] (.bool (decide (c.Valid/\PlaceOk (qac c).length place))):=by
 have hcv:=c_CircuitValid c;by_cases hc:c.Valid
 ·have hce:=c_Cells c hc;have hcl:=qbD hc;rw[decide_eq_true hc] at hcv;refine qaA func131 rfl ntmps131 fun ok=>?_
  simp only[go_sem,seval] at ok
  repeat' first|assumption|(simp (disch:=first|assumption|omega|(simp;done)|(simp;omega)) only[go_sem,seval,yaa])|(with_reducible first|apply And.intro|intro _)|(refine qad hcv ?_)|(refine qbU hce ?_)|(refine qd6 ?_;simp only[go_sem,seval])|((try rw[qaa]);omega)
  ·rename_i h9;rw[eq_comm,decide_eq_false];exact fun h=>h9 h.2.len
  rename_i h9;refine qaI (E:=env 0) tok (σ:=Nat×Kn) (fun s=>[(5,.map 1),(20,.d (dIs place)),(21,.d (dI place.length)),(22,.d (dI s.1))]) (fun s=>[.box [.d (dI c.inputs),.d (dIs c.next),.d (dPs c.gates),.d (dIs c.outs)],.map (knE s.2)]) (fun s=>s.1<=place.length/\(∀ t∈place.take s.1,0<=t/\t<=24)/\(place.take s.1).Nodup/\∀ t,kn s.2 t=if t∈place.take s.1 then some true else none) (fun s=>place.length-s.1) [] 1000 1000 ?_ ?_ ?_
  ·simp only[go_sem,seval]
  ·simp only[go_sem,seval];exact⟨(0,[]),⟨by simp,by simp,by simp,fun t=>by simp[kn]⟩,rfl,rfl⟩
  ·rintro⟨i,m⟩ ⟨hi,hr,hn,hm⟩;simp only at hi hr hn hm;by_cases hlt:i<place.length
   ·have hts:place.take (i+1)=place.take i ++ [place.getD i 0]:=by simpa using qaN (f:=fun x:Int=>x) 0 hlt
    have hmem:=qab hlt (z:=(0:Int));have hup : ∀ t,kn (knUp m t true) t=some true:=fun t=>by rw[qk2,if_pos rfl]
    have hbad:place.getD i 0∈place.take i->¬ PlaceOk (qac c).length place:=fun h1 h2=>by
     have hnd:=h2.nd;rw[<-ybc (i+1) place,hts,yal,yaY] at hnd;exact hnd.2.2 _ h1 _ (by simp) rfl
    generalize hx9:place.getD i 0=x at *
    have ek:=qje x m;have eu:=qjf x true m;have hks:=qgQ;have hmx:=hm x;by_cases hin:x∈place.take i
    ·rw[if_pos hin] at hmx;have hb:=hbad hin
     repeat' first|assumption|(simp (disch:=first|assumption|omega|(simp;done)|(simp;omega)) only[go_sem,seval,hx9,ek,eu,hmx,yax,yaD,yap,Option.getD_none,yaa])|(with_reducible first|apply And.intro|intro _)|(refine qd6 ?_;simp only[go_sem,seval,hx9,ek,eu,hmx,yax,yaD,yap,Option.getD_none])|((try rw[qaa]);omega)
     all_goals first|exact hks m|(rw[eq_comm,decide_eq_false];exact fun h=>hb h.2)|(exfalso;simp_all;done)
    ·rw[if_neg hin] at hmx
     repeat' first|assumption|(simp (disch:=first|assumption|omega|(simp;done)|(simp;omega)) only[go_sem,seval,hx9,ek,eu,hmx,yax,yaD,yap,Option.getD_none,yaa])|(with_reducible first|apply And.intro|intro _)|(refine qd6 ?_;simp only[go_sem,seval,hx9,ek,eu,hmx,yax,yaD,yap,Option.getD_none])|((try rw[qaa]);omega)
     ·exact hks m
     ·rename_i h1;rw[eq_comm,decide_eq_false];intro h2;have:=h2.2.rng x hmem;omega
     ·exact hks m
     ·rename_i h1;refine⟨(i+1,knUp m x true),⟨by simp only;omega,fun t ht=>?_,?_,fun t=>?_⟩,by simp only;omega,rfl,rfl⟩
      ·rw[hts] at ht;rcases List.mem_append.1 ht with h2|h2
       ·exact hr t h2
       ·obtain rfl:t=x:=by simpa using h2
        omega
      ·rw[hts,yaY];exact⟨hn,by simp,fun a ha b hb e=>by
        obtain rfl:b=x:=by simpa using hb
        subst e;exact hin ha⟩
      ·rw[qk2,hm t,hts];by_cases e:t=x
       ·subst e;simp
       ·simp[e]
   ·obtain rfl:i=place.length:=by omega
    rw[yaq] at hr hn
    repeat' first|assumption|(simp (disch:=first|assumption|omega|(simp;done)|(simp;omega)) only[go_sem,seval,yaa])|(with_reducible first|apply And.intro|intro _)|(refine qd6 ?_;simp only[go_sem,seval])|((try rw[qaa]);omega)
    rw[eq_comm,decide_eq_true_eq];exact⟨hc,by omega,hr,hn⟩
 ·rw[decide_eq_false hc] at hcv;rw[decide_eq_false (fun h=>hc h.1)];refine qaA func131 rfl ntmps131 fun ok=>?_
  simp only[go_sem,seval] at ok
  repeat' first|assumption|(simp (disch:=first|assumption|omega|(simp;done)|(simp;omega)) only[go_sem,seval,yaa])|(with_reducible first|apply And.intro|intro _)|(refine qad hcv ?_)|(refine qd6 ?_;simp only[go_sem,seval])|((try rw[qaa]);omega)
end Go.Proofs

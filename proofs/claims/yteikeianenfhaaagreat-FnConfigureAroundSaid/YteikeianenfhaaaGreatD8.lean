/- Contracts, plain definitions and lemmas. Conditions: none; lemmas. -/
import Derived.Test.YteikeianenfhaaaGreatE1
import Derived.Test.YteikeianenfhaaaGreatC46
import Derived.Test.YteikeianenfhaaaGreatD6
import Derived.Test.YteikeianenfhaaaGreatC90
set_option maxRecDepth 20000
set_option linter.unusedSimpArgs false
set_option linter.unusedVariables false
set_option maxHeartbeats 2000000
namespace Go.Proofs
set_option linter.defProp false
open Go Go.VL Tryz
def qqp (busy:List (List Bool)) (n:Nin) (o:Option (Nat×List (Int×Int))) (r:I) (H':List R):Prop:=
 match o with
 | none=>r=.tup [.d (.agg [dI 0,dI 0,.nil]),.d (dB false)]/\H'=[.box (bx (qcb busy))]
 | some (t,h)=>∃ g,r=.tup [.agg [.d (dI n.net),.d (dI t),.sl 3 g 2 0 h.length],.d (dB true)]/\H'=[.box (bx (qcb (takeB busy t h))),.box [.d (dI n.net),.d (dI n.cell),.d (dI n.tile),.d (dIs n.sinks),.d (dIs n.pads)],.box [.d (dI n.net),.d (dI t),.sl 3 g 2 0 h.length],.row g 2 true (h.map fun x=>dP x)]
def Tryz.c_route (busy:List (List Bool)) (hb:BusyOk busy) (n:Nin) (place:List Int) (hs : ∀ i∈n.sinks,0<=i/\i<place.length) (hk:n.cell<place.length) (hl:n.sinks.length<=400) (hl2:n.pads.length<=400) (hp:place.length<=1000) (ht : ∀ t∈qa7 n place,0<=t/\t<=24) :
  ICall prog 132 [.ptr 0 0,.d (dNi n),.d (dIs place)] [.box (bx (qcb busy))] (qqp busy n (netB (qa7 n place) busy 8 0)):=by
 have hti:=c_tiles n place hs hk (by omega) (by omega) hp;have htl:(qa7 n place).length<=1000:=by simp[qa7];omega
 have htn:qa7 n place≠[]:=by simp[qa7]
 have htr:=fun u hu=>c_tree busy (qa7 n place) u hu htn ht htl
 have hokb:=fun k h=>qh0 (busy:=busy.getD k []) ht htn (hops:=h)
 generalize qa7 n place=tiles at *
 refine qaz (E:=env 1) tok rfl 1000 func132 rfl rfl ntmps132 (by simp) ?_
 repeat' first|assumption|(simp (disch:=first|assumption|omega|(simp;done)|(simp;omega)) only[go_sem,seval,yaa])|(with_reducible first|apply And.intro|intro _)|(refine qac hti ?_)|((try rw[qaa]);omega)
 refine qaf (E:=env 1) tok (σ:=Nat) (fun k=>[(0,.ptr 0 0),(4,.ptr 1 0),(6,.ptr 2 0),(8,.d (dIs tiles)),(17,.d (dI k))])
  (fun k=>[.box (bx (qcb busy)),.box [.d (dI n.net),.d (dI n.cell),.d (dI n.tile),.d (dIs n.sinks),.d (dIs n.pads)],.box [.d (dI 0),.d (dI 0),.d .nil]]) (fun k=>k<=8/\netB tiles busy (8-k) k=netB tiles busy 8 0) (fun k=>8-k) [] [] 1000 1000 ?_ ?_
 ·simp only[go_sem,seval];exact⟨0,⟨by omega,rfl⟩,rfl⟩
 ·rintro k ⟨hk8,hnb⟩;by_cases hlt:k<8
  ·have htk:=htr k hlt;have hokk:=fun h=>hokb k h
   have hstep:netB tiles busy (8-k) k=match qeQ (busy.getD k []) tiles with
     | some h=>some (k,h)
     | none=>netB tiles busy (8-(k+1)) (k+1):=by
    rw[show 8-k=(8-(k+1))+1 by omega];rfl
   rw[hnb] at hstep
   repeat' first|assumption|(simp (disch:=first|assumption|omega|(simp;done)|(simp;omega)) only[go_sem,seval,yaa])|(with_reducible first|apply And.intro|intro _)|((try rw[qaa]);omega)
   refine qan htk [0] (by simp only[go_sem,seval]) ?_;cases htre:qeQ (busy.getD k []) tiles with
   | none=>
    rw[htre] at hstep;simp only at hstep;rintro r0 H1 ⟨rfl,rfl⟩
    repeat' first|assumption|(simp (disch:=first|assumption|omega|(simp;done)|(simp;omega)) only[go_sem,seval,yaa])|(with_reducible first|apply And.intro|intro _)|((try rw[qaa]);omega)
    exact⟨k+1,⟨by omega,hstep.symm⟩,by omega,rfl⟩
   | some h=>
    rw[htre] at hstep;simp only at hstep;obtain⟨hT,-,-⟩:=hokk h htre;have hhl:=qdz hT;rw[hstep];rintro r0 H1 ⟨g,rfl,rfl⟩
    repeat' first|assumption|(simp (disch:=first|assumption|omega|(simp;done)|(simp;omega)) only[go_sem,seval,yaa])|(with_reducible first|apply And.intro|intro _)|((try rw[qaa]);omega)
    refine qaf (E:=env 1) tok (σ:=Nat) (fun i=>[(0,.ptr 0 0),(4,.ptr 1 0),(6,.ptr 2 0),(9,.d (dI k)),(10,.sl 3 g 2 0 h.length),(29,.sl 3 g 2 0 h.length),(30,.d (dI h.length)),(31,.d (dI i))])
     (fun i=>[.box (bx (qcb (takeB busy k (h.take i)))),.box [.d (dI n.net),.d (dI n.cell),.d (dI n.tile),.d (dIs n.sinks),.d (dIs n.pads)],.box [.d (dI 0),.d (dI 0),.d .nil],.row g 2 true (h.map fun x=>dP x)]) (fun i=>i<=h.length) (fun i=>h.length-i) [] [] 1000 1000 ?_ ?_
    ·simp only[go_sem,seval];refine⟨0,by omega,?_⟩;rw[show takeB busy k (h.take 0)=busy from set_self (by rw[hb.len];omega)];simp only[go_sem,seval]
    ·intro i hi;have hTl:(takeB busy k (h.take i)).length=8:=by simp[takeB,hb.len]
     have hTr:((takeB busy k (h.take i)).getD k []).length=25:=(qh1 hb hlt).row k hlt;by_cases hit:i<h.length
     ·have hstp:=qjQ (busy:=busy) (t:=k) (by rw[hb.len];exact hlt) hit;have hr:=hT.rng _ (qad hit:h.getD i (0,0)∈h);generalize takeB busy k (h.take i)=T at *
      generalize hh9:h.getD i (0,0)=hh at *
      have hset:=qte (l:=qcb T) (k:=hh.1.toNat*8+k) (b:=true);rw[qlM (by omega) hlt (by omega) (by omega),<-hstp] at hset
      repeat' first|assumption|(simp (disch:=first|assumption|omega|(simp;done)|(simp;omega)) only[go_sem,seval,hh9,yaR,qbt,hset,yaa])|(with_reducible first|apply And.intro|intro _)|((try rw[qaa]);omega)
      refine qaL (n:=1) [8] (fsts [0,1,3,4,5,2,6,7] (.one 8 .done)) ?_
      repeat' first|assumption|(simp (disch:=first|assumption|omega|(simp;done)|(simp;omega)) only[go_sem,seval,hh9,yaR,qbt,hset,yaa])|(with_reducible first|apply And.intro|intro _)|((try rw[qaa]);omega)
      refine⟨i+1,by omega,by omega,rfl,?_⟩;simp only[go_sem,seval]
     ·rw[show h.take i=h from yaa (by omega)]
      repeat' first|assumption|(simp (disch:=first|assumption|omega|(simp;done)|(simp;omega)) only[go_sem,seval,yaa])|(with_reducible first|apply And.intro|intro _)|((try rw[qaa]);omega)
      exact qbS ⟨_,rfl,rfl⟩
  ·obtain rfl:k=8:=by omega
   have hnn:netB tiles busy (8-8) 8=none:=rfl;rw[<-hnb,hnn]
   repeat' first|assumption|(simp (disch:=first|assumption|omega|(simp;done)|(simp;omega)) only[go_sem,seval,yaa])|(with_reducible first|apply And.intro|intro _)|((try rw[qaa]);omega)
   refine qaK (r0:=.tup [.d (.agg [dI 0,dI 0,.nil]),.d (dB false)]) (H1:=[.box (bx (qcb busy))]) ?_ ⟨rfl,rfl⟩;simp only[go_sem,seval]

def qgR (c:Circ) (cells:List Cel) : ∀ k,(qdU c cells k).length<=k
 | 0=>by simp[qdU]
 | k+1=>by
  have:=qgR c cells k;rw[qdU,yae];split <;> simp <;> omega
def Tryz.c_netsOf (c:Circ) (hc:c.Valid):ICall prog 127 [.ptr 0 0] [.box [.d (dI c.inputs),.d (dIs c.next),.d (dPs c.gates),.d (dIs c.outs)]] (fun r H'=>r=.d (dNis (qhm c (qae c)))/\H'=[.box [.d (dI c.inputs),.d (dIs c.next),.d (dPs c.gates),.d (dIs c.outs)]]):=by
 have hf:=hc.first_bd;have hv:=hc.vars_bd;have hi0:=hc.i0;have hi1:=hc.i1;have hce:=c_Cells c hc;have hvs:=c_vars c (by omega);have hsk:=fun v=>c_NetSinks c hc v
 have hcl:=qby hc;have hlo:=hc.lo;rw[qhm];refine qaz (E:=env 1) tok rfl 1000 func127 rfl rfl ntmps127 (by simp) ?_
 repeat' first|assumption|(simp (disch:=first|assumption|omega|(simp;done)|(simp;omega)) only[go_sem,seval,qah])|(with_reducible first|apply And.intro|intro _)|(refine qbJ hce ?_)|((try rw[qaa]);omega)
 generalize hcs:qae c=cells at *
 refine qaf (E:=env 1) tok (σ:=Nat) (fun k=>[(0,.ptr 0 0),(3,.d (dCes cells)),(4,.sl 1 (qdU c cells k).length 5 0 (qdU c cells k).length),(5,.d (dI ((k+1:Nat):Int)))])
  (fun k=>[.box [.d (dI c.inputs),.d (dIs c.next),.d (dPs c.gates),.d (dIs c.outs)],.row (qdU c cells k).length 5 true ((qdU c cells k).map fun x=>dNi x)]) (fun k=>(k:Int)<=c.vars-1) (fun k=>c.vars.toNat-k) [] [(4,5,true)] 1000 1000 ?_ ?_
 ·simp only[go_sem,seval];exact⟨0,by omega,by simp[qdU]⟩
 ·intro k hk;have hnl:=qgR c cells k;have hns:qdU c cells (k+1)=qdU c cells k++(if 0<(ninC c cells ((k:Int)+1)).sinks.length+(ninC c cells ((k:Int)+1)).pads.length then [ninC c cells ((k:Int)+1)] else []):=rfl;have ek:((k+1:Nat):Int)=(k:Int)+1:=by omega
  by_cases hlt:(k:Int)<c.vars-1
  ·generalize hq9:qdU c cells k=q at *
   have hskv:=hsk ((k+1:Nat):Int)
   repeat' first|assumption|(simp (disch:=first|assumption|omega|(simp;done)|(simp;omega)) only[go_sem,seval,hq9,qah])|(with_reducible first|apply And.intro|intro _)|(refine qac hvs ?_)|(refine qbr hskv ?_)|((try rw[qaa]);omega)
   have hnin:ninC c cells ((k:Int)+1)=⟨(k:Int)+1,qdl cells ((k+1:Nat):Int) cells.length,((k:Int)+1-1)*5,qdm cells ((k+1:Nat):Int),qa3 c ((k+1:Nat):Int) c.outs.length⟩:=by rw[ek];rfl
   rw[hnin] at hns;simp only at hns;rw[<-ek] at hns;have hsl:(qdm cells ((k+1:Nat):Int)).length<=1000:=by
    have:=qd4 (cells:=cells) (fun x hx=>(qdk hc x (by rw[hcs];exact hx)).2.1) ((k+1:Nat):Int) cells.length (yad _);show(qba cells ((k+1:Nat):Int) cells.length).length<=1000
    omega
   generalize qdm cells ((k+1:Nat):Int)=S at *
   generalize hv9:((k+1:Nat):Int)=v at *
   refine qaf (E:=env 1) tok (σ:=Nat) (fun i=>[(0,.ptr 0 0),(3,.d (dCes cells)),(4,.sl 1 q.length 5 0 q.length),(5,.d (dI v)),(6,.ptr 3 0),(31,.d (dCes cells)),(32,.d (dI cells.length)),(33,.d (dI i))])
    (fun i=>[.box [.d (dI c.inputs),.d (dIs c.next),.d (dPs c.gates),.d (dIs c.outs)],.row q.length 5 true (q.map fun x=>dNi x),.row 0 1 true (S.map (D.int .i64)),.box [.d (dI v),.d (dI (qdl cells v i)),.d (dI ((v-1)*5)),.sl 2 0 1 0 S.length,.d .nil]]) (fun i=>i<=cells.length) (fun i=>cells.length-i) [] [] 1000 1000 ?_ ?_
   ·simp only[go_sem,seval];exact⟨0,by omega,by simp[qdl]⟩
   ·intro i hi;by_cases hit:i<cells.length
    ·have hcn:qdl cells v (i+1)=if(cells.getD i ce0).net=v then(i:Int) else qdl cells v i:=rfl;generalize hx9:cells.getD i ce0=x at *
     generalize qdl cells v i=u at *
     repeat' first|assumption|(simp (disch:=first|assumption|omega|(simp;done)|(simp;omega)) only[go_sem,seval,hx9,qah])|(with_reducible first|apply And.intro|intro _)|((try rw[qaa]);omega)
     ·rename_i h1;rw[if_pos h1] at hcn;refine⟨i+1,by omega,by omega,rfl,?_⟩;rw[hcn]
     ·rename_i h1;rw[if_neg h1] at hcn;refine⟨i+1,by omega,by omega,rfl,?_⟩;rw[hcn]
    ·obtain rfl:i=cells.length:=by omega
     repeat' first|assumption|(simp (disch:=first|assumption|omega|(simp;done)|(simp;omega)) only[go_sem,seval,qah])|(with_reducible first|apply And.intro|intro _)|((try rw[qaa]);omega)
     generalize qdl cells v cells.length=u at *
     have hpl : ∀ i,(qa3 c v i).length<=i:=by
      intro i;induction i with
      | zero=>simp[qa3]
      | succ i ih=>rw[qa3,yae];split <;> simp <;> omega
     refine qaf (E:=env 1) tok (σ:=Nat) (fun i=>[(0,.ptr 0 0),(3,.d (dCes cells)),(4,.sl 1 q.length 5 0 q.length),(5,.d (dI v)),(6,.ptr 3 0),(48,.d (dIs c.outs)),(49,.d (dI c.outs.length)),(50,.d (dI i))])
      (fun i=>[.box [.d (dI c.inputs),.d (dIs c.next),.d (dPs c.gates),.d (dIs c.outs)],.row q.length 5 true (q.map fun x=>dNi x),.row 0 1 true (S.map (D.int .i64)),.box [.d (dI v),.d (dI u),.d (dI ((v-1)*5)),.sl 2 0 1 0 S.length,.sl 4 (qa3 c v i).length 1 0 (qa3 c v i).length],.row (qa3 c v i).length 1 true ((qa3 c v i).map (D.int .i64))]) (fun i=>i<=c.outs.length) (fun i=>c.outs.length-i) [(3,4,1,true)] [] 1000 1000 ?_ ?_
     ·simp only[go_sem,seval];exact⟨0,by omega,by simp[qa3]⟩
     ·intro i hi;have hpli:=hpl i;by_cases hit:i<c.outs.length
      ·have hps:qa3 c v (i+1)=qa3 c v i++(if c.outs.getD i 0/2=v then [(i:Int)*5+4] else []):=rfl;have hpt:=c_padTile (i:Int) (by omega);have ho:=hc.o _ (qad hit:c.outs.getD i 0∈c.outs);unfold qaY at ho;generalize hx9:c.outs.getD i 0=x at *
       generalize qa3 c v i=P at *
       have hr:=qab (y:=2) ho.1;simp only[go_sem,seval,hx9]
       repeat' first|assumption|(simp (disch:=first|assumption|omega|(simp;done)|(simp;omega)) only[go_sem,seval,hx9,hr,qah])|(with_reducible first|apply And.intro|intro _)|(refine qac hpt ?_)|((try rw[qaa]);omega)
       ·rename_i h1;rw[if_pos h1] at hps;refine qaL (n:=1) [5,7] (fsts [0,2,1] (.one 3 (.one 4 (.one 5 (.fst 6 (.one 7 .done)))))) ?_;simp only[go_sem,seval,hx9]
        repeat' first|assumption|(simp (disch:=first|assumption|omega|(simp;done)|(simp;omega)) only[go_sem,seval,hx9,hr,qah])|(with_reducible first|apply And.intro|intro _)|(refine qac hpt ?_)|((try rw[qaa]);omega)
        refine⟨i+1,by omega,by omega,rfl,?_⟩;rw[hps];simp
       ·rename_i h1;rw[if_neg h1,yaG] at hps;refine⟨i+1,by omega,by omega,rfl,?_⟩;rw[hps];exact⟨rfl,rfl,rfl⟩
      ·obtain rfl:i=c.outs.length:=by omega
       generalize qa3 c v c.outs.length=P at *
       repeat' first|assumption|(simp (disch:=first|assumption|omega|(simp;done)|(simp;omega)) only[go_sem,seval,qah])|(with_reducible first|apply And.intro|intro _)|((try rw[qaa]);omega)
       ·rename_i h1;rw[if_pos (by omega)] at hns;refine⟨k+1,by omega,by omega,?_⟩;rw[hns];exact⟨⟨by simp,by omega⟩,by simp,by simp⟩
       ·rename_i h1;rw[if_neg (by omega),yaG] at hns;refine⟨k+1,by omega,by omega,?_⟩;rw[hns];exact⟨⟨rfl,by omega⟩,rfl,rfl⟩
  ·repeat' first|assumption|(simp (disch:=first|assumption|omega|(simp;done)|(simp;omega)) only[go_sem,seval,qah])|(with_reducible first|apply And.intro|intro _)|(refine qac hvs ?_)|((try rw[qaa]);omega)
   obtain rfl:k=c.vars.toNat-1:=by omega
   generalize qdU c cells (c.vars.toNat-1)=q at *
   refine qcF (by simp) (by simp only[go_sem,seval]) ?_;simp only[go_sem,seval]
   repeat' first|assumption|(simp (disch:=first|assumption|omega|(simp;done)|(simp;omega)) only[go_sem,seval,qah])|(with_reducible first|apply And.intro|intro _)|((try rw[qaa]);omega)

noncomputable instance (n:Nat) (l:List Int):Decidable (PlaceOk n l):=Classical.propDecidable _
def Tryz.c_PlacementValid (c:Circ) (place:List Int):Pure prog 131 [dC c,dIs place] (.bool (decide (c.Valid/\PlaceOk (qae c).length place))):=by
 have hcv:=c_CircuitValid c;by_cases hc:c.Valid
 ·have hce:=c_Cells c hc;have hcl:=qby hc;rw[decide_eq_true hc] at hcv;refine qax func131 rfl ntmps131 fun ok=>?_
  simp only[go_sem,seval] at ok
  repeat' first|assumption|(simp (disch:=first|assumption|omega|(simp;done)|(simp;omega)) only[go_sem,seval,yaa])|(with_reducible first|apply And.intro|intro _)|(refine qac hcv ?_)|(refine qbJ hce ?_)|(refine qb9 ?_;simp only[go_sem,seval])|((try rw[qaa]);omega)
  ·rename_i h9;rw[eq_comm,decide_eq_false];exact fun h=>h9 h.2.len
  rename_i h9;refine qaw (E:=env 0) tok (σ:=Nat×Kn) (fun s=>[(5,.map 1),(20,.d (dIs place)),(21,.d (dI place.length)),(22,.d (dI s.1))]) (fun s=>[.box [.d (dI c.inputs),.d (dIs c.next),.d (dPs c.gates),.d (dIs c.outs)],.map (knE s.2)]) (fun s=>s.1<=place.length/\(∀ t∈place.take s.1,0<=t/\t<=24)/\(place.take s.1).Nodup/\∀ t,kn s.2 t=if t∈place.take s.1 then some true else none) (fun s=>place.length-s.1) [] 1000 1000 ?_ ?_ ?_
  ·simp only[go_sem,seval]
  ·simp only[go_sem,seval];exact⟨(0,[]),⟨by simp,by simp,by simp,fun t=>by simp[kn]⟩,rfl,rfl⟩
  ·rintro⟨i,m⟩ ⟨hi,hr,hn,hm⟩;simp only at hi hr hn hm;by_cases hlt:i<place.length
   ·have hts:place.take (i+1)=place.take i ++ [place.getD i 0]:=by simpa using qaT (f:=fun x:Int=>x) 0 hlt
    have hmem:=qad hlt (z:=(0:Int));have hup : ∀ t,kn (knUp m t true) t=some true:=fun t=>by rw[qmO,if_pos rfl]
    have hbad:place.getD i 0∈place.take i->¬ PlaceOk (qae c).length place:=fun h1 h2=>by
     have hnd:=h2.nd;rw[<-List.take_append_drop (i+1) place,hts,yar,ybl] at hnd;exact hnd.2.2 _ h1 _ (by simp) rfl
    generalize hx9:place.getD i 0=x at *
    have ek:=qkO x m;have eu:=qkP x true m;have hks:=qh4;have hmx:=hm x;by_cases hin:x∈place.take i
    ·rw[if_pos hin] at hmx;have hb:=hbad hin
     repeat' first|assumption|(simp (disch:=first|assumption|omega|(simp;done)|(simp;omega)) only[go_sem,seval,hx9,ek,eu,hmx,yak,yai,yag,yan,yaa])|(with_reducible first|apply And.intro|intro _)|(refine qb9 ?_;simp only[go_sem,seval,hx9,ek,eu,hmx,yak,yai,yag,yan])|((try rw[qaa]);omega)
     all_goals first|exact hks m|(rw[eq_comm,decide_eq_false];exact fun h=>hb h.2)|(exfalso;simp_all;done)
    ·rw[if_neg hin] at hmx
     repeat' first|assumption|(simp (disch:=first|assumption|omega|(simp;done)|(simp;omega)) only[go_sem,seval,hx9,ek,eu,hmx,yak,yai,yag,yan,yaa])|(with_reducible first|apply And.intro|intro _)|(refine qb9 ?_;simp only[go_sem,seval,hx9,ek,eu,hmx,yak,yai,yag,yan])|((try rw[qaa]);omega)
     ·exact hks m
     ·rename_i h1;rw[eq_comm,decide_eq_false];intro h2;have:=h2.2.rng x hmem;omega
     ·exact hks m
     ·rename_i h1;refine⟨(i+1,knUp m x true),⟨by simp only;omega,fun t ht=>?_,?_,fun t=>?_⟩,by simp only;omega,rfl,rfl⟩
      ·rw[hts] at ht;rcases List.mem_append.1 ht with h2|h2
       ·exact hr t h2
       ·obtain rfl:t=x:=by simpa using h2
        omega
      ·rw[hts,ybl];exact⟨hn,by simp,fun a ha b hb e=>by
        obtain rfl:b=x:=by simpa using hb
        subst e;exact hin ha⟩
      ·rw[qmO,hm t,hts];by_cases e:t=x
       ·subst e;simp
       ·simp[e]
   ·obtain rfl:i=place.length:=by omega
    rw[yaA] at hr hn
    repeat' first|assumption|(simp (disch:=first|assumption|omega|(simp;done)|(simp;omega)) only[go_sem,seval,yaa])|(with_reducible first|apply And.intro|intro _)|(refine qb9 ?_;simp only[go_sem,seval])|((try rw[qaa]);omega)
    rw[eq_comm,decide_eq_true_eq];exact⟨hc,by omega,hr,hn⟩
 ·rw[decide_eq_false hc] at hcv;rw[decide_eq_false (fun h=>hc h.1)];refine qax func131 rfl ntmps131 fun ok=>?_
  simp only[go_sem,seval] at ok
  repeat' first|assumption|(simp (disch:=first|assumption|omega|(simp;done)|(simp;omega)) only[go_sem,seval,yaa])|(with_reducible first|apply And.intro|intro _)|(refine qac hcv ?_)|(refine qb9 ?_;simp only[go_sem,seval])|((try rw[qaa]);omega)
end Go.Proofs

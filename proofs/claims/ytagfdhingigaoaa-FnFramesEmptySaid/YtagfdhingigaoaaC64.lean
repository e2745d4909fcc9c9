/- Contracts, plain definitions and lemmas. Conditions: none; lemmas. -/
import Derived.Test.YtagfdhingigaoaaC72
import Derived.Test.YtagfdhingigaoaaC63
set_option maxRecDepth 20000
set_option linter.unusedVariables false
set_option linter.unusedSimpArgs false
namespace Go.Proofs
open Go Go.VL
theorem qfN {c:Circ}(hc:c.Valid) : ∀ x∈qcH c,x.inputs.length≤3:=by
 intro x hx
 rcases List.mem_append.1 hx with h|h
 ·obtain⟨i,hi,rfl⟩:=List.mem_map.1 h
  unfold qb7
  split <;> simp
 ·obtain⟨l,hl,rfl⟩:=List.mem_map.1 h
  obtain⟨m,hm,rfl⟩:=(qf3 hc).each l hl
  exact(qei hc hm).2.1
theorem Try.c_l7Cost (c:Circ) (hc:c.Valid) (cells:List Cel) (hcl:cells.length≤25) (hci : ∀ x∈cells,x.inputs.length≤3) (place:List Int) (hp:PlaceOk cells.length place) :
  Pure Try.prog 47 [dC c,dCes cells,dIs place] (dI (qe0 c cells place)):=by
 have hf:=hc.first_bd
 have hv:=hc.vars_bd
 have hi0:=hc.i0
 have hi1:=hc.i1
 have hvv:c.vars=c.first+(c.gates.length:Int):=rfl
 have hfst:=Try.c_l1First c (by omega)
 have k3:scal (dI c.first):=by show InK .i64 _;rw[qaa];omega
 have hcb:=qkC hc hp
 have hpb:=fun net=>qf4 hc hp (net:=net)
 refine qat (E:=Try.env 0) Try.tok rfl 1000 Try.func47 rfl rfl Try.ntmps47 (by simp) fun ok=>?_
 simp only[go_sem,seval] at ok
 simp only[go_sem,seval,Try.results47]
 repeat' first|assumption|(simp (disch:=first|assumption|omega|(simp;done)|(simp;omega)) only[List.take_of_length_le];try simp only[go_sem,seval,Try.results47])|(with_reducible first|apply And.intro|intro _)|(refine qac ?_;simp only[go_sem,seval,Try.results47])|exact lexT|((try rw[qaa]);omega)
 refine qaH (E:=Try.env 0) Try.tok (σ:=Nat) (fun k=>[(0,.d (dC c)),(1,.d (dCes cells)),(2,.d (dIs place)),(3,.ptr 0 0),(7,.d (dI (qif c cells place k))),(8,.d (dI ((k:Int)+1)))]) (fun _=>[.box [.d (dI c.inputs),.d (dIs c.next),.d (dPs c.gates),.d (dIs c.outs)]]) (fun k=>(k:Int)≤c.vars-1) (fun k=>c.vars.toNat-k) [] 1000 1000 ?_ ?_ ?_
 ·simp only[go_sem,seval]
 ·simp only[go_sem,seval]
  exact⟨0,by omega,rfl,rfl⟩
 ·intro k hk
  have hck:=hcb k
  have ek:(k:Int)+1=((k+1:Nat):Int):=by omega
  have hcs:qif c cells place (k+1)=qif c cells place k+qjW (qdL c cells place ((k+1:Nat):Int)):=by rw[←ek];rfl
  have hdb:=qkB (hpb ((k+1:Nat):Int))
  by_cases hlt:(k:Int)<c.vars-1
  ·have h1:=Try.c_l7Pins c hc cells hcl hci place hp ((k+1:Nat):Int) (by omega)
   have h2:=Try.c_l7Dist _ (hpb ((k+1:Nat):Int))
   simp only[go_sem,seval,Try.results47]
   repeat' first|assumption|(simp (disch:=first|assumption|omega|(simp;done)|(simp;omega)) only[List.take_of_length_le];try simp only[go_sem,seval,Try.results47])|(with_reducible first|apply And.intro|intro _)|(refine qbP (fun _=>⟨hfst,k3⟩) ?_;simp only[go_sem,seval,Try.results47])|(refine qag h1 ?_;simp only[go_sem,seval,Try.results47])|(refine qag h2 ?_;simp only[go_sem,seval,Try.results47])|(refine qac ?_;simp only[go_sem,seval,Try.results47])|exact lexT|((try rw[qaa]);omega)
   exact⟨k+1,by omega,by omega,hcs.symm,rfl⟩
  ·simp only[go_sem,seval,Try.results47]
   repeat' first|assumption|(simp (disch:=first|assumption|omega|(simp;done)|(simp;omega)) only[List.take_of_length_le];try simp only[go_sem,seval,Try.results47])|(with_reducible first|apply And.intro|intro _)|(refine qbP (fun _=>⟨hfst,k3⟩) ?_;simp only[go_sem,seval,Try.results47])|(refine qac ?_;simp only[go_sem,seval,Try.results47])|exact lexT|((try rw[qaa]);omega)
   rw[qe0,show k=c.vars.toNat-1 by omega]
theorem Try.c_l7Try (place:List Int) (i:Nat) (tile:Int) (hi:i<place.length) (hl:place.length≤25):Pure Try.prog 48 [dIs place,dI i,dI tile] (dIs (tryP place i tile)):=by
 refine qat (E:=Try.env 0) Try.tok rfl 1000 Try.func48 rfl rfl Try.ntmps48 (by simp) fun ok=>?_
 simp only[go_sem,seval] at ok
 simp only[go_sem,seval,Try.results48]
 repeat' first|assumption|(simp (disch:=first|assumption|omega|(simp;done)|(simp;omega)) only[List.take_of_length_le];try simp only[go_sem,seval,Try.results48])|(with_reducible first|apply And.intro|intro _)|(refine qac ?_;simp only[go_sem,seval,Try.results48])|exact lexT|((try rw[qaa]);omega)
 refine qaH (E:=Try.env 0) Try.tok (σ:=Nat×List Int) (fun s=>[(0,.d (dIs place)),(1,.d (dI i)),(2,.d (dI tile)),(7,.sl 0 1 1 0 place.length),(8,.d (dI s.1))]) (fun s=>[.row 1 1 true (s.2.map (D.int .i64))])
  (fun s=>s.1≤place.length∧s.2.length=place.length∧∀ j,j<place.length→s.2.getD j 0=if j<s.1∧place.getD j 0=tile then place.getD i 0 else place.getD j 0) (fun s=>place.length-s.1) [] 1000 1000 ?_ ?_ ?_
 ·simp only[go_sem,seval]
 ·simp only[go_sem,seval]
  exact⟨(0,place),⟨by simp,rfl,fun j hj=>by simp⟩,rfl,rfl⟩
 ·rintro⟨k,q⟩ ⟨hk,hql,hq⟩
  simp only at hk hql hq
  by_cases hkt:k<place.length
  ·have hqk:=hq k hkt
   rw[if_neg (by omega)] at hqk
   simp only[go_sem,seval,Try.results48]
   repeat' first|assumption|(simp (disch:=first|assumption|omega|(simp;done)|(simp;omega)) only[List.take_of_length_le];try simp only[go_sem,seval,Try.results48])|(with_reducible first|apply And.intro|intro _)|(refine qac ?_;simp only[go_sem,seval,Try.results48])|exact lexT|((try rw[qaa]);omega)
   ·rename_i h9
    rw[hqk] at h9
    refine⟨(k+1,q.set k (place.getD i 0)),⟨by simp only;omega,by simp only[List.length_set];exact hql,fun j hj=>?_⟩,by simp only;omega,rfl,rfl⟩
    simp only
    rw[qe3 (by omega),hq j hj]
    by_cases hjk:k=j
    ·subst hjk
     rw[if_pos rfl,if_pos ⟨by omega,h9⟩]
    ·rw[if_neg hjk]
     by_cases h2:j<k∧place.getD j 0=tile
     ·rw[if_pos h2,if_pos ⟨by omega,h2.2⟩]
     ·rw[if_neg h2,if_neg (fun h=>h2 ⟨by omega,h.2⟩)]
   ·rename_i h9
    rw[hqk] at h9
    refine⟨(k+1,q),⟨by simp only;omega,hql,fun j hj=>?_⟩,by simp only;omega,rfl,rfl⟩
    simp only
    rw[hq j hj]
    by_cases h2:j<k∧place.getD j 0=tile
    ·rw[if_pos h2,if_pos ⟨by omega,h2.2⟩]
    ·rw[if_neg h2,if_neg (fun h=>by
      by_cases hjk:j=k
      ·subst hjk;exact h9 h.2
      ·exact h2 ⟨by omega,h.2⟩)]
  ·have e:q.set i tile=tryP place i tile:=by
    refine qcP 0 (by rw[List.length_set,qf5,hql]) fun j hj=>?_
    rw[List.length_set,hql] at hj
    rw[qf6 hj,qe3 (by omega),hq j hj]
    by_cases hji:j=i
    ·rw[if_pos hji.symm,if_pos hji]
    ·rw[if_neg (Ne.symm hji),if_neg hji]
     by_cases h2:place.getD j 0=tile
     ·rw[if_pos ⟨by omega,h2⟩,if_pos h2]
     ·rw[if_neg (fun h=>h2 h.2),if_neg h2]
   simp only[go_sem,seval,Try.results48]
   repeat' first|assumption|(simp (disch:=first|assumption|omega|(simp;done)|(simp;omega)) only[List.take_of_length_le];try simp only[go_sem,seval,Try.results48])|(with_reducible first|apply And.intro|intro _)|(refine qac ?_;simp only[go_sem,seval,Try.results48])|exact lexT|((try rw[qaa]);omega)
theorem Try.c_l7Place (c:Circ) (hc:c.Valid) (cells:List Cel) (hcl:cells.length≤25) (hci : ∀ x∈cells,x.inputs.length≤3):PureF Try.prog 38 [dC c,dCes cells] (dIs (qhC c cells)):=by
 refine qde (E:=Try.env 0) Try.tok rfl 1000 Try.func38 rfl rfl Try.ntmps38 (by simp) fun ok=>?_
 simp only[go_sem,seval] at ok
 simp only[go_sem,seval,Try.results38]
 repeat' first|assumption|(simp (disch:=first|assumption|omega|(simp;done)|(simp;omega)) only[List.take_of_length_le];try simp only[go_sem,seval,Try.results38])|(with_reducible first|apply And.intro|intro _)|(refine qac ?_;simp only[go_sem,seval,Try.results38])|exact lexT|((try rw[qaa]);omega)
 refine qas (E:=Try.env 0) Try.tok (σ:=Nat) (fun i=>[(0,.d (dC c)),(1,.d (dCes cells)),(2,.ptr 0 0),(5,.sl 1 i 1 0 i),(6,.d (dI i))]) (fun i=>[.box [.d (dI c.inputs),.d (dIs c.next),.d (dPs c.gates),.d (dIs c.outs)],.row i 1 true ((qdM i).map (D.int .i64))]) (fun i=>i≤cells.length) (fun i=>cells.length-i) [] [] 1000 1000 ?_ ?_
 ·simp only[go_sem,seval]
  exact⟨0,by omega,by simp[qdM]⟩
 ·intro i hi
  have hil:(qdM i).length=i:=by simp[qdM]
  have his:qdM (i+1)=qdM i ++ [(i:Int)]:=by rw[qdM,List.range_succ,List.map_append];rfl
  by_cases hlt:i<cells.length
  ·generalize qdM i=q at *
   simp only[go_sem,seval,Try.results38]
   repeat' first|assumption|(simp (disch:=first|assumption|omega|(simp;done)|(simp;omega)) only[List.take_of_length_le];try simp only[go_sem,seval,Try.results38,hil])|(with_reducible first|apply And.intro|intro _)|(refine qac ?_;simp only[go_sem,seval,Try.results38,hil])|exact lexT|((try rw[qaa]);omega)
   refine⟨i+1,by omega,by omega,?_⟩
   rw[his]
   repeat' apply And.intro
   all_goals rfl
  ·obtain rfl:i=cells.length:=by omega
   have hpo:=qkD (n:=cells.length) (by omega)
   have hcost:=fun p (h:PlaceOk cells.length p)=>Try.c_l7Cost c hc cells hcl hci p h
   have hpd:qhC c cells=((List.range 3).foldl (qer c cells) (qdM cells.length,qe0 c cells (qdM cells.length))).1:=rfl
   have hsw:=qgU (c:=c) (cells:=cells) hcl
   generalize qdM cells.length=P0 at *
   simp only[go_sem,seval,Try.results38]
   repeat' first|assumption|(simp (disch:=first|assumption|omega|(simp;done)|(simp;omega)) only[List.take_of_length_le];try simp only[go_sem,seval,Try.results38,hil])|(with_reducible first|apply And.intro|intro _)|(refine qag (hcost _ hpo) ?_;simp only[go_sem,seval,Try.results38,hil])|(refine qac ?_;simp only[go_sem,seval,Try.results38,hil])|exact lexT|((try rw[qaa]);omega)
   refine qas (E:=Try.env 0) Try.tok (σ:=Nat) (fun s=>[(0,.d (dC c)),(1,.d (dCes cells)),(2,.ptr 0 0),(5,.d (dIs ((List.range s).foldl (qer c cells) (P0,qe0 c cells P0)).1)),(7,.d (dI ((List.range s).foldl (qer c cells) (P0,qe0 c cells P0)).2)),(8,.d (dI s))]) (fun s=>[.box [.d (dI c.inputs),.d (dIs c.next),.d (dPs c.gates),.d (dIs c.outs)]]) (fun s=>s≤3) (fun s=>3-s) [] [] 1000 1000 ?_ ?_
   ·simp only[go_sem,seval]
    refine⟨0,by omega,?_⟩
    simp[hil]
    exact List.take_of_length_le (by omega)
   ·intro s hs
    have hS:=hsw s
    have hS1:(List.range (s+1)).foldl (qer c cells) (P0,qe0 c cells P0)=qer c cells ((List.range s).foldl (qer c cells) (P0,qe0 c cells P0)) s:=qa5
    generalize hS9:(List.range s).foldl (qer c cells) (P0,qe0 c cells P0)=S at *
    have hmid:=qgT (c:=c) hS
    have hSd:qer c cells S s=(List.range cells.length).foldl (rowP c cells) S:=rfl
    by_cases hst:s<3
    ·simp only[go_sem,seval,Try.results38]
     repeat' first|assumption|(simp (disch:=first|assumption|omega|(simp;done)|(simp;omega)) only[List.take_of_length_le];try simp only[go_sem,seval,Try.results38])|(with_reducible first|apply And.intro|intro _)|(refine qac ?_;simp only[go_sem,seval,Try.results38])|exact lexT|((try rw[qaa]);omega)
     refine qas (E:=Try.env 0) Try.tok (σ:=Nat) (fun i=>[(0,.d (dC c)),(1,.d (dCes cells)),(2,.ptr 0 0),(5,.d (dIs ((List.range i).foldl (rowP c cells) S).1)),(7,.d (dI ((List.range i).foldl (rowP c cells) S).2)),(8,.d (dI s)),(9,.d (dI i))]) (fun i=>[.box [.d (dI c.inputs),.d (dIs c.next),.d (dPs c.gates),.d (dIs c.outs)]]) (fun i=>i≤cells.length) (fun i=>cells.length-i) [] [] 1000 1000 ?_ ?_
     ·simp only[go_sem,seval]
      exact⟨0,by omega,by simp⟩
     ·intro i hi
      have hI:=hmid i hi
      have hI1:(List.range (i+1)).foldl (rowP c cells) S=rowP c cells ((List.range i).foldl (rowP c cells) S) i:=qa5
      by_cases hit:i<cells.length
      ·generalize (List.range i).foldl (rowP c cells) S=M at *
       have hin:=qjX (c:=c) hit hI
       have hId:rowP c cells M i=(List.range 25).foldl (qfX c cells i) M:=rfl
       simp only[go_sem,seval,Try.results38]
       repeat' first|assumption|(simp (disch:=first|assumption|omega|(simp;done)|(simp;omega)) only[List.take_of_length_le];try simp only[go_sem,seval,Try.results38])|(with_reducible first|apply And.intro|intro _)|(refine qac ?_;simp only[go_sem,seval,Try.results38])|exact lexT|((try rw[qaa]);omega)
       refine qas (E:=Try.env 0) Try.tok (σ:=Nat) (fun t=>[(0,.d (dC c)),(1,.d (dCes cells)),(2,.ptr 0 0),(5,.d (dIs ((List.range t).foldl (qfX c cells i) M).1)),(7,.d (dI ((List.range t).foldl (qfX c cells i) M).2)),(8,.d (dI s)),(9,.d (dI i)),(10,.d (dI t))]) (fun t=>[.box [.d (dI c.inputs),.d (dIs c.next),.d (dPs c.gates),.d (dIs c.outs)]]) (fun t=>t≤25) (fun t=>25-t) [] [] 1000 1000 ?_ ?_
       ·simp only[go_sem,seval]
        exact⟨0,by omega,by simp⟩
       ·intro t ht
        have hT:=hin t ht
        have hT1:(List.range (t+1)).foldl (qfX c cells i) M=qfX c cells i ((List.range t).foldl (qfX c cells i) M) t:=qa5
        by_cases htt:t<25
        ·generalize (List.range t).foldl (qfX c cells i) M=N at *
         obtain⟨p,k⟩:=N
         simp only at hT
         have hpl:=hT.len
         have htr:=Try.c_l7Try p i (t:Int) (by omega) (by omega)
         have hok:=hT.try_ hit (tile:=(t:Int)) (by omega)
         have hco:=hcost _ hok
         have hsd:qfX c cells i (p,k) t=if qe0 c cells (tryP p i (t:Int))<k then(tryP p i (t:Int),qe0 c cells (tryP p i (t:Int))) else(p,k):=rfl
         generalize tryP p i (t:Int)=nx at *
         simp only[go_sem,seval,Try.results38]
         repeat' first|assumption|(simp (disch:=first|assumption|omega|(simp;done)|(simp;omega)) only[List.take_of_length_le];try simp only[go_sem,seval,Try.results38])|(with_reducible first|apply And.intro|intro _)|(refine qag htr ?_;simp only[go_sem,seval,Try.results38])|(refine qag hco ?_;simp only[go_sem,seval,Try.results38])|(refine qac ?_;simp only[go_sem,seval,Try.results38])|exact lexT|((try rw[qaa]);omega)
         ·rename_i h9
          refine⟨t+1,by omega,by omega,?_⟩
          rw[hT1,hsd,if_pos h9]
          exact⟨rfl,rfl,rfl⟩
         ·rename_i h9
          refine⟨t+1,by omega,by omega,?_⟩
          rw[hT1,hsd,if_neg h9]
          exact⟨rfl,rfl,rfl⟩
        ·obtain rfl:t=25:=by omega
         rw[←hId,←hI1]
         simp only[go_sem,seval,Try.results38]
         repeat' first|assumption|(simp (disch:=first|assumption|omega|(simp;done)|(simp;omega)) only[List.take_of_length_le];try simp only[go_sem,seval,Try.results38])|(with_reducible first|apply And.intro|intro _)|(refine qac ?_;simp only[go_sem,seval,Try.results38])|exact lexT|((try rw[qaa]);omega)
         refine⟨i+1,by omega,by omega,?_⟩
         rw[List.range_succ]
         exact⟨rfl,rfl,rfl⟩
      ·obtain rfl:i=cells.length:=by omega
       rw[←hSd,←hS1]
       simp only[go_sem,seval,Try.results38]
       repeat' first|assumption|(simp (disch:=first|assumption|omega|(simp;done)|(simp;omega)) only[List.take_of_length_le];try simp only[go_sem,seval,Try.results38])|(with_reducible first|apply And.intro|intro _)|(refine qac ?_;simp only[go_sem,seval,Try.results38])|exact lexT|((try rw[qaa]);omega)
       refine⟨s+1,by omega,by omega,?_⟩
       rw[List.range_succ]
       exact⟨rfl,rfl,rfl⟩
    ·obtain rfl:s=3:=by omega
     simp only[go_sem,seval,Try.results38]
     repeat' first|assumption|(simp (disch:=first|assumption|omega|(simp;done)|(simp;omega)) only[List.take_of_length_le];try simp only[go_sem,seval,Try.results38])|(with_reducible first|apply And.intro|intro _)|(refine qac ?_;simp only[go_sem,seval,Try.results38])|exact lexT|((try rw[qaa]);omega)
     all_goals rw[hpd,←hS9]
end Go.Proofs

set_option linter.unusedVariables false
set_option linter.unusedSimpArgs false
namespace Go.VL
structure BusyOk (busy:List (List Bool)):Prop where
 len:busy.length=8
 row : ∀ t,t<8→(busy.getD t []).length=25
theorem qkH:BusyOk qd4:=⟨by simp[qd4],fun t ht=>by rw[qd4,qmP ht];simp⟩
theorem qi6 : ∀ (hops:List (Int×Int)) (b:List Bool),(qe1 b hops).length=b.length
 | [],b=>rfl
 | h::hs,b=>by
  show(qe1 (b.set h.1.toNat true) hs).length=_
  rw[qi6 hs,List.length_set]
theorem qi7 : ∀ (hops:List (Int×Int)) (b:List Bool),b.length=25→(∀ h∈hops,0≤h.1∧h.1≤24)→∀ x:Int,0≤x→x≤24→(qe1 b hops).getD x.toNat false=(b.getD x.toNat false || decide (x∈qaA hops))
 | [],b,_,_,x,_,_=>by simp[qe1,qaA]
 | h::hs,b,hb,hr,x,h0,h1=>by
  have hh:=hr h (by simp)
  show(qe1 (b.set h.1.toNat true) hs).getD x.toNat false=_
  rw[qi7 hs _ (by simp[hb]) (fun z hz=>hr z (by simp[hz])) x h0 h1]
  have hm:x∈qaA (h::hs)↔x=h.1∨x∈qaA hs:=by simp[qaA]
  by_cases e:x=h.1
  ·subst e
   have e1:(b.set h.1.toNat true).getD h.1.toNat false=true:=by simp[List.getD,show h.1.toNat<b.length by omega]
   rw[e1,decide_eq_true (hm.2 (.inl rfl))];simp
  ·have e1:(b.set h.1.toNat true).getD x.toNat false=b.getD x.toNat false:=by
    simp[List.getD,List.getElem?_set,show ¬ h.1.toNat=x.toNat by omega]
   rw[e1]
   congr 1
   exact decide_eq_decide.2 (by rw[hm];simp[e])
theorem qmQ {busy:List (List Bool)}(hb:BusyOk busy) {t:Nat}(ht:t<8) {hops:List (Int×Int)}(hr : ∀ h∈hops,0≤h.1∧h.1≤24) {u:Nat}(hu:u<8) {x:Int}(h0:0≤x) (h1:x≤24) :
  ((takeB busy t hops).getD u []).getD x.toNat false=((busy.getD u []).getD x.toNat false || decide (u=t∧x∈qaA hops)):=by
 have hl:=hb.len
 unfold takeB
 by_cases e:t=u
 ·subst e
  have e1:(busy.set t (qe1 (busy.getD t []) hops)).getD t []=qe1 (busy.getD t []) hops:=by simp[List.getD,show t<busy.length by omega]
  rw[e1,qi7 hops _ (hb.row t ht) hr x h0 h1];simp
 ·have e1:(busy.set t (qe1 (busy.getD t []) hops)).getD u []=busy.getD u []:=by simp[List.getD,List.getElem?_set,e]
  rw[e1];simp[Ne.symm e]
theorem qkI {busy:List (List Bool)}(hb:BusyOk busy) {t:Nat}(ht:t<8) {hops:List (Int×Int)}:BusyOk (takeB busy t hops):=by
 have hl:=hb.len
 refine⟨by simp[takeB,hl],fun u hu=>?_⟩
 unfold takeB
 by_cases e:t=u
 ·subst e
  have e1:(busy.set t (qe1 (busy.getD t []) hops)).getD t []=qe1 (busy.getD t []) hops:=by simp[List.getD,show t<busy.length by omega]
  rw[e1,qi6];exact hb.row t ht
 ·have e1:(busy.set t (qe1 (busy.getD t []) hops)).getD u []=busy.getD u []:=by simp[List.getD,List.getElem?_set,e]
  rw[e1];exact hb.row u hu
structure RtOk (c:Circ) (cells:List Cel) (place:List Int) (busy0:List (List Bool)) (k:Nat) (r:Rt):Prop where
 net:1≤r.net∧r.net≤k
 track:0≤r.track∧r.track<8
 tree:TreeOk (busy0.getD r.track.toNat []) r.hops
 pins : ∀ t∈qdL c cells place r.net,t∈qaA r.hops
 src : ∃ q,r.hops=((qdL c cells place r.net).getD 0 0,-1)::q
def qmR (out:List Rt) (t:Nat) (x:Int):Prop:=∃ r∈out,r.track=(t:Int)∧x∈qaA r.hops
def apartR (a b:Rt):Prop:=a.track=b.track→∀ x∈qaA a.hops,x∉qaA b.hops
def qi8 (c:Circ) (cells:List Cel) (place:List Int) (k:Nat):List Int:=((List.range k).map fun(j:Nat)=>(j:Int)+1).filter fun n=>decide (qdL c cells place n≠[])
theorem qgW {c:Circ}{cells:List Cel}{place:List Int}{k:Nat}:qi8 c cells place (k+1)=qi8 c cells place k++(if qdL c cells place ((k:Int)+1)=[] then [] else [(k:Int)+1]):=by
 rw[qi8,List.range_succ,List.map_append,List.filter_append]
 congr 1
 by_cases h:qdL c cells place ((k:Int)+1)=[]
 ·simp[h]
 ·simp[h]
structure RoutesOk (c:Circ) (cells:List Cel) (place:List Int) (busy0:List (List Bool)) (k:Nat) (busy:List (List Bool)) (out:List Rt):Prop where
 bok:BusyOk busy
 used : ∀ t,t<8→∀ x:Int,0≤x→x≤24→((busy.getD t []).getD x.toNat false=true↔(busy0.getD t []).getD x.toNat false=true∨qmR out t x)
 each : ∀ r∈out,RtOk c cells place busy0 k r
 apart:out.Pairwise apartR
 nets:out.map (·.net)=qi8 c cells place k
theorem qgX {c:Circ}{cells:List Cel}{place:List Int}{busy0:List (List Bool)}(hc:c.Valid) (hp:PlaceOk cells.length place) (hb0:BusyOk busy0) : ∀ (k:Nat) {busy:List (List Bool)}{out:List Rt},qcU c cells place busy0 k=some (busy,out)→RoutesOk c cells place busy0 k busy out
 | 0,busy,out,h=>by
  simp only[qcU,Option.some.injEq,Prod.mk.injEq] at h
  obtain⟨rfl,rfl⟩:=h
  exact⟨hb0,fun t ht x h0 h1=>by simp[qmR],by simp,by simp,by simp[qi8]⟩
 | k+1,busy,out,h=>by
  simp only[qcU] at h
  split at h
  ·cases h
  ·rename_i busy1 out1 h1
   have ih:=qgX hc hp hb0 k h1
   have weak : ∀ {r:Rt},RtOk c cells place busy0 k r→RtOk c cells place busy0 (k+1) r:=fun {r} q=>⟨by have:=q.net;omega,q.track,q.tree,q.pins,q.src⟩
   split at h
   ·rename_i hpn
    simp only[Option.some.injEq,Prod.mk.injEq] at h
    obtain⟨rfl,rfl⟩:=h
    exact⟨ih.bok,ih.used,fun r hr=>weak (ih.each r hr),ih.apart,by rw[qgW,if_pos hpn,List.append_nil];exact ih.nets⟩
   ·rename_i hpn
    split at h
    ·cases h
    ·rename_i t hs h2
     simp only[Option.some.injEq,Prod.mk.injEq] at h
     obtain⟨rfl,rfl⟩:=h
     obtain⟨-,ht8,ht,-⟩:=qjY 8 0 h2
     have ht8:t<8:=by omega
     obtain⟨b1,b2,b3⟩:=qkG (qf4 hc hp) hpn ht
     have hfree : ∀ h∈hs,(busy0.getD t []).getD h.1.toNat false=false∧¬ qmR out1 t h.1:=fun h hh=>by
      have hr:=b1.rng h hh
      have:=(not_congr (ih.used t ht8 h.1 hr.1 hr.2)).1 (by rw[b1.free h hh];simp)
      exact⟨by simpa using fun e=>this (.inl e),fun e=>this (.inr e)⟩
     refine⟨qkI ih.bok ht8,fun u hu x h0 h1=>?_,fun r hr=>?_,?_,?_⟩
     ·rw[qmQ ih.bok ht8 b1.rng hu h0 h1,Bool.or_eq_true,ih.used u hu x h0 h1,decide_eq_true_eq,or_assoc]
      refine or_congr_right ?_
      constructor
      ·rintro(⟨r,hr,e1,e2⟩|⟨rfl,e2⟩)
       ·exact⟨r,List.mem_append_left _ hr,e1,e2⟩
       ·exact⟨⟨(k:Int)+1,(u:Int),hs⟩,List.mem_append_right _ (by simp),rfl,e2⟩
      ·rintro⟨r,hr,e1,e2⟩
       rcases List.mem_append.1 hr with h3|h3
       ·exact .inl ⟨r,h3,e1,e2⟩
       ·obtain rfl:r=⟨(k:Int)+1,(t:Int),hs⟩:=by simpa using h3
        exact .inr ⟨by simp only at e1;omega,e2⟩
     ·rcases List.mem_append.1 hr with h3|h3
      ·exact weak (ih.each r h3)
      ·obtain rfl:r=⟨(k:Int)+1,(t:Int),hs⟩:=by simpa using h3
       refine⟨by simp only;omega,by simp only;omega,?_,b2,b3⟩
       have e:((t:Int)).toNat=t:=by omega
       simp only[e]
       exact⟨b1.rng,b1.nd,fun h hh=>(hfree h hh).1,b1.pos,b1.root⟩
     ·rw[List.pairwise_append]
      refine⟨ih.apart,by simp,fun a ha b hb e x hx hx2=>?_⟩
      obtain rfl:b=⟨(k:Int)+1,(t:Int),hs⟩:=by simpa using hb
      obtain⟨h,hh,rfl⟩:=List.mem_map.1 hx2
      exact(hfree h hh).2 ⟨a,ha,e,hx⟩
     ·rw[qgW,if_neg hpn,List.map_append,ih.nets]
      rfl
theorem RtOk.len {c:Circ}{cells:List Cel}{place:List Int}{busy0:List (List Bool)}{k:Nat}{r:Rt}(h:RtOk c cells place busy0 k r):r.hops.length≤25:=qf7 h.tree
end Go.VL

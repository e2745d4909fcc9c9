/- Contracts: the reference's placement. Conditions: none; lemmas. -/
import Derived.Test.YtbnocdngcmimaaaC72
import Derived.Test.YtbnocdngcmimaaaC63
set_option maxRecDepth 20000
set_option linter.unusedVariables false
set_option linter.unusedSimpArgs false
namespace Go.Proofs
open Go Go.VL
theorem qgE {c:Circ}(hc:c.Valid) : ∀ x∈qdm c,x.inputs.length≤3:=by
 intro x hx
 rcases List.mem_append.1 hx with h|h
 ·obtain⟨i,hi,rfl⟩:=List.mem_map.1 h
  unfold qcA
  split <;> simp
 ·obtain⟨l,hl,rfl⟩:=List.mem_map.1 h
  obtain⟨m,hm,rfl⟩:=(qgY hc).each l hl
  exact(qeV hc hm).2.1
theorem Try.c_l7Cost (c:Circ) (hc:c.Valid) (cells:List Cel) (hcl:cells.length≤25) (hci : ∀ x∈cells,x.inputs.length≤3) (place:List Int) (hp:PlaceOk cells.length place) :
  Pure Try.prog 127 [dC c,dCes cells,dIs place] (dI (qfR c cells place)):=by
 have hf:=hc.first_bd
 have hv:=hc.vars_bd
 have hi0:=hc.i0
 have hi1:=hc.i1
 have hvv:c.vars=c.first+(c.gates.length:Int):=rfl
 have hfst:=Try.c_l1First c (by omega)
 have k3:scal (dI c.first):=by show InK .i64 _;rw[qae];omega
 have hcb:=qlG hc hp
 have hpb:=fun net=>qgZ hc hp (net:=net)
 refine qap (E:=Try.env 0) Try.tok rfl 1000 Try.func127 rfl rfl Try.ntmps127 (by simp) fun ok=>?_
 simp only[go_sem,seval] at ok
 simp only[go_sem,seval,Try.results127]
 repeat' first|assumption|(simp (disch:=first|assumption|omega|(simp;done)|(simp;omega)) only[qab,qad,List.take_of_length_le,qac,qaf,qag,qal,qam];try simp only[go_sem,seval,Try.results127])|(with_reducible refine And.intro ?_ ?_)|(with_reducible intro _)|(refine @Exists.intro I _ (I.d D.nil) ?_;simp only[go_sem,seval,Try.results127])|((with_reducible (show Region.lexB _ _=true));kernel_rfl)|((try rw[qae]);omega)
 refine qaB (E:=Try.env 0) Try.tok (σ:=Nat) (fun k=>[(0,.d (dC c)),(1,.d (dCes cells)),(2,.d (dIs place)),(3,.ptr 0 0),(7,.d (dI (qjc c cells place k))),(8,.d (dI ((k:Int)+1)))]) (fun _=>[.box [.d (dI c.inputs),.d (dIs c.next),.d (dPs c.gates),.d (dIs c.outs)]]) (fun k=>(k:Int)≤c.vars-1) (fun k=>c.vars.toNat-k) [] 1000 1000 ?_ ?_ ?_
 ·simp only[go_sem,seval]
 ·simp only[go_sem,seval]
  exact⟨0,by omega,rfl,rfl⟩
 ·intro k hk
  have hck:=hcb k
  have ek:(k:Int)+1=((k+1:Nat):Int):=by omega
  have hcs:qjc c cells place (k+1)=qjc c cells place k+qkU (qej c cells place ((k+1:Nat):Int)):=by rw[←ek];rfl
  have hdb:=qlF (hpb ((k+1:Nat):Int))
  by_cases hlt:(k:Int)<c.vars-1
  ·have h1:=Try.c_l7Pins c hc cells hcl hci place hp ((k+1:Nat):Int) (by omega)
   have h2:=Try.c_l7Dist _ (hpb ((k+1:Nat):Int))
   simp only[go_sem,seval,Try.results127]
   repeat' first|assumption|(simp (disch:=first|assumption|omega|(simp;done)|(simp;omega)) only[qab,qad,List.take_of_length_le,qac,qaf,qag,qal,qam];try simp only[go_sem,seval,Try.results127])|(with_reducible refine And.intro ?_ ?_)|(with_reducible intro _)|(refine qa7 (fun _=>⟨hfst,k3⟩) ?_;simp only[go_sem,seval,Try.results127])|(refine qaj h1 ?_;simp only[go_sem,seval,Try.results127])|(refine qaj h2 ?_;simp only[go_sem,seval,Try.results127])|(refine @Exists.intro I _ (I.d D.nil) ?_;simp only[go_sem,seval,Try.results127])|((with_reducible (show Region.lexB _ _=true));kernel_rfl)|((try rw[qae]);omega)
   exact⟨k+1,by omega,by omega,hcs.symm,rfl⟩
  ·simp only[go_sem,seval,Try.results127]
   repeat' first|assumption|(simp (disch:=first|assumption|omega|(simp;done)|(simp;omega)) only[qab,qad,List.take_of_length_le,qac,qaf,qag,qal,qam];try simp only[go_sem,seval,Try.results127])|(with_reducible refine And.intro ?_ ?_)|(with_reducible intro _)|(refine qa7 (fun _=>⟨hfst,k3⟩) ?_;simp only[go_sem,seval,Try.results127])|(refine @Exists.intro I _ (I.d D.nil) ?_;simp only[go_sem,seval,Try.results127])|((with_reducible (show Region.lexB _ _=true));kernel_rfl)|((try rw[qae]);omega)
   rw[qfR,show k=c.vars.toNat-1 by omega]
theorem Try.c_l7Try (place:List Int) (i:Nat) (tile:Int) (hi:i<place.length) (hl:place.length≤25):Pure Try.prog 128 [dIs place,dI i,dI tile] (dIs (tryP place i tile)):=by
 refine qap (E:=Try.env 0) Try.tok rfl 1000 Try.func128 rfl rfl Try.ntmps128 (by simp) fun ok=>?_
 simp only[go_sem,seval] at ok
 simp only[go_sem,seval,Try.results128]
 repeat' first|assumption|(simp (disch:=first|assumption|omega|(simp;done)|(simp;omega)) only[qab,qad,List.take_of_length_le,qac,qaf,qag,qal,qam];try simp only[go_sem,seval,Try.results128])|(with_reducible refine And.intro ?_ ?_)|(with_reducible intro _)|(refine @Exists.intro I _ (I.d D.nil) ?_;simp only[go_sem,seval,Try.results128])|((with_reducible (show Region.lexB _ _=true));kernel_rfl)|((try rw[qae]);omega)
 refine qaB (E:=Try.env 0) Try.tok (σ:=Nat×List Int) (fun s=>[(0,.d (dIs place)),(1,.d (dI i)),(2,.d (dI tile)),(7,.sl 0 1 1 0 place.length),(8,.d (dI s.1))]) (fun s=>[.row 1 1 true (s.2.map (D.int .i64))])
  (fun s=>s.1≤place.length∧s.2.length=place.length∧∀ j,j<place.length→s.2.getD j 0=if j<s.1∧place.getD j 0=tile then place.getD i 0 else place.getD j 0) (fun s=>place.length-s.1) [] 1000 1000 ?_ ?_ ?_
 ·simp only[go_sem,seval]
 ·simp only[go_sem,seval]
  exact⟨(0,place),⟨by simp,rfl,fun j hj=>by simp⟩,rfl,rfl⟩
 ·rintro⟨k,q⟩ ⟨hk,hql,hq⟩
  simp only at hk hql hq
  by_cases hkt:k<place.length
  ·have hqk:=hq k hkt
   rw[if_neg (by omega)] at hqk
   simp only[go_sem,seval,Try.results128]
   repeat' first|assumption|(simp (disch:=first|assumption|omega|(simp;done)|(simp;omega)) only[qab,qad,List.take_of_length_le,qac,qaf,qag,qal,qam];try simp only[go_sem,seval,Try.results128])|(with_reducible refine And.intro ?_ ?_)|(with_reducible intro _)|(refine @Exists.intro I _ (I.d D.nil) ?_;simp only[go_sem,seval,Try.results128])|((with_reducible (show Region.lexB _ _=true));kernel_rfl)|((try rw[qae]);omega)
   ·rename_i h9
    rw[hqk] at h9
    refine⟨(k+1,q.set k (place.getD i 0)),⟨by simp only;omega,by simp only[List.length_set];exact hql,fun j hj=>?_⟩,by simp only;omega,rfl,rfl⟩
    simp only
    rw[qfU (by omega),hq j hj]
    by_cases hjk:k=j
    ·subst hjk
     rw[if_pos rfl,if_pos ⟨by omega,h9⟩]
    ·rw[if_neg hjk]
     by_cases h2:j<k∧place.getD j 0=tile
     ·rw[if_pos h2,if_pos ⟨by omega,h2.2⟩]
     ·rw[if_neg h2,if_neg (fun h=>h2 ⟨by omega,h.2⟩)]
   ·rename_i h9
    rw[hqk] at h9
    refine⟨(k+1,q),⟨by simp only;omega,hql,fun j hj=>?_⟩,by simp only;omega,rfl,rfl⟩
    simp only
    rw[hq j hj]
    by_cases h2:j<k∧place.getD j 0=tile
    ·rw[if_pos h2,if_pos ⟨by omega,h2.2⟩]
    ·rw[if_neg h2,if_neg (fun h=>by
      by_cases hjk:j=k
      ·subst hjk;exact h9 h.2
      ·exact h2 ⟨by omega,h.2⟩)]
  ·have e:q.set i tile=tryP place i tile:=by
    refine qd2 0 (by rw[List.length_set,qg0,hql]) fun j hj=>?_
    rw[List.length_set,hql] at hj
    rw[qg1 hj,qfU (by omega),hq j hj]
    by_cases hji:j=i
    ·rw[if_pos hji.symm,if_pos hji]
    ·rw[if_neg (Ne.symm hji),if_neg hji]
     by_cases h2:place.getD j 0=tile
     ·rw[if_pos ⟨by omega,h2⟩,if_pos h2]
     ·rw[if_neg (fun h=>h2 h.2),if_neg h2]
   simp only[go_sem,seval,Try.results128]
   repeat' first|assumption|(simp (disch:=first|assumption|omega|(simp;done)|(simp;omega)) only[qab,qad,List.take_of_length_le,qac,qaf,qag,qal,qam];try simp only[go_sem,seval,Try.results128])|(with_reducible refine And.intro ?_ ?_)|(with_reducible intro _)|(refine @Exists.intro I _ (I.d D.nil) ?_;simp only[go_sem,seval,Try.results128])|((with_reducible (show Region.lexB _ _=true));kernel_rfl)|((try rw[qae]);omega)
theorem Try.c_l7Place (c:Circ) (hc:c.Valid) (cells:List Cel) (hcl:cells.length≤25) (hci : ∀ x∈cells,x.inputs.length≤3):PureF Try.prog 120 [dC c,dCes cells] (dIs (qiC c cells)):=by
 refine qdj (E:=Try.env 0) Try.tok rfl 1000 Try.func120 rfl rfl Try.ntmps120 (by simp) fun ok=>?_
 simp only[go_sem,seval] at ok
 simp only[go_sem,seval,Try.results120]
 repeat' first|assumption|(simp (disch:=first|assumption|omega|(simp;done)|(simp;omega)) only[qab,qad,List.take_of_length_le,qac,qaf,qag,qal,qam];try simp only[go_sem,seval,Try.results120])|(with_reducible refine And.intro ?_ ?_)|(with_reducible intro _)|(refine @Exists.intro I _ (I.d D.nil) ?_;simp only[go_sem,seval,Try.results120])|((with_reducible (show Region.lexB _ _=true));kernel_rfl)|((try rw[qae]);omega)
 refine qaw (E:=Try.env 0) Try.tok (σ:=Nat) (fun i=>[(0,.d (dC c)),(1,.d (dCes cells)),(2,.ptr 0 0),(5,.sl 1 i 1 0 i),(6,.d (dI i))]) (fun i=>[.box [.d (dI c.inputs),.d (dIs c.next),.d (dPs c.gates),.d (dIs c.outs)],.row i 1 true ((qek i).map (D.int .i64))]) (fun i=>i≤cells.length) (fun i=>cells.length-i) [] [] 1000 1000 ?_ ?_
 ·simp only[go_sem,seval]
  exact⟨0,by omega,by simp[qek]⟩
 ·intro i hi
  have hil:(qek i).length=i:=by simp[qek]
  have his:qek (i+1)=qek i ++ [(i:Int)]:=by rw[qek,List.range_succ,List.map_append];rfl
  by_cases hlt:i<cells.length
  ·generalize qek i=q at *
   simp only[go_sem,seval,Try.results120]
   repeat' first|assumption|(simp (disch:=first|assumption|omega|(simp;done)|(simp;omega)) only[qab,qad,List.take_of_length_le,qac,qaf,qag,qal,qam];try simp only[go_sem,seval,Try.results120,hil])|(with_reducible refine And.intro ?_ ?_)|(with_reducible intro _)|(refine @Exists.intro I _ (I.d D.nil) ?_;simp only[go_sem,seval,Try.results120,hil])|((with_reducible (show Region.lexB _ _=true));kernel_rfl)|((try rw[qae]);omega)
   refine⟨i+1,by omega,by omega,?_⟩
   rw[his]
   repeat' apply And.intro
   all_goals rfl
  ·obtain rfl:i=cells.length:=by omega
   have hpo:=qlH (n:=cells.length) (by omega)
   have hcost:=fun p (h:PlaceOk cells.length p)=>Try.c_l7Cost c hc cells hcl hci p h
   have hpd:qiC c cells=((List.range 3).foldl (qe7 c cells) (qek cells.length,qfR c cells (qek cells.length))).1:=rfl
   have hsw:=qhQ (c:=c) (cells:=cells) hcl
   generalize qek cells.length=P0 at *
   simp only[go_sem,seval,Try.results120]
   repeat' first|assumption|(simp (disch:=first|assumption|omega|(simp;done)|(simp;omega)) only[qab,qad,List.take_of_length_le,qac,qaf,qag,qal,qam];try simp only[go_sem,seval,Try.results120,hil])|(with_reducible refine And.intro ?_ ?_)|(with_reducible intro _)|(refine qaj (hcost _ hpo) ?_;simp only[go_sem,seval,Try.results120,hil])|(refine @Exists.intro I _ (I.d D.nil) ?_;simp only[go_sem,seval,Try.results120,hil])|((with_reducible (show Region.lexB _ _=true));kernel_rfl)|((try rw[qae]);omega)
   refine qaw (E:=Try.env 0) Try.tok (σ:=Nat) (fun s=>[(0,.d (dC c)),(1,.d (dCes cells)),(2,.ptr 0 0),(5,.d (dIs ((List.range s).foldl (qe7 c cells) (P0,qfR c cells P0)).1)),(7,.d (dI ((List.range s).foldl (qe7 c cells) (P0,qfR c cells P0)).2)),(8,.d (dI s))]) (fun s=>[.box [.d (dI c.inputs),.d (dIs c.next),.d (dPs c.gates),.d (dIs c.outs)]]) (fun s=>s≤3) (fun s=>3-s) [] [] 1000 1000 ?_ ?_
   ·simp only[go_sem,seval]
    refine⟨0,by omega,?_⟩
    simp[hil]
    exact List.take_of_length_le (by omega)
   ·intro s hs
    have hS:=hsw s
    have hS1:(List.range (s+1)).foldl (qe7 c cells) (P0,qfR c cells P0)=qe7 c cells ((List.range s).foldl (qe7 c cells) (P0,qfR c cells P0)) s:=qbk
    generalize hS9:(List.range s).foldl (qe7 c cells) (P0,qfR c cells P0)=S at *
    have hmid:=qhP (c:=c) hS
    have hSd:qe7 c cells S s=(List.range cells.length).foldl (rowP c cells) S:=rfl
    by_cases hst:s<3
    ·simp only[go_sem,seval,Try.results120]
     repeat' first|assumption|(simp (disch:=first|assumption|omega|(simp;done)|(simp;omega)) only[qab,qad,List.take_of_length_le,qac,qaf,qag,qal,qam];try simp only[go_sem,seval,Try.results120])|(with_reducible refine And.intro ?_ ?_)|(with_reducible intro _)|(refine @Exists.intro I _ (I.d D.nil) ?_;simp only[go_sem,seval,Try.results120])|((with_reducible (show Region.lexB _ _=true));kernel_rfl)|((try rw[qae]);omega)
     refine qaw (E:=Try.env 0) Try.tok (σ:=Nat) (fun i=>[(0,.d (dC c)),(1,.d (dCes cells)),(2,.ptr 0 0),(5,.d (dIs ((List.range i).foldl (rowP c cells) S).1)),(7,.d (dI ((List.range i).foldl (rowP c cells) S).2)),(8,.d (dI s)),(9,.d (dI i))]) (fun i=>[.box [.d (dI c.inputs),.d (dIs c.next),.d (dPs c.gates),.d (dIs c.outs)]]) (fun i=>i≤cells.length) (fun i=>cells.length-i) [] [] 1000 1000 ?_ ?_
     ·simp only[go_sem,seval]
      exact⟨0,by omega,by simp⟩
     ·intro i hi
      have hI:=hmid i hi
      have hI1:(List.range (i+1)).foldl (rowP c cells) S=rowP c cells ((List.range i).foldl (rowP c cells) S) i:=qbk
      by_cases hit:i<cells.length
      ·generalize (List.range i).foldl (rowP c cells) S=M at *
       have hin:=qkV (c:=c) hit hI
       have hId:rowP c cells M i=(List.range 25).foldl (qgT c cells i) M:=rfl
       simp only[go_sem,seval,Try.results120]
       repeat' first|assumption|(simp (disch:=first|assumption|omega|(simp;done)|(simp;omega)) only[qab,qad,List.take_of_length_le,qac,qaf,qag,qal,qam];try simp only[go_sem,seval,Try.results120])|(with_reducible refine And.intro ?_ ?_)|(with_reducible intro _)|(refine @Exists.intro I _ (I.d D.nil) ?_;simp only[go_sem,seval,Try.results120])|((with_reducible (show Region.lexB _ _=true));kernel_rfl)|((try rw[qae]);omega)
       refine qaw (E:=Try.env 0) Try.tok (σ:=Nat) (fun t=>[(0,.d (dC c)),(1,.d (dCes cells)),(2,.ptr 0 0),(5,.d (dIs ((List.range t).foldl (qgT c cells i) M).1)),(7,.d (dI ((List.range t).foldl (qgT c cells i) M).2)),(8,.d (dI s)),(9,.d (dI i)),(10,.d (dI t))]) (fun t=>[.box [.d (dI c.inputs),.d (dIs c.next),.d (dPs c.gates),.d (dIs c.outs)]]) (fun t=>t≤25) (fun t=>25-t) [] [] 1000 1000 ?_ ?_
       ·simp only[go_sem,seval]
        exact⟨0,by omega,by simp⟩
       ·intro t ht
        have hT:=hin t ht
        have hT1:(List.range (t+1)).foldl (qgT c cells i) M=qgT c cells i ((List.range t).foldl (qgT c cells i) M) t:=qbk
        by_cases htt:t<25
        ·generalize (List.range t).foldl (qgT c cells i) M=N at *
         obtain⟨p,k⟩:=N
         simp only at hT
         have hpl:=hT.len
         have htr:=Try.c_l7Try p i (t:Int) (by omega) (by omega)
         have hok:=hT.try_ hit (tile:=(t:Int)) (by omega)
         have hco:=hcost _ hok
         have hsd:qgT c cells i (p,k) t=if qfR c cells (tryP p i (t:Int))<k then(tryP p i (t:Int),qfR c cells (tryP p i (t:Int))) else(p,k):=rfl
         generalize tryP p i (t:Int)=nx at *
         simp only[go_sem,seval,Try.results120]
         repeat' first|assumption|(simp (disch:=first|assumption|omega|(simp;done)|(simp;omega)) only[qab,qad,List.take_of_length_le,qac,qaf,qag,qal,qam];try simp only[go_sem,seval,Try.results120])|(with_reducible refine And.intro ?_ ?_)|(with_reducible intro _)|(refine qaj htr ?_;simp only[go_sem,seval,Try.results120])|(refine qaj hco ?_;simp only[go_sem,seval,Try.results120])|(refine @Exists.intro I _ (I.d D.nil) ?_;simp only[go_sem,seval,Try.results120])|((with_reducible (show Region.lexB _ _=true));kernel_rfl)|((try rw[qae]);omega)
         ·rename_i h9
          refine⟨t+1,by omega,by omega,?_⟩
          rw[hT1,hsd,if_pos h9]
          exact⟨rfl,rfl,rfl⟩
         ·rename_i h9
          refine⟨t+1,by omega,by omega,?_⟩
          rw[hT1,hsd,if_neg h9]
          exact⟨rfl,rfl,rfl⟩
        ·obtain rfl:t=25:=by omega
         rw[←hId,←hI1]
         simp only[go_sem,seval,Try.results120]
         repeat' first|assumption|(simp (disch:=first|assumption|omega|(simp;done)|(simp;omega)) only[qab,qad,List.take_of_length_le,qac,qaf,qag,qal,qam];try simp only[go_sem,seval,Try.results120])|(with_reducible refine And.intro ?_ ?_)|(with_reducible intro _)|(refine @Exists.intro I _ (I.d D.nil) ?_;simp only[go_sem,seval,Try.results120])|((with_reducible (show Region.lexB _ _=true));kernel_rfl)|((try rw[qae]);omega)
         refine⟨i+1,by omega,by omega,?_⟩
         rw[List.range_succ]
         exact⟨rfl,rfl,rfl⟩
      ·obtain rfl:i=cells.length:=by omega
       rw[←hSd,←hS1]
       simp only[go_sem,seval,Try.results120]
       repeat' first|assumption|(simp (disch:=first|assumption|omega|(simp;done)|(simp;omega)) only[qab,qad,List.take_of_length_le,qac,qaf,qag,qal,qam];try simp only[go_sem,seval,Try.results120])|(with_reducible refine And.intro ?_ ?_)|(with_reducible intro _)|(refine @Exists.intro I _ (I.d D.nil) ?_;simp only[go_sem,seval,Try.results120])|((with_reducible (show Region.lexB _ _=true));kernel_rfl)|((try rw[qae]);omega)
       refine⟨s+1,by omega,by omega,?_⟩
       rw[List.range_succ]
       exact⟨rfl,rfl,rfl⟩
    ·obtain rfl:s=3:=by omega
     simp only[go_sem,seval,Try.results120]
     repeat' first|assumption|(simp (disch:=first|assumption|omega|(simp;done)|(simp;omega)) only[qab,qad,List.take_of_length_le,qac,qaf,qag,qal,qam];try simp only[go_sem,seval,Try.results120])|(with_reducible refine And.intro ?_ ?_)|(with_reducible intro _)|(refine @Exists.intro I _ (I.d D.nil) ?_;simp only[go_sem,seval,Try.results120])|((with_reducible (show Region.lexB _ _=true));kernel_rfl)|((try rw[qae]);omega)
     all_goals rw[hpd,←hS9]
end Go.Proofs

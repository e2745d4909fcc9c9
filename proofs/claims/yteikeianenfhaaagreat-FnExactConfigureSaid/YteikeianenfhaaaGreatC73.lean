/- Contracts: the reference's placement. Conditions: none; lemmas. -/
import Derived.Test.YteikeianenfhaaaGreatC72
import Derived.Test.YteikeianenfhaaaGreatC63
set_option maxRecDepth 20000
set_option linter.unusedVariables false
set_option linter.unusedSimpArgs false
set_option maxHeartbeats 2000000
namespace Go.Proofs
open Go Go.VL Tryz
theorem qlf {c:Circ}(hc:c.Valid) : ∀ x∈qac c,x.inputs.length<=3:=by
 intro x hx;rcases List.mem_append.1 hx with h|h
 ·obtain⟨i,hi,rfl⟩:=List.mem_map.1 h;unfold qaK;split <;> simp
 ·obtain⟨l,hl,rfl⟩:=List.mem_map.1 h;obtain⟨m,hm,rfl⟩:=(qcS hc).each l hl;exact(qcC hc hm).2.1
theorem Tryz.c_l7Cost (c:Circ) (hc:c.Valid) (cells:List Cel) (hcl:cells.length<=25) (hci : ∀ x∈cells,x.inputs.length<=3) (place:List Int) (hp:PlaceOk cells.length place) :
  Pure prog 138 [dC c,dCes cells,dIs place] (dI (qdm c cells place)):=by
 have hf:=hc.first_bd;have hv:=hc.vars_bd;have hi0:=hc.i0;have hi1:=hc.i1;have hvv:c.vars=c.first+(c.gates.length:Int):=rfl
 have hfst:=c_l1First c (by omega);have k3:scal (dI c.first):=by show InK .i64 _;rw[qaa];omega
 have hcb:=qm1 hc hp;have hpb:=fun net=>qgd hc hp (net:=net)
 refine qav func138 rfl ntmps138 fun ok=>?_
 simp only[go_sem,seval] at ok
 repeat' first|assumption|(simp (disch:=first|assumption|omega|(simp;done)|(simp;omega)) only[go_sem,seval,yaa])|(with_reducible first|apply And.intro|intro _)|exact lexT|((try rw[qaa]);omega)
 refine qaF (E:=env 0) tok (σ:=Nat) (fun k=>[(0,.d (dC c)),(1,.d (dCes cells)),(2,.d (dIs place)),(3,.ptr 0 0),(7,.d (dI (qgS c cells place k))),(8,.d (dI ((k:Int)+1)))]) (fun _=>[.box [.d (dI c.inputs),.d (dIs c.next),.d (dPs c.gates),.d (dIs c.outs)]]) (fun k=>(k:Int)<=c.vars-1) (fun k=>c.vars.toNat-k) [] 1000 1000 ?_ ?_ ?_
 ·simp only[go_sem,seval]
 ·simp only[go_sem,seval];exact⟨0,by omega,rfl,rfl⟩
 ·intro k hk;have hck:=hcb k;have ek:(k:Int)+1=((k+1:Nat):Int):=by omega
  have hcs:qgS c cells place (k+1)=qgS c cells place k+qeA (qdl c cells place ((k+1:Nat):Int)):=by rw[<-ek];rfl
  have hdb:=qkc (hpb ((k+1:Nat):Int));by_cases hlt:(k:Int)<c.vars-1
  ·have h1:=c_l7Pins c hc cells hcl hci place hp ((k+1:Nat):Int) (by omega);have h2:=c_l7Dist _ (hpb ((k+1:Nat):Int))
   repeat' first|assumption|(simp (disch:=first|assumption|omega|(simp;done)|(simp;omega)) only[go_sem,seval,yaa])|(with_reducible first|apply And.intro|intro _)|(refine qb7 (fun _=>⟨hfst,k3⟩) ?_)|(refine qad h1 ?_)|(refine qad h2 ?_)|exact lexT|((try rw[qaa]);omega)
   exact⟨k+1,by omega,by omega,hcs.symm,rfl⟩
  ·repeat' first|assumption|(simp (disch:=first|assumption|omega|(simp;done)|(simp;omega)) only[go_sem,seval,yaa])|(with_reducible first|apply And.intro|intro _)|(refine qb7 (fun _=>⟨hfst,k3⟩) ?_)|exact lexT|((try rw[qaa]);omega)
   rw[qdm,show k=c.vars.toNat-1 by omega]
theorem Tryz.c_l7Try (place:List Int) (i:Nat) (tile:Int) (hi:i<place.length) (hl:place.length<=25):Pure prog 139 [dIs place,dI i,dI tile] (dIs (tryP place i tile)):=by
 refine qav func139 rfl ntmps139 fun ok=>?_
 simp only[go_sem,seval] at ok
 repeat' first|assumption|(simp (disch:=first|assumption|omega|(simp;done)|(simp;omega)) only[go_sem,seval,yaa])|(with_reducible first|apply And.intro|intro _)|exact lexT|((try rw[qaa]);omega)
 refine qaF (E:=env 0) tok (σ:=Nat×List Int) (fun s=>[(0,.d (dIs place)),(1,.d (dI i)),(2,.d (dI tile)),(7,.sl 0 1 1 0 place.length),(8,.d (dI s.1))]) (fun s=>[.row 1 1 true (s.2.map (D.int .i64))])
  (fun s=>s.1<=place.length/\s.2.length=place.length/\∀ j,j<place.length->s.2.getD j 0=if j<s.1/\place.getD j 0=tile then place.getD i 0 else place.getD j 0) (fun s=>place.length-s.1) [] 1000 1000 ?_ ?_ ?_
 ·simp only[go_sem,seval]
 ·simp only[go_sem,seval];exact⟨(0,place),⟨by simp,rfl,fun j hj=>by simp⟩,rfl,rfl⟩
 ·rintro⟨k,q⟩ ⟨hk,hql,hq⟩;simp only at hk hql hq;by_cases hkt:k<place.length
  ·have hqk:=hq k hkt;rw[if_neg (by omega)] at hqk
   repeat' first|assumption|(simp (disch:=first|assumption|omega|(simp;done)|(simp;omega)) only[go_sem,seval,yaa])|(with_reducible first|apply And.intro|intro _)|exact lexT|((try rw[qaa]);omega)
   ·rename_i h9;rw[hqk] at h9;refine⟨(k+1,q.set k (place.getD i 0)),⟨by simp only;omega,by simp only[yar];exact hql,fun j hj=>?_⟩,by simp only;omega,rfl,rfl⟩;simp only;rw[qcm (by omega),hq j hj];by_cases hjk:k=j
    ·subst hjk;rw[if_pos rfl,if_pos ⟨by omega,h9⟩]
    ·rw[if_neg hjk];by_cases h2:j<k/\place.getD j 0=tile
     ·rw[if_pos h2,if_pos ⟨by omega,h2.2⟩]
     ·rw[if_neg h2,if_neg (fun h=>h2 ⟨by omega,h.2⟩)]
   ·rename_i h9;rw[hqk] at h9;refine⟨(k+1,q),⟨by simp only;omega,hql,fun j hj=>?_⟩,by simp only;omega,rfl,rfl⟩;simp only;rw[hq j hj];by_cases h2:j<k/\place.getD j 0=tile
    ·rw[if_pos h2,if_pos ⟨by omega,h2.2⟩]
    ·rw[if_neg h2,if_neg (fun h=>by
      by_cases hjk:j=k
      ·subst hjk;exact h9 h.2
      ·exact h2 ⟨by omega,h.2⟩)]
  ·have e:q.set i tile=tryP place i tile:=by
    refine qbD 0 (by rw[yar,qge,hql]) fun j hj=>?_
    rw[yar,hql] at hj;rw[qgf hj,qcm (by omega),hq j hj];by_cases hji:j=i
    ·rw[if_pos hji.symm,if_pos hji]
    ·rw[if_neg (Ne.symm hji),if_neg hji];by_cases h2:place.getD j 0=tile
     ·rw[if_pos ⟨by omega,h2⟩,if_pos h2]
     ·rw[if_neg (fun h=>h2 h.2),if_neg h2]
   repeat' first|assumption|(simp (disch:=first|assumption|omega|(simp;done)|(simp;omega)) only[go_sem,seval,yaa])|(with_reducible first|apply And.intro|intro _)|exact lexT|((try rw[qaa]);omega)
theorem Tryz.c_l7Place (c:Circ) (hc:c.Valid) (cells:List Cel) (hcl:cells.length<=25) (hci : ∀ x∈cells,x.inputs.length<=3):PureF prog 75 [dC c,dCes cells] (dIs (qb8 c cells)):=by
 refine qcA (E:=env 0) tok rfl 1000 func75 rfl rfl ntmps75 (by simp) fun ok=>?_
 simp only[go_sem,seval] at ok
 repeat' first|assumption|(simp (disch:=first|assumption|omega|(simp;done)|(simp;omega)) only[go_sem,seval,yaa])|(with_reducible first|apply And.intro|intro _)|exact lexT|((try rw[qaa]);omega)
 refine qai (E:=env 0) tok (σ:=Nat) (fun i=>[(0,.d (dC c)),(1,.d (dCes cells)),(2,.ptr 0 0),(5,.sl 1 i 1 0 i),(6,.d (dI i))]) (fun i=>[.box [.d (dI c.inputs),.d (dIs c.next),.d (dPs c.gates),.d (dIs c.outs)],.row i 1 true ((qcE i).map (D.int .i64))]) (fun i=>i<=cells.length) (fun i=>cells.length-i) [] [] 1000 1000 ?_ ?_
 ·simp only[go_sem,seval];exact⟨0,by omega,by simp[qcE]⟩
 ·intro i hi;have hil:(qcE i).length=i:=by simp[qcE]
  have his:qcE (i+1)=qcE i ++ [(i:Int)]:=by rw[qcE,yaT,yaB];rfl
  by_cases hlt:i<cells.length
  ·generalize qcE i=q at *
   simp only[go_sem,seval]
   repeat' first|assumption|(simp (disch:=first|assumption|omega|(simp;done)|(simp;omega)) only[go_sem,seval,hil,yaa])|(with_reducible first|apply And.intro|intro _)|exact lexT|((try rw[qaa]);omega)
   refine⟨i+1,by omega,by omega,?_⟩;rw[his]
   repeat' apply And.intro
   all_goals rfl
  ·obtain rfl:i=cells.length:=by omega
   have hpo:=qke (n:=cells.length) (by omega);have hcost:=fun p (h:PlaceOk cells.length p)=>c_l7Cost c hc cells hcl hci p h
   have hpd:qb8 c cells=((List.range 3).foldl (qcJ c cells) (qcE cells.length,qdm c cells (qcE cells.length))).1:=rfl;have hsw:=qgh (c:=c) (cells:=cells) hcl;generalize qcE cells.length=P0 at *
   simp only[go_sem,seval]
   repeat' first|assumption|(simp (disch:=first|assumption|omega|(simp;done)|(simp;omega)) only[go_sem,seval,hil,yaa])|(with_reducible first|apply And.intro|intro _)|(refine qad (hcost _ hpo) ?_)|exact lexT|((try rw[qaa]);omega)
   refine qai (E:=env 0) tok (σ:=Nat) (fun s=>[(0,.d (dC c)),(1,.d (dCes cells)),(2,.ptr 0 0),(5,.d (dIs ((List.range s).foldl (qcJ c cells) (P0,qdm c cells P0)).1)),(7,.d (dI ((List.range s).foldl (qcJ c cells) (P0,qdm c cells P0)).2)),(8,.d (dI s))]) (fun s=>[.box [.d (dI c.inputs),.d (dIs c.next),.d (dPs c.gates),.d (dIs c.outs)]]) (fun s=>s<=3) (fun s=>3-s) [] [] 1000 1000 ?_ ?_
   ·simp only[go_sem,seval];refine⟨0,by omega,?_⟩;simp[hil];exact yaa (by omega)
   ·intro s hs;have hS:=hsw s;have hS1:(List.range (s+1)).foldl (qcJ c cells) (P0,qdm c cells P0)=qcJ c cells ((List.range s).foldl (qcJ c cells) (P0,qdm c cells P0)) s:=qaR;generalize hS9:(List.range s).foldl (qcJ c cells) (P0,qdm c cells P0)=S at *
    have hmid:=qgg (c:=c) hS;have hSd:qcJ c cells S s=(List.range cells.length).foldl (rowP c cells) S:=rfl;by_cases hst:s<3
    ·repeat' first|assumption|(simp (disch:=first|assumption|omega|(simp;done)|(simp;omega)) only[go_sem,seval,yaa])|(with_reducible first|apply And.intro|intro _)|exact lexT|((try rw[qaa]);omega)
     refine qai (E:=env 0) tok (σ:=Nat) (fun i=>[(0,.d (dC c)),(1,.d (dCes cells)),(2,.ptr 0 0),(5,.d (dIs ((List.range i).foldl (rowP c cells) S).1)),(7,.d (dI ((List.range i).foldl (rowP c cells) S).2)),(8,.d (dI s)),(9,.d (dI i))]) (fun i=>[.box [.d (dI c.inputs),.d (dIs c.next),.d (dPs c.gates),.d (dIs c.outs)]]) (fun i=>i<=cells.length) (fun i=>cells.length-i) [] [] 1000 1000 ?_ ?_
     ·simp only[go_sem,seval];exact⟨0,by omega,by simp⟩
     ·intro i hi;have hI:=hmid i hi;have hI1:(List.range (i+1)).foldl (rowP c cells) S=rowP c cells ((List.range i).foldl (rowP c cells) S) i:=qaR;by_cases hit:i<cells.length
      ·generalize (List.range i).foldl (rowP c cells) S=M at *
       have hin:=qkd (c:=c) hit hI;have hId:rowP c cells M i=(List.range 25).foldl (qeg c cells i) M:=rfl
       repeat' first|assumption|(simp (disch:=first|assumption|omega|(simp;done)|(simp;omega)) only[go_sem,seval,yaa])|(with_reducible first|apply And.intro|intro _)|exact lexT|((try rw[qaa]);omega)
       refine qai (E:=env 0) tok (σ:=Nat) (fun t=>[(0,.d (dC c)),(1,.d (dCes cells)),(2,.ptr 0 0),(5,.d (dIs ((List.range t).foldl (qeg c cells i) M).1)),(7,.d (dI ((List.range t).foldl (qeg c cells i) M).2)),(8,.d (dI s)),(9,.d (dI i)),(10,.d (dI t))]) (fun t=>[.box [.d (dI c.inputs),.d (dIs c.next),.d (dPs c.gates),.d (dIs c.outs)]]) (fun t=>t<=25) (fun t=>25-t) [] [] 1000 1000 ?_ ?_
       ·simp only[go_sem,seval];exact⟨0,by omega,by simp⟩
       ·intro t ht;have hT:=hin t ht;have hT1:(List.range (t+1)).foldl (qeg c cells i) M=qeg c cells i ((List.range t).foldl (qeg c cells i) M) t:=qaR;by_cases htt:t<25
        ·generalize (List.range t).foldl (qeg c cells i) M=N at *
         obtain⟨p,k⟩:=N;simp only at hT;have hpl:=hT.len;have htr:=c_l7Try p i (t:Int) (by omega) (by omega);have hok:=hT.try_ hit (tile:=(t:Int)) (by omega);have hco:=hcost _ hok;have hsd:qeg c cells i (p,k) t=if qdm c cells (tryP p i (t:Int))<k then(tryP p i (t:Int),qdm c cells (tryP p i (t:Int))) else(p,k):=rfl
         generalize tryP p i (t:Int)=nx at *
         repeat' first|assumption|(simp (disch:=first|assumption|omega|(simp;done)|(simp;omega)) only[go_sem,seval,yaa])|(with_reducible first|apply And.intro|intro _)|(refine qad htr ?_)|(refine qad hco ?_)|exact lexT|((try rw[qaa]);omega)
         ·rename_i h9;refine⟨t+1,by omega,by omega,?_⟩;rw[hT1,hsd,if_pos h9];exact⟨rfl,rfl,rfl⟩
         ·rename_i h9;refine⟨t+1,by omega,by omega,?_⟩;rw[hT1,hsd,if_neg h9];exact⟨rfl,rfl,rfl⟩
        ·obtain rfl:t=25:=by omega
         rw[<-hId,<-hI1]
         repeat' first|assumption|(simp (disch:=first|assumption|omega|(simp;done)|(simp;omega)) only[go_sem,seval,yaa])|(with_reducible first|apply And.intro|intro _)|exact lexT|((try rw[qaa]);omega)
         refine⟨i+1,by omega,by omega,?_⟩;rw[yaT];exact⟨rfl,rfl,rfl⟩
      ·obtain rfl:i=cells.length:=by omega
       rw[<-hSd,<-hS1]
       repeat' first|assumption|(simp (disch:=first|assumption|omega|(simp;done)|(simp;omega)) only[go_sem,seval,yaa])|(with_reducible first|apply And.intro|intro _)|exact lexT|((try rw[qaa]);omega)
       refine⟨s+1,by omega,by omega,?_⟩;rw[yaT];exact⟨rfl,rfl,rfl⟩
    ·obtain rfl:s=3:=by omega
     repeat' first|assumption|(simp (disch:=first|assumption|omega|(simp;done)|(simp;omega)) only[go_sem,seval,yaa])|(with_reducible first|apply And.intro|intro _)|exact lexT|((try rw[qaa]);omega)
     all_goals rw[hpd,<-hS9]
end Go.Proofs

/- Contracts, plain definitions and lemmas. Conditions: none; lemmas. -/
import Derived.Test.YteikeianenfhaaaGreatD1
import Derived.Test.YteikeianenfhaaaGreatD3
import Derived.Test.YteikeianenfhaaaGreatC72
import Derived.Test.YteikeianenfhaaaGreatC64
set_option maxRecDepth 20000
set_option linter.unusedVariables false
set_option linter.unusedSimpArgs false
namespace Go.Proofs
open Go Go.VL
theorem qln {x:Cel}(h:x.inputs.Nodup) (net:Int) (i:Nat):qe8 x net i=if net∈x.inputs then [(i:Int)] else []:=by
 unfold qe8;have key : ∀ l:List Int,l.Nodup->(l.filter fun z=>decide (z=net)).length=if net∈l then 1 else 0:=by
  intro l;induction l with
  | nil=>exact fun _=>rfl
  | cons z l ih=>
   intro h;rw[List.nodup_cons] at h;have:=ih h.2;by_cases e:z=net
   ·subst e;rw[if_neg h.1] at this;simp only[List.filter_cons,decide_true,if_true,yae,this,yax,true_or]
   ·rw[List.filter_cons,if_neg (by simpa using e),this];have:net∈z::l↔net∈l:=by simp[Ne.symm e]
    simp only[this]
 have hk:=key _ h;generalize hl:(x.inputs.filter fun z=>decide (z=net))=l at *
 split
 ·rename_i hm;rw[if_pos hm] at hk;obtain⟨z,rfl⟩:=List.length_eq_one_iff.1 hk;rfl
 ·rename_i hm;rw[if_neg hm] at hk;rw[List.length_eq_zero_iff.1 hk];rfl
theorem qdV {cells:List Cel}(h : ∀ x∈cells,x.inputs.Nodup) (net:Int) : ∀ i,i<=cells.length->(qbc cells net i).length<=i
 | 0,_=>by simp[qbc]
 | i+1,hi=>by
  have ih:=qdV h net i (by omega);rw[qbc,qln (h _ (qal (by omega):cells.getD i ce0∈cells)),yag];split <;> simp <;> omega
abbrev dNi (n:Nin):D:=.agg [dI n.net,dI n.cell,dI n.tile,dIs n.sinks,dIs n.pads]
abbrev dNis (l:List Nin):D:=.lst 5 (l.map fun x=>dNi x)
theorem qar {l:List Nin}{i:Nat}{z:D}(h:i<l.length):(l.map fun x=>dNi x).getD i z=dNi (l.getD i nin0):=getD_lt _ _ _ _ _ h
theorem Tryz.c_padTile (o:Int) (h:0<=o/\o<=100):Pure Tryz.prog 148 [dI o] (dI (o*5+4)):=by
 refine qas (E:=Tryz.env 0) Tryz.tok rfl 1000 Tryz.func148 rfl rfl Tryz.ntmps148 (by simp) fun ok=>?_
 simp only[go_sem,seval] at ok;simp only[go_sem,seval]
 repeat' first|assumption|(simp (disch:=first|assumption|omega|(simp;done)|(simp;omega)) only[qaa,qac,yaa,qab,qae,qaf,qah,qai,qar];try simp only[go_sem,seval])|(with_reducible first|refine And.intro ?_ ?_|intro _)|((try rw[qad]);omega)
theorem Tryz.c_NetSinks (c:Circ) (hc:c.Valid) (net:Int):Pure Tryz.prog 186 [dC c,dI net] (dIs (qdi (qak c) net)):=by
 have hce:=Tryz.c_Cells c hc;have hcl:=qbS hc;have hin:=qdc hc;refine qas (E:=Tryz.env 0) Tryz.tok rfl 1000 Tryz.func186 rfl rfl Tryz.ntmps186 (by simp) fun ok=>?_
 simp only[go_sem,seval] at ok;simp only[go_sem,seval]
 repeat' first|assumption|(simp (disch:=first|assumption|omega|(simp;done)|(simp;omega)) only[qaa,qac,yaa,qab,qae,qaf,qah,qai,qar];try simp only[go_sem,seval])|(with_reducible first|refine And.intro ?_ ?_|intro _)|(refine qbK hce ?_;simp only[go_sem,seval])|((try rw[qad]);omega)
 have hsd:qdi (qak c) net=qbc (qak c) net (qak c).length:=rfl;rw[hsd];generalize qak c=cells at *
 refine qap (E:=Tryz.env 0) Tryz.tok (σ:=Nat) (fun i=>[(1,.d (dI net)),(5,.sl 1 (qbc cells net i).length 1 0 (qbc cells net i).length),(9,.d (dCes cells)),(10,.d (dI cells.length)),(11,.d (dI i))]) (fun i=>[.dead 0,.row (qbc cells net i).length 1 true ((qbc cells net i).map (D.int .i64))]) (fun i=>i<=cells.length) (fun i=>cells.length-i) [] [(5,1,true)] 1000 1000 ?_ ?_
 ·simp only[go_sem,seval];exact⟨0,by omega,by simp[qbc]⟩
 ·intro i hi;by_cases hlt:i<cells.length
  ·have hx:=hin _ (qal hlt:cells.getD i ce0∈cells);have hsn:qbc cells net (i+1)=qbc cells net i++qe8 (cells.getD i ce0) net i:=rfl;rw[qln hx.2.1] at hsn;have hql:=qdV (fun x hx=>(hin x hx).2.1) net i (by omega);have hct:=Tryz.c_ContainsJ (cells.getD i ce0).inputs net (by omega);generalize hx9:cells.getD i ce0=x at *
   generalize qbc cells net i=q at *
   simp only[go_sem,seval,hx9]
   repeat' first|assumption|(simp (disch:=first|assumption|omega|(simp;done)|(simp;omega)) only[qaa,qac,yaa,qab,qae,qaf,qah,qai,qar];try simp only[go_sem,seval,hx9])|(with_reducible first|refine And.intro ?_ ?_|intro _)|(refine qaj hct ?_;simp only[go_sem,seval,hx9])|((try rw[qad]);omega)
   ·rename_i h1;rw[if_pos h1] at hsn;refine⟨i+1,by omega,by omega,⟨?_,rfl⟩,?_,?_⟩ <;> rw[hsn] <;> simp
   ·rename_i h1;rw[if_neg h1,yaH] at hsn;refine⟨i+1,by omega,by omega,⟨?_,rfl⟩,?_,?_⟩ <;> rw[hsn]
  ·obtain rfl:i=cells.length:=by omega
   simp only[go_sem,seval]
   repeat' first|assumption|(simp (disch:=first|assumption|omega|(simp;done)|(simp;omega)) only[qaa,qac,yaa,qab,qae,qaf,qah,qai,qar];try simp only[go_sem,seval])|(with_reducible first|refine And.intro ?_ ?_|intro _)|((try rw[qad]);omega)
theorem Tryz.c_tiles (n:Nin) (place:List Int) (hs : ∀ i∈n.sinks,0<=i/\i<place.length) (hk:n.cell<place.length) (hl:n.sinks.length<=1000) (hl2:n.pads.length<=1000) (hp:place.length<=1000):Pure Tryz.prog 187 [dNi n,dIs place] (dIs (qa8 n place)):=by
 refine qas (E:=Tryz.env 0) Tryz.tok rfl 1000 Tryz.func187 rfl rfl Tryz.ntmps187 (by simp) fun ok=>?_
 simp only[go_sem,seval] at ok;simp only[go_sem,seval];have hT:qa8 n place=srcT n place::(n.sinks.map (qbJ place)++n.pads):=rfl;rw[hT]
 repeat' first|assumption|(simp (disch:=first|assumption|omega|(simp;done)|(simp;omega)) only[qaa,qac,yaa,qab,qae,qaf,qah,qai,qar];try simp only[go_sem,seval])|(with_reducible first|refine And.intro ?_ ?_|intro _)|((try rw[qad]);omega)
 ·rename_i h9;rw[show srcT n place=place.getD n.cell.toNat 0 from if_pos h9];generalize place.getD n.cell.toNat 0=s at *
  refine qap (E:=Tryz.env 0) Tryz.tok (σ:=Nat) (fun i=>[(1,.d (dIs place)),(2,.ptr 0 0),(5,.sl 1 i 1 0 (i+1)),(22,.d (dIs n.sinks)),(23,.d (dI n.sinks.length)),(24,.d (dI i))]) (fun i=>[.box [.d (dI n.net),.d (dI n.cell),.d (dI n.tile),.d (dIs n.sinks),.d (dIs n.pads)],.row i 1 true ((s::(n.sinks.take i).map (qbJ place)).map (D.int .i64))]) (fun i=>i<=n.sinks.length) (fun i=>n.sinks.length-i) [] [] 1000 1000 ?_ ?_
  ·simp only[go_sem,seval];exact⟨0,by omega,by simp⟩
  ·intro i hi;by_cases hlt:i<n.sinks.length
   ·have hts:(n.sinks.take (i+1)).map (qbJ place)=(n.sinks.take i).map (qbJ place) ++ [qbJ place (n.sinks.getD i 0)]:=qaV 0 hlt;have hb:=hs _ (qal hlt:n.sinks.getD i 0∈n.sinks);have hql:(s::(n.sinks.take i).map (qbJ place)).length=i+1:=by simp;omega
    have htd:qbJ place (n.sinks.getD i 0)=place.getD (n.sinks.getD i 0).toNat 0:=rfl;generalize hx9:n.sinks.getD i 0=x at *
    have hq2:s::(n.sinks.take (i+1)).map (qbJ place)=(s::(n.sinks.take i).map (qbJ place)) ++ [place.getD x.toNat 0]:=by rw[hts,htd];rfl
    generalize (s::(n.sinks.take i).map (qbJ place))=q at *
    simp only[go_sem,seval,hx9,hql]
    repeat' first|assumption|(simp (disch:=first|assumption|omega|(simp;done)|(simp;omega)) only[qaa,qac,yaa,qab,qae,qaf,qah,qai,qar];try simp only[go_sem,seval,hx9,hql])|(with_reducible first|refine And.intro ?_ ?_|intro _)|((try rw[qad]);omega)
    refine⟨i+1,by omega,by omega,rfl,rfl,?_⟩;rw[<-hq2];rfl
   ·obtain rfl:i=n.sinks.length:=by omega
    rw[yav];simp only[go_sem,seval]
    repeat' first|assumption|(simp (disch:=first|assumption|omega|(simp;done)|(simp;omega)) only[qaa,qac,yaa,qab,qae,qaf,qah,qai,qar];try simp only[go_sem,seval])|(with_reducible first|refine And.intro ?_ ?_|intro _)|((try rw[qad]);omega)
 ·rename_i h9;rw[show srcT n place=n.tile from if_neg h9];generalize n.tile=s at *
  refine qap (E:=Tryz.env 0) Tryz.tok (σ:=Nat) (fun i=>[(1,.d (dIs place)),(2,.ptr 0 0),(5,.sl 1 i 1 0 (i+1)),(22,.d (dIs n.sinks)),(23,.d (dI n.sinks.length)),(24,.d (dI i))]) (fun i=>[.box [.d (dI n.net),.d (dI n.cell),.d (dI s),.d (dIs n.sinks),.d (dIs n.pads)],.row i 1 true ((s::(n.sinks.take i).map (qbJ place)).map (D.int .i64))]) (fun i=>i<=n.sinks.length) (fun i=>n.sinks.length-i) [] [] 1000 1000 ?_ ?_
  ·simp only[go_sem,seval];exact⟨0,by omega,by simp⟩
  ·intro i hi;by_cases hlt:i<n.sinks.length
   ·have hts:(n.sinks.take (i+1)).map (qbJ place)=(n.sinks.take i).map (qbJ place) ++ [qbJ place (n.sinks.getD i 0)]:=qaV 0 hlt;have hb:=hs _ (qal hlt:n.sinks.getD i 0∈n.sinks);have hql:(s::(n.sinks.take i).map (qbJ place)).length=i+1:=by simp;omega
    have htd:qbJ place (n.sinks.getD i 0)=place.getD (n.sinks.getD i 0).toNat 0:=rfl;generalize hx9:n.sinks.getD i 0=x at *
    have hq2:s::(n.sinks.take (i+1)).map (qbJ place)=(s::(n.sinks.take i).map (qbJ place)) ++ [place.getD x.toNat 0]:=by rw[hts,htd];rfl
    generalize (s::(n.sinks.take i).map (qbJ place))=q at *
    simp only[go_sem,seval,hx9,hql]
    repeat' first|assumption|(simp (disch:=first|assumption|omega|(simp;done)|(simp;omega)) only[qaa,qac,yaa,qab,qae,qaf,qah,qai,qar];try simp only[go_sem,seval,hx9,hql])|(with_reducible first|refine And.intro ?_ ?_|intro _)|((try rw[qad]);omega)
    refine⟨i+1,by omega,by omega,rfl,rfl,?_⟩;rw[<-hq2];rfl
   ·obtain rfl:i=n.sinks.length:=by omega
    rw[yav];simp only[go_sem,seval]
    repeat' first|assumption|(simp (disch:=first|assumption|omega|(simp;done)|(simp;omega)) only[qaa,qac,yaa,qab,qae,qaf,qah,qai,qar];try simp only[go_sem,seval])|(with_reducible first|refine And.intro ?_ ?_|intro _)|((try rw[qad]);omega)
end Go.Proofs

set_option linter.unusedVariables false
set_option linter.unusedSimpArgs false
namespace Go.VL
theorem qpr {hops:List (Int×Int)}(hn:(qav hops).Nodup) {i j:Nat}(hi:i<hops.length) (hj:j<hops.length) (h:(hops.getD i (0,0)).1=(hops.getD j (0,0)).1):i=j:=by
 refine qel.1 hn i j (by simp[qav];omega) (by simp[qav];omega) ?_;have e : ∀ k,k<hops.length->(qav hops).getD k 0=(hops.getD k (0,0)).1:=fun k hk=>by simp[qav,List.getD,hk]
 rw[e i hi,e j hj,h]
theorem qiH {c:Circ}{cells:List Cel}{place:List Int} : ∀ k:Nat,(qen c cells place k).Nodup/\(∀ n∈qen c cells place k,1<=n/\n<=k)/\(qen c cells place k).length<=k
 | 0=>by simp[qen]
 | k+1=>by
  obtain⟨h1,h2,h3⟩:=qiH (c:=c) (cells:=cells) (place:=place) k;rw[qfR];split
  ·rw[yaH];exact⟨h1,fun n hn=>by have:=h2 n hn;omega,by omega⟩
  ·refine⟨?_,fun n hn=>?_,by simp;omega⟩
   ·rw[ybg];refine⟨h1,by simp,fun a ha b hb e=>?_⟩;obtain rfl:b=(k:Int)+1:=by simpa using hb
    have:=h2 a ha;omega
   ·rcases List.mem_append.1 hn with h|h
    ·have:=h2 n h;omega
    ·obtain rfl:n=(k:Int)+1:=by simpa using h
     omega
structure RtsOk (routes:List Rt):Prop where
 nd:(routes.map (·.net)).Nodup
 net : ∀ r∈routes,1<=r.net
 tree : ∀ r∈routes,∃ busy,TreeOk busy r.hops
 len:routes.length<=100
theorem RtsOk.hops {routes:List Rt}(h:RtsOk routes) : ∀ r∈routes,r.hops.length<=25:=fun r hr=>by
 obtain⟨b,hb⟩:=h.tree r hr;exact qdt hb
end Go.VL

set_option maxRecDepth 20000
set_option linter.unusedVariables false
set_option linter.unusedSimpArgs false
namespace Go.Proofs
open Go Go.VL
theorem qlo {c:Circ}(hc:c.Valid) : ∀ x∈qak c,x.inputs.length<=3:=by
 intro x hx;rcases List.mem_append.1 hx with h|h
 ·obtain⟨i,hi,rfl⟩:=List.mem_map.1 h;unfold qaP;split <;> simp
 ·obtain⟨l,hl,rfl⟩:=List.mem_map.1 h;obtain⟨m,hm,rfl⟩:=(qcX hc).each l hl;exact(qcI hc hm).2.1
theorem Tryz.c_l7Cost (c:Circ) (hc:c.Valid) (cells:List Cel) (hcl:cells.length<=25) (hci : ∀ x∈cells,x.inputs.length<=3) (place:List Int) (hp:PlaceOk cells.length place) :
  Pure Tryz.prog 138 [dC c,dCes cells,dIs place] (dI (qds c cells place)):=by
 have hf:=hc.first_bd;have hv:=hc.vars_bd;have hi0:=hc.i0;have hi1:=hc.i1;have hvv:c.vars=c.first+(c.gates.length:Int):=rfl
 have hfst:=Tryz.c_l1First c (by omega);have k3:scal (dI c.first):=by show InK .i64 _;rw[qad];omega
 have hcb:=qm2 hc hp;have hpb:=fun net=>qgj hc hp (net:=net)
 refine qas (E:=Tryz.env 0) Tryz.tok rfl 1000 Tryz.func138 rfl rfl Tryz.ntmps138 (by simp) fun ok=>?_
 simp only[go_sem,seval] at ok;simp only[go_sem,seval]
 repeat' first|assumption|(simp (disch:=first|assumption|omega|(simp;done)|(simp;omega)) only[qaa,qac,yaa,qab,qae,qaf,qah,qai];try simp only[go_sem,seval])|(with_reducible first|refine And.intro ?_ ?_|intro _)|((with_reducible (show Region.lexB _ _=true));kernel_rfl)|((try rw[qad]);omega)
 refine qaF (E:=Tryz.env 0) Tryz.tok (σ:=Nat) (fun k=>[(0,.d (dC c)),(1,.d (dCes cells)),(2,.d (dIs place)),(3,.ptr 0 0),(7,.d (dI (qg0 c cells place k))),(8,.d (dI ((k:Int)+1)))]) (fun _=>[.box [.d (dI c.inputs),.d (dIs c.next),.d (dPs c.gates),.d (dIs c.outs)]]) (fun k=>(k:Int)<=c.vars-1) (fun k=>c.vars.toNat-k) [] 1000 1000 ?_ ?_ ?_
 ·simp only[go_sem,seval]
 ·simp only[go_sem,seval];exact⟨0,by omega,rfl,rfl⟩
 ·intro k hk;have hck:=hcb k;have ek:(k:Int)+1=((k+1:Nat):Int):=by omega
  have hcs:qg0 c cells place (k+1)=qg0 c cells place k+qeE (qdr c cells place ((k+1:Nat):Int)):=by rw[<-ek];rfl
  have hdb:=qkk (hpb ((k+1:Nat):Int));by_cases hlt:(k:Int)<c.vars-1
  ·have h1:=Tryz.c_l7Pins c hc cells hcl hci place hp ((k+1:Nat):Int) (by omega);have h2:=Tryz.c_l7Dist _ (hpb ((k+1:Nat):Int));simp only[go_sem,seval]
   repeat' first|assumption|(simp (disch:=first|assumption|omega|(simp;done)|(simp;omega)) only[qaa,qac,yaa,qab,qae,qaf,qah,qai];try simp only[go_sem,seval])|(with_reducible first|refine And.intro ?_ ?_|intro _)|(refine qb6 (fun _=>⟨hfst,k3⟩) ?_;simp only[go_sem,seval])|(refine qaj h1 ?_;simp only[go_sem,seval])|(refine qaj h2 ?_;simp only[go_sem,seval])|((with_reducible (show Region.lexB _ _=true));kernel_rfl)|((try rw[qad]);omega)
   exact⟨k+1,by omega,by omega,hcs.symm,rfl⟩
  ·simp only[go_sem,seval]
   repeat' first|assumption|(simp (disch:=first|assumption|omega|(simp;done)|(simp;omega)) only[qaa,qac,yaa,qab,qae,qaf,qah,qai];try simp only[go_sem,seval])|(with_reducible first|refine And.intro ?_ ?_|intro _)|(refine qb6 (fun _=>⟨hfst,k3⟩) ?_;simp only[go_sem,seval])|((with_reducible (show Region.lexB _ _=true));kernel_rfl)|((try rw[qad]);omega)
   rw[qds,show k=c.vars.toNat-1 by omega]
theorem Tryz.c_l7Try (place:List Int) (i:Nat) (tile:Int) (hi:i<place.length) (hl:place.length<=25):Pure Tryz.prog 139 [dIs place,dI i,dI tile] (dIs (tryP place i tile)):=by
 refine qas (E:=Tryz.env 0) Tryz.tok rfl 1000 Tryz.func139 rfl rfl Tryz.ntmps139 (by simp) fun ok=>?_
 simp only[go_sem,seval] at ok;simp only[go_sem,seval]
 repeat' first|assumption|(simp (disch:=first|assumption|omega|(simp;done)|(simp;omega)) only[qaa,qac,yaa,qab,qae,qaf,qah,qai];try simp only[go_sem,seval])|(with_reducible first|refine And.intro ?_ ?_|intro _)|((with_reducible (show Region.lexB _ _=true));kernel_rfl)|((try rw[qad]);omega)
 refine qaF (E:=Tryz.env 0) Tryz.tok (σ:=Nat×List Int) (fun s=>[(0,.d (dIs place)),(1,.d (dI i)),(2,.d (dI tile)),(7,.sl 0 1 1 0 place.length),(8,.d (dI s.1))]) (fun s=>[.row 1 1 true (s.2.map (D.int .i64))])
  (fun s=>s.1<=place.length/\s.2.length=place.length/\∀ j,j<place.length->s.2.getD j 0=if j<s.1/\place.getD j 0=tile then place.getD i 0 else place.getD j 0) (fun s=>place.length-s.1) [] 1000 1000 ?_ ?_ ?_
 ·simp only[go_sem,seval]
 ·simp only[go_sem,seval];exact⟨(0,place),⟨by simp,rfl,fun j hj=>by simp⟩,rfl,rfl⟩
 ·rintro⟨k,q⟩ ⟨hk,hql,hq⟩;simp only at hk hql hq;by_cases hkt:k<place.length
  ·have hqk:=hq k hkt;rw[if_neg (by omega)] at hqk;simp only[go_sem,seval]
   repeat' first|assumption|(simp (disch:=first|assumption|omega|(simp;done)|(simp;omega)) only[qaa,qac,yaa,qab,qae,qaf,qah,qai];try simp only[go_sem,seval])|(with_reducible first|refine And.intro ?_ ?_|intro _)|((with_reducible (show Region.lexB _ _=true));kernel_rfl)|((try rw[qad]);omega)
   ·rename_i h9;rw[hqk] at h9;refine⟨(k+1,q.set k (place.getD i 0)),⟨by simp only;omega,by simp only[yar];exact hql,fun j hj=>?_⟩,by simp only;omega,rfl,rfl⟩;simp only;rw[qcs (by omega),hq j hj];by_cases hjk:k=j
    ·subst hjk;rw[if_pos rfl,if_pos ⟨by omega,h9⟩]
    ·rw[if_neg hjk];by_cases h2:j<k/\place.getD j 0=tile
     ·rw[if_pos h2,if_pos ⟨by omega,h2.2⟩]
     ·rw[if_neg h2,if_neg (fun h=>h2 ⟨by omega,h.2⟩)]
   ·rename_i h9;rw[hqk] at h9;refine⟨(k+1,q),⟨by simp only;omega,hql,fun j hj=>?_⟩,by simp only;omega,rfl,rfl⟩;simp only;rw[hq j hj];by_cases h2:j<k/\place.getD j 0=tile
    ·rw[if_pos h2,if_pos ⟨by omega,h2.2⟩]
    ·rw[if_neg h2,if_neg (fun h=>by
      by_cases hjk:j=k
      ·subst hjk;exact h9 h.2
      ·exact h2 ⟨by omega,h.2⟩)]
  ·have e:q.set i tile=tryP place i tile:=by
    refine qbz 0 (by rw[yar,qgk,hql]) fun j hj=>?_
    rw[yar,hql] at hj;rw[qgl hj,qcs (by omega),hq j hj];by_cases hji:j=i
    ·rw[if_pos hji.symm,if_pos hji]
    ·rw[if_neg (Ne.symm hji),if_neg hji];by_cases h2:place.getD j 0=tile
     ·rw[if_pos ⟨by omega,h2⟩,if_pos h2]
     ·rw[if_neg (fun h=>h2 h.2),if_neg h2]
   simp only[go_sem,seval]
   repeat' first|assumption|(simp (disch:=first|assumption|omega|(simp;done)|(simp;omega)) only[qaa,qac,yaa,qab,qae,qaf,qah,qai];try simp only[go_sem,seval])|(with_reducible first|refine And.intro ?_ ?_|intro _)|((with_reducible (show Region.lexB _ _=true));kernel_rfl)|((try rw[qad]);omega)
theorem Tryz.c_l7Place (c:Circ) (hc:c.Valid) (cells:List Cel) (hcl:cells.length<=25) (hci : ∀ x∈cells,x.inputs.length<=3):PureF Tryz.prog 75 [dC c,dCes cells] (dIs (qb9 c cells)):=by
 refine qcG (E:=Tryz.env 0) Tryz.tok rfl 1000 Tryz.func75 rfl rfl Tryz.ntmps75 (by simp) fun ok=>?_
 simp only[go_sem,seval] at ok;simp only[go_sem,seval]
 repeat' first|assumption|(simp (disch:=first|assumption|omega|(simp;done)|(simp;omega)) only[qaa,qac,yaa,qab,qae,qaf,qah,qai];try simp only[go_sem,seval])|(with_reducible first|refine And.intro ?_ ?_|intro _)|((with_reducible (show Region.lexB _ _=true));kernel_rfl)|((try rw[qad]);omega)
 refine qap (E:=Tryz.env 0) Tryz.tok (σ:=Nat) (fun i=>[(0,.d (dC c)),(1,.d (dCes cells)),(2,.ptr 0 0),(5,.sl 1 i 1 0 i),(6,.d (dI i))]) (fun i=>[.box [.d (dI c.inputs),.d (dIs c.next),.d (dPs c.gates),.d (dIs c.outs)],.row i 1 true ((qcK i).map (D.int .i64))]) (fun i=>i<=cells.length) (fun i=>cells.length-i) [] [] 1000 1000 ?_ ?_
 ·simp only[go_sem,seval];exact⟨0,by omega,by simp[qcK]⟩
 ·intro i hi;have hil:(qcK i).length=i:=by simp[qcK]
  have his:qcK (i+1)=qcK i ++ [(i:Int)]:=by rw[qcK,yaT,yaC];rfl
  by_cases hlt:i<cells.length
  ·generalize qcK i=q at *
   simp only[go_sem,seval]
   repeat' first|assumption|(simp (disch:=first|assumption|omega|(simp;done)|(simp;omega)) only[qaa,qac,yaa,qab,qae,qaf,qah,qai];try simp only[go_sem,seval,hil])|(with_reducible first|refine And.intro ?_ ?_|intro _)|((with_reducible (show Region.lexB _ _=true));kernel_rfl)|((try rw[qad]);omega)
   refine⟨i+1,by omega,by omega,?_⟩;rw[his]
   repeat' apply And.intro
   all_goals rfl
  ·obtain rfl:i=cells.length:=by omega
   have hpo:=qkm (n:=cells.length) (by omega);have hcost:=fun p (h:PlaceOk cells.length p)=>Tryz.c_l7Cost c hc cells hcl hci p h
   have hpd:qb9 c cells=((List.range 3).foldl (qcP c cells) (qcK cells.length,qds c cells (qcK cells.length))).1:=rfl;have hsw:=qgn (c:=c) (cells:=cells) hcl;generalize qcK cells.length=P0 at *
   simp only[go_sem,seval]
   repeat' first|assumption|(simp (disch:=first|assumption|omega|(simp;done)|(simp;omega)) only[qaa,qac,yaa,qab,qae,qaf,qah,qai];try simp only[go_sem,seval,hil])|(with_reducible first|refine And.intro ?_ ?_|intro _)|(refine qaj (hcost _ hpo) ?_;simp only[go_sem,seval,hil])|((with_reducible (show Region.lexB _ _=true));kernel_rfl)|((try rw[qad]);omega)
   refine qap (E:=Tryz.env 0) Tryz.tok (σ:=Nat) (fun s=>[(0,.d (dC c)),(1,.d (dCes cells)),(2,.ptr 0 0),(5,.d (dIs ((List.range s).foldl (qcP c cells) (P0,qds c cells P0)).1)),(7,.d (dI ((List.range s).foldl (qcP c cells) (P0,qds c cells P0)).2)),(8,.d (dI s))]) (fun s=>[.box [.d (dI c.inputs),.d (dIs c.next),.d (dPs c.gates),.d (dIs c.outs)]]) (fun s=>s<=3) (fun s=>3-s) [] [] 1000 1000 ?_ ?_
   ·simp only[go_sem,seval];refine⟨0,by omega,?_⟩;simp[hil];exact yaa (by omega)
   ·intro s hs;have hS:=hsw s;have hS1:(List.range (s+1)).foldl (qcP c cells) (P0,qds c cells P0)=qcP c cells ((List.range s).foldl (qcP c cells) (P0,qds c cells P0)) s:=qaW;generalize hS9:(List.range s).foldl (qcP c cells) (P0,qds c cells P0)=S at *
    have hmid:=qgm (c:=c) hS;have hSd:qcP c cells S s=(List.range cells.length).foldl (rowP c cells) S:=rfl;by_cases hst:s<3
    ·simp only[go_sem,seval]
     repeat' first|assumption|(simp (disch:=first|assumption|omega|(simp;done)|(simp;omega)) only[qaa,qac,yaa,qab,qae,qaf,qah,qai];try simp only[go_sem,seval])|(with_reducible first|refine And.intro ?_ ?_|intro _)|((with_reducible (show Region.lexB _ _=true));kernel_rfl)|((try rw[qad]);omega)
     refine qap (E:=Tryz.env 0) Tryz.tok (σ:=Nat) (fun i=>[(0,.d (dC c)),(1,.d (dCes cells)),(2,.ptr 0 0),(5,.d (dIs ((List.range i).foldl (rowP c cells) S).1)),(7,.d (dI ((List.range i).foldl (rowP c cells) S).2)),(8,.d (dI s)),(9,.d (dI i))]) (fun i=>[.box [.d (dI c.inputs),.d (dIs c.next),.d (dPs c.gates),.d (dIs c.outs)]]) (fun i=>i<=cells.length) (fun i=>cells.length-i) [] [] 1000 1000 ?_ ?_
     ·simp only[go_sem,seval];exact⟨0,by omega,by simp⟩
     ·intro i hi;have hI:=hmid i hi;have hI1:(List.range (i+1)).foldl (rowP c cells) S=rowP c cells ((List.range i).foldl (rowP c cells) S) i:=qaW;by_cases hit:i<cells.length
      ·generalize (List.range i).foldl (rowP c cells) S=M at *
       have hin:=qkl (c:=c) hit hI;have hId:rowP c cells M i=(List.range 25).foldl (qem c cells i) M:=rfl;simp only[go_sem,seval]
       repeat' first|assumption|(simp (disch:=first|assumption|omega|(simp;done)|(simp;omega)) only[qaa,qac,yaa,qab,qae,qaf,qah,qai];try simp only[go_sem,seval])|(with_reducible first|refine And.intro ?_ ?_|intro _)|((with_reducible (show Region.lexB _ _=true));kernel_rfl)|((try rw[qad]);omega)
       refine qap (E:=Tryz.env 0) Tryz.tok (σ:=Nat) (fun t=>[(0,.d (dC c)),(1,.d (dCes cells)),(2,.ptr 0 0),(5,.d (dIs ((List.range t).foldl (qem c cells i) M).1)),(7,.d (dI ((List.range t).foldl (qem c cells i) M).2)),(8,.d (dI s)),(9,.d (dI i)),(10,.d (dI t))]) (fun t=>[.box [.d (dI c.inputs),.d (dIs c.next),.d (dPs c.gates),.d (dIs c.outs)]]) (fun t=>t<=25) (fun t=>25-t) [] [] 1000 1000 ?_ ?_
       ·simp only[go_sem,seval];exact⟨0,by omega,by simp⟩
       ·intro t ht;have hT:=hin t ht;have hT1:(List.range (t+1)).foldl (qem c cells i) M=qem c cells i ((List.range t).foldl (qem c cells i) M) t:=qaW;by_cases htt:t<25
        ·generalize (List.range t).foldl (qem c cells i) M=N at *
         obtain⟨p,k⟩:=N;simp only at hT;have hpl:=hT.len;have htr:=Tryz.c_l7Try p i (t:Int) (by omega) (by omega);have hok:=hT.try_ hit (tile:=(t:Int)) (by omega);have hco:=hcost _ hok;have hsd:qem c cells i (p,k) t=if qds c cells (tryP p i (t:Int))<k then(tryP p i (t:Int),qds c cells (tryP p i (t:Int))) else(p,k):=rfl
         generalize tryP p i (t:Int)=nx at *
         simp only[go_sem,seval]
         repeat' first|assumption|(simp (disch:=first|assumption|omega|(simp;done)|(simp;omega)) only[qaa,qac,yaa,qab,qae,qaf,qah,qai];try simp only[go_sem,seval])|(with_reducible first|refine And.intro ?_ ?_|intro _)|(refine qaj htr ?_;simp only[go_sem,seval])|(refine qaj hco ?_;simp only[go_sem,seval])|((with_reducible (show Region.lexB _ _=true));kernel_rfl)|((try rw[qad]);omega)
         ·rename_i h9;refine⟨t+1,by omega,by omega,?_⟩;rw[hT1,hsd,if_pos h9];exact⟨rfl,rfl,rfl⟩
         ·rename_i h9;refine⟨t+1,by omega,by omega,?_⟩;rw[hT1,hsd,if_neg h9];exact⟨rfl,rfl,rfl⟩
        ·obtain rfl:t=25:=by omega
         rw[<-hId,<-hI1];simp only[go_sem,seval]
         repeat' first|assumption|(simp (disch:=first|assumption|omega|(simp;done)|(simp;omega)) only[qaa,qac,yaa,qab,qae,qaf,qah,qai];try simp only[go_sem,seval])|(with_reducible first|refine And.intro ?_ ?_|intro _)|((with_reducible (show Region.lexB _ _=true));kernel_rfl)|((try rw[qad]);omega)
         refine⟨i+1,by omega,by omega,?_⟩;rw[yaT];exact⟨rfl,rfl,rfl⟩
      ·obtain rfl:i=cells.length:=by omega
       rw[<-hSd,<-hS1];simp only[go_sem,seval]
       repeat' first|assumption|(simp (disch:=first|assumption|omega|(simp;done)|(simp;omega)) only[qaa,qac,yaa,qab,qae,qaf,qah,qai];try simp only[go_sem,seval])|(with_reducible first|refine And.intro ?_ ?_|intro _)|((with_reducible (show Region.lexB _ _=true));kernel_rfl)|((try rw[qad]);omega)
       refine⟨s+1,by omega,by omega,?_⟩;rw[yaT];exact⟨rfl,rfl,rfl⟩
    ·obtain rfl:s=3:=by omega
     simp only[go_sem,seval]
     repeat' first|assumption|(simp (disch:=first|assumption|omega|(simp;done)|(simp;omega)) only[qaa,qac,yaa,qab,qae,qaf,qah,qai];try simp only[go_sem,seval])|(with_reducible first|refine And.intro ?_ ?_|intro _)|((with_reducible (show Region.lexB _ _=true));kernel_rfl)|((try rw[qad]);omega)
     all_goals rw[hpd,<-hS9]
end Go.Proofs

/- Contracts, plain definitions and lemmas. Conditions: none; lemmas. -/
import Derived.Test.YtoanmdnkgjdinaaGreatD1
import Derived.Test.YtoanmdnkgjdinaaGreatD3
import Derived.Test.YtoanmdnkgjdinaaGreatC60
set_option maxRecDepth 20000
set_option linter.unusedVariables false
set_option linter.unusedSimpArgs false
namespace Go.Proofs
open Go Go.VL
theorem qkq {x:Cel}(h:x.inputs.Nodup) (net:Int) (i:Nat):qeG x net i=if net∈x.inputs then [(i:Int)] else []:=by
 unfold qeG
 have key : ∀ l:List Int,l.Nodup→(l.filter fun z=>decide (z=net)).length=if net∈l then 1 else 0:=by
  intro l
  induction l with
  | nil=>exact fun _=>rfl
  | cons z l ih=>
   intro h
   rw[List.nodup_cons] at h
   have:=ih h.2
   by_cases e:z=net
   ·subst e
    rw[if_neg h.1] at this
    simp only[List.filter_cons,decide_true,if_true,List.length_cons,this,List.mem_cons,true_or]
   ·rw[List.filter_cons,if_neg (by simpa using e),this]
    have:net∈z::l↔net∈l:=by simp[Ne.symm e]
    simp only[this]
 have hk:=key _ h
 generalize hl:(x.inputs.filter fun z=>decide (z=net))=l at *
 split
 ·rename_i hm
  rw[if_pos hm] at hk
  obtain⟨z,rfl⟩:=List.length_eq_one_iff.1 hk
  rfl
 ·rename_i hm
  rw[if_neg hm] at hk
  rw[List.length_eq_zero_iff.1 hk]
  rfl
theorem qdr {cells:List Cel}(h : ∀ x∈cells,x.inputs.Nodup) (net:Int) : ∀ i,i≤cells.length→(qaZ cells net i).length≤i
 | 0,_=>by simp[qaZ]
 | i+1,hi=>by
  have ih:=qdr h net i (by omega)
  rw[qaZ,qkq (h _ (qak (by omega):cells.getD i ce0∈cells)),List.length_append]
  split <;> simp <;> omega
abbrev dNi (n:Nin):D:=.agg [dI n.net,dI n.cell,dI n.tile,dIs n.sinks,dIs n.pads]
abbrev dNis (l:List Nin):D:=.lst 5 (l.map fun x=>dNi x)
theorem qao {l:List Nin}{i:Nat}{z:D}(h:i<l.length):(l.map fun x=>dNi x).getD i z=dNi (l.getD i nin0):=getD_lt _ _ _ _ _ h
theorem Tryz.c_padTile (o:Int) (h:0≤o∧o≤100):Pure Tryz.prog 85 [dI o] (dI (o*5+4)):=by
 refine qam (E:=Tryz.env 0) Tryz.tok rfl 1000 Tryz.func85 rfl rfl Tryz.ntmps85 (by simp) fun ok=>?_
 simp only[go_sem,seval] at ok
 simp only[go_sem,seval,Tryz.results85]
 repeat' first|assumption|(simp (disch:=first|assumption|omega|(simp;done)|(simp;omega)) only[qaa,qac,List.take_of_length_le,qab,qae,qaf,qag,qah,qao];try simp only[go_sem,seval,Tryz.results85])|(with_reducible refine And.intro ?_ ?_)|(with_reducible intro _)|((try rw[qad]);omega)
theorem Tryz.c_NetSinks (c:Circ) (hc:c.Valid) (net:Int):Pure Tryz.prog 84 [dC c,dI net] (dIs (qcU (qan c) net)):=by
 have hce:=Tryz.c_Cells c hc
 have hcl:=qb4 hc
 have hin:=qdi hc
 refine qam (E:=Tryz.env 0) Tryz.tok rfl 1000 Tryz.func84 rfl rfl Tryz.ntmps84 (by simp) fun ok=>?_
 simp only[go_sem,seval] at ok
 simp only[go_sem,seval,Tryz.results84]
 repeat' first|assumption|(simp (disch:=first|assumption|omega|(simp;done)|(simp;omega)) only[qaa,qac,List.take_of_length_le,qab,qae,qaf,qag,qah,qao];try simp only[go_sem,seval,Tryz.results84])|(with_reducible refine And.intro ?_ ?_)|(with_reducible intro _)|(refine qbt hce ?_;simp only[go_sem,seval,Tryz.results84])|((try rw[qad]);omega)
 have hsd:qcU (qan c) net=qaZ (qan c) net (qan c).length:=rfl
 rw[hsd]
 generalize qan c=cells at *
 refine qaq (E:=Tryz.env 0) Tryz.tok (σ:=Nat) (fun i=>[(1,.d (dI net)),(5,.sl 1 (qaZ cells net i).length 1 0 (qaZ cells net i).length),(9,.d (dCes cells)),(10,.d (dI cells.length)),(11,.d (dI i))]) (fun i=>[.dead 0,.row (qaZ cells net i).length 1 true ((qaZ cells net i).map (D.int .i64))]) (fun i=>i≤cells.length) (fun i=>cells.length-i) [] [(5,1,true)] 1000 1000 ?_ ?_
 ·simp only[go_sem,seval]
  exact⟨0,by omega,by simp[qaZ]⟩
 ·intro i hi
  by_cases hlt:i<cells.length
  ·have hx:=hin _ (qak hlt:cells.getD i ce0∈cells)
   have hsn:qaZ cells net (i+1)=qaZ cells net i++qeG (cells.getD i ce0) net i:=rfl
   rw[qkq hx.2.1] at hsn
   have hql:=qdr (fun x hx=>(hin x hx).2.1) net i (by omega)
   have hct:=Tryz.c_Contains (cells.getD i ce0).inputs net (by omega)
   generalize hx9:cells.getD i ce0=x at *
   generalize qaZ cells net i=q at *
   simp only[go_sem,seval,Tryz.results84,hx9]
   repeat' first|assumption|(simp (disch:=first|assumption|omega|(simp;done)|(simp;omega)) only[qaa,qac,List.take_of_length_le,qab,qae,qaf,qag,qah,qao];try simp only[go_sem,seval,Tryz.results84,hx9])|(with_reducible refine And.intro ?_ ?_)|(with_reducible intro _)|(refine qai hct ?_;simp only[go_sem,seval,Tryz.results84,hx9])|((try rw[qad]);omega)
   ·rename_i h1
    rw[if_pos h1] at hsn
    refine⟨i+1,by omega,by omega,⟨?_,rfl⟩,?_,?_⟩ <;> rw[hsn] <;> simp
   ·rename_i h1
    rw[if_neg h1,List.append_nil] at hsn
    refine⟨i+1,by omega,by omega,⟨?_,rfl⟩,?_,?_⟩ <;> rw[hsn]
  ·obtain rfl:i=cells.length:=by omega
   simp only[go_sem,seval,Tryz.results84]
   repeat' first|assumption|(simp (disch:=first|assumption|omega|(simp;done)|(simp;omega)) only[qaa,qac,List.take_of_length_le,qab,qae,qaf,qag,qah,qao];try simp only[go_sem,seval,Tryz.results84])|(with_reducible refine And.intro ?_ ?_)|(with_reducible intro _)|((try rw[qad]);omega)
theorem Tryz.c_tiles (n:Nin) (place:List Int) (hs : ∀ i∈n.sinks,0≤i∧i<place.length) (hk:n.cell<place.length) (hl:n.sinks.length≤1000) (hl2:n.pads.length≤1000) (hp:place.length≤1000):Pure Tryz.prog 86 [dNi n,dIs place] (dIs (qce n place)):=by
 refine qam (E:=Tryz.env 0) Tryz.tok rfl 1000 Tryz.func86 rfl rfl Tryz.ntmps86 (by simp) fun ok=>?_
 simp only[go_sem,seval] at ok
 simp only[go_sem,seval,Tryz.results86]
 have hT:qce n place=srcT n place::(n.sinks.map (qbz place)++n.pads):=rfl
 rw[hT]
 repeat' first|assumption|(simp (disch:=first|assumption|omega|(simp;done)|(simp;omega)) only[qaa,qac,List.take_of_length_le,qab,qae,qaf,qag,qah,qao];try simp only[go_sem,seval,Tryz.results86])|(with_reducible refine And.intro ?_ ?_)|(with_reducible intro _)|((try rw[qad]);omega)
 ·rename_i h9
  rw[show srcT n place=place.getD n.cell.toNat 0 from if_pos h9]
  generalize place.getD n.cell.toNat 0=s at *
  refine qaq (E:=Tryz.env 0) Tryz.tok (σ:=Nat) (fun i=>[(1,.d (dIs place)),(2,.ptr 0 0),(5,.sl 1 i 1 0 (i+1)),(22,.d (dIs n.sinks)),(23,.d (dI n.sinks.length)),(24,.d (dI i))]) (fun i=>[.box [.d (dI n.net),.d (dI n.cell),.d (dI n.tile),.d (dIs n.sinks),.d (dIs n.pads)],.row i 1 true ((s::(n.sinks.take i).map (qbz place)).map (D.int .i64))]) (fun i=>i≤n.sinks.length) (fun i=>n.sinks.length-i) [] [] 1000 1000 ?_ ?_
  ·simp only[go_sem,seval]
   exact⟨0,by omega,by simp⟩
  ·intro i hi
   by_cases hlt:i<n.sinks.length
   ·have hts:(n.sinks.take (i+1)).map (qbz place)=(n.sinks.take i).map (qbz place) ++ [qbz place (n.sinks.getD i 0)]:=qaV 0 hlt
    have hb:=hs _ (qak hlt:n.sinks.getD i 0∈n.sinks)
    have hql:(s::(n.sinks.take i).map (qbz place)).length=i+1:=by simp;omega
    have htd:qbz place (n.sinks.getD i 0)=place.getD (n.sinks.getD i 0).toNat 0:=rfl
    generalize hx9:n.sinks.getD i 0=x at *
    have hq2:s::(n.sinks.take (i+1)).map (qbz place)=(s::(n.sinks.take i).map (qbz place)) ++ [place.getD x.toNat 0]:=by rw[hts,htd];rfl
    generalize (s::(n.sinks.take i).map (qbz place))=q at *
    simp only[go_sem,seval,Tryz.results86,hx9,hql]
    repeat' first|assumption|(simp (disch:=first|assumption|omega|(simp;done)|(simp;omega)) only[qaa,qac,List.take_of_length_le,qab,qae,qaf,qag,qah,qao];try simp only[go_sem,seval,Tryz.results86,hx9,hql])|(with_reducible refine And.intro ?_ ?_)|(with_reducible intro _)|((try rw[qad]);omega)
    refine⟨i+1,by omega,by omega,rfl,rfl,?_⟩
    rw[←hq2]
    rfl
   ·obtain rfl:i=n.sinks.length:=by omega
    rw[List.take_length]
    simp only[go_sem,seval,Tryz.results86]
    repeat' first|assumption|(simp (disch:=first|assumption|omega|(simp;done)|(simp;omega)) only[qaa,qac,List.take_of_length_le,qab,qae,qaf,qag,qah,qao];try simp only[go_sem,seval,Tryz.results86])|(with_reducible refine And.intro ?_ ?_)|(with_reducible intro _)|((try rw[qad]);omega)
 ·rename_i h9
  rw[show srcT n place=n.tile from if_neg h9]
  generalize n.tile=s at *
  refine qaq (E:=Tryz.env 0) Tryz.tok (σ:=Nat) (fun i=>[(1,.d (dIs place)),(2,.ptr 0 0),(5,.sl 1 i 1 0 (i+1)),(22,.d (dIs n.sinks)),(23,.d (dI n.sinks.length)),(24,.d (dI i))]) (fun i=>[.box [.d (dI n.net),.d (dI n.cell),.d (dI s),.d (dIs n.sinks),.d (dIs n.pads)],.row i 1 true ((s::(n.sinks.take i).map (qbz place)).map (D.int .i64))]) (fun i=>i≤n.sinks.length) (fun i=>n.sinks.length-i) [] [] 1000 1000 ?_ ?_
  ·simp only[go_sem,seval]
   exact⟨0,by omega,by simp⟩
  ·intro i hi
   by_cases hlt:i<n.sinks.length
   ·have hts:(n.sinks.take (i+1)).map (qbz place)=(n.sinks.take i).map (qbz place) ++ [qbz place (n.sinks.getD i 0)]:=qaV 0 hlt
    have hb:=hs _ (qak hlt:n.sinks.getD i 0∈n.sinks)
    have hql:(s::(n.sinks.take i).map (qbz place)).length=i+1:=by simp;omega
    have htd:qbz place (n.sinks.getD i 0)=place.getD (n.sinks.getD i 0).toNat 0:=rfl
    generalize hx9:n.sinks.getD i 0=x at *
    have hq2:s::(n.sinks.take (i+1)).map (qbz place)=(s::(n.sinks.take i).map (qbz place)) ++ [place.getD x.toNat 0]:=by rw[hts,htd];rfl
    generalize (s::(n.sinks.take i).map (qbz place))=q at *
    simp only[go_sem,seval,Tryz.results86,hx9,hql]
    repeat' first|assumption|(simp (disch:=first|assumption|omega|(simp;done)|(simp;omega)) only[qaa,qac,List.take_of_length_le,qab,qae,qaf,qag,qah,qao];try simp only[go_sem,seval,Tryz.results86,hx9,hql])|(with_reducible refine And.intro ?_ ?_)|(with_reducible intro _)|((try rw[qad]);omega)
    refine⟨i+1,by omega,by omega,rfl,rfl,?_⟩
    rw[←hq2]
    rfl
   ·obtain rfl:i=n.sinks.length:=by omega
    rw[List.take_length]
    simp only[go_sem,seval,Tryz.results86]
    repeat' first|assumption|(simp (disch:=first|assumption|omega|(simp;done)|(simp;omega)) only[qaa,qac,List.take_of_length_le,qab,qae,qaf,qag,qah,qao];try simp only[go_sem,seval,Tryz.results86])|(with_reducible refine And.intro ?_ ?_)|(with_reducible intro _)|((try rw[qad]);omega)
end Go.Proofs

set_option linter.unusedVariables false
set_option linter.unusedSimpArgs false
namespace Go.VL
def qcl (hops:List (Int×Int)):Nat→Int→Int
 | 0,_=>0
 | k+1,t=>if(hops.getD k (0,0)).1=t∧0≤(hops.getD k (0,0)).2 then 1+qcl hops k (hops.getD k (0,0)).2 else qcl hops k t
theorem qg2 (hops:List (Int×Int)) : ∀ k t,0≤qcl hops k t∧qcl hops k t≤k
 | 0,t=>by simp[qcl]
 | k+1,t=>by
  rw[qcl]
  split
  ·have:=qg2 hops k (hops.getD k (0,0)).2;omega
  ·have:=qg2 hops k t;omega
theorem qdU {hops:List (Int×Int)}{t:Int}{k:Nat} : ∀ m,k≤m→(∀ j,k≤j→j<m→(hops.getD j (0,0)).1≠t)→qcl hops m t=qcl hops k t
 | 0,h,_=>by
         obtain rfl:k=0:=by omega
         rfl
 | m+1,h,hj=>by
  by_cases e:k=m+1
  ·subst e;rfl
  ·rw[qcl,if_neg (fun hc=>hj m (by omega) (by omega) hc.1),qdU m (by omega) fun j h1 h2=>hj j h1 (by omega)]
theorem qeI {hops:List (Int×Int)}(hn:(qar hops).Nodup) {i j:Nat}(hi:i<hops.length) (hj:j<hops.length) (h:(hops.getD i (0,0)).1=(hops.getD j (0,0)).1):i=j:=by
 refine qiK.1 hn i j (by simp[qar];omega) (by simp[qar];omega) ?_
 have e : ∀ k,k<hops.length→(qar hops).getD k 0=(hops.getD k (0,0)).1:=fun k hk=>by simp[qar,List.getD,hk]
 rw[e i hi,e j hj,h]
theorem qpN {busy:List Bool}{hops:List (Int×Int)}(h:TreeOk busy hops) {j:Nat}(hj:j<hops.length) :
  qcl hops hops.length (hops.getD j (0,0)).1=if 0≤(hops.getD j (0,0)).2 then qcl hops hops.length (hops.getD j (0,0)).2+1 else 0:=by
 have e1:qcl hops hops.length (hops.getD j (0,0)).1=qcl hops (j+1) (hops.getD j (0,0)).1:=qdU _ (by omega) fun i h1 h2 he=>by
  have:=qeI h.nd h2 hj he;omega
 rw[e1,qcl]
 have e2:qcl hops j (hops.getD j (0,0)).1=0:=qdU (k:=0) j (by omega) fun i h1 h2 he=>by
  have:=qeI h.nd (by omega) hj he;omega
 rw[e2]
 by_cases hf:0≤(hops.getD j (0,0)).2
 ·rw[if_pos ⟨rfl,hf⟩,if_pos hf]
  rcases h.root j hj with⟨-,h1⟩|⟨-,m,h1,h2,-⟩
  ·omega
  ·rw[←h2]
   have e3:qcl hops hops.length (hops.getD m (0,0)).1=qcl hops (m+1) (hops.getD m (0,0)).1:=qdU _ (by omega) fun i h1 h2 he=>by
    have:=qeI h.nd h2 (by omega:m<hops.length) he;omega
   have e4:qcl hops j (hops.getD m (0,0)).1=qcl hops (m+1) (hops.getD m (0,0)).1:=qdU _ (by omega) fun i h1 h2 he=>by
    have:=qeI h.nd (by omega:i<hops.length) (by omega:m<hops.length) he;omega
   rw[e3,e4];omega
 ·rw[if_neg (fun hc=>hf hc.2),if_neg hf]
theorem qpO {hops:List (Int×Int)}{t:Int}(h:t∉qar hops):qcl hops hops.length t=0:=
 qdU (k:=0) _ (by omega) fun i _ hi he=>h (by rw[←he];exact List.mem_map.2 ⟨_,qak hi,rfl⟩)
def qb8 (routes:List Rt) (net tile:Int):Int:=routes.foldl (fun n r=>n+if r.net=net then qcl r.hops r.hops.length tile else 0) 0
theorem qh0 (net tile:Int) : ∀ (l:List Rt) (n:Int),l.foldl (fun n r=>n+if r.net=net then qcl r.hops r.hops.length tile else 0) n=n+qb8 l net tile
 | [],n=>by simp[qb8]
 | r::l,n=>by
  rw[qb8,List.foldl_cons,List.foldl_cons,qh0 net tile l,qh0 net tile l];omega
theorem qeT (r:Rt) (l:List Rt) (net tile:Int):qb8 (r::l) net tile=(if r.net=net then qcl r.hops r.hops.length tile else 0)+qb8 l net tile:=by
 rw[qb8,List.foldl_cons,qh0];omega
theorem qiV {net tile:Int} : ∀ {l:List Rt},(∀ r∈l,r.net≠net)→qb8 l net tile=0
 | [],_=>rfl
 | r::l,h=>by rw[qeT,if_neg (h r (by simp)),qiV fun q hq=>h q (by simp[hq])];rfl
theorem qkr {net tile:Int} : ∀ {l:List Rt},(∀ r∈l,r.net=net→tile∉qar r.hops)→qb8 l net tile=0
 | [],_=>rfl
 | r::l,h=>by
  rw[qeT,qkr fun q hq=>h q (by simp[hq])]
  split
  ·rename_i e
   rw[qpO (h r (by simp) e)];rfl
  ·rfl
theorem qh1 {tile:Int} : ∀ {l:List Rt},(l.map (·.net)).Nodup→∀ r∈l,qb8 l r.net tile=qcl r.hops r.hops.length tile
 | [],_,r,h=>by simp at h
 | q::l,hn,r,h=>by
  rw[List.map_cons,List.nodup_cons] at hn
  rw[qeT]
  rcases List.mem_cons.1 h with rfl|h
  ·rw[if_pos rfl,qiV fun x hx e=>hn.1 (by rw[←e];exact List.mem_map.2 ⟨x,hx,rfl⟩)];omega
  ·rw[if_neg (fun e=>hn.1 (by rw[e];exact List.mem_map.2 ⟨r,h,rfl⟩)),qh1 hn.2 r h];omega
theorem qeU {net tile:Int} : ∀ {l:List Rt},(∀ r∈l,r.hops.length≤25)→0≤qb8 l net tile∧qb8 l net tile≤25*l.length
 | [],_=>by simp[qb8]
 | r::l,h=>by
  have ih:=qeU (net:=net) (tile:=tile) (l:=l) fun q hq=>h q (by simp[hq])
  have:=qg2 r.hops r.hops.length tile
  have:=h r (by simp)
  rw[qeT,List.length_cons]
  split <;> omega
theorem qks {c:Circ}{cells:List Cel}{place:List Int} : ∀ k:Nat,(qe8 c cells place k).Nodup∧(∀ n∈qe8 c cells place k,1≤n∧n≤k)∧(qe8 c cells place k).length≤k
 | 0=>by simp[qe8]
 | k+1=>by
  obtain⟨h1,h2,h3⟩:=qks (c:=c) (cells:=cells) (place:=place) k
  rw[qfs]
  split
  ·rw[List.append_nil]
   exact⟨h1,fun n hn=>by have:=h2 n hn;omega,by omega⟩
  ·refine⟨?_,fun n hn=>?_,by simp;omega⟩
   ·rw[List.nodup_append]
    refine⟨h1,by simp,fun a ha b hb e=>?_⟩
    obtain rfl:b=(k:Int)+1:=by simpa using hb
    have:=h2 a ha;omega
   ·rcases List.mem_append.1 hn with h|h
    ·have:=h2 n h;omega
    ·obtain rfl:n=(k:Int)+1:=by simpa using h
     omega
structure RtsOk (routes:List Rt):Prop where
 nd:(routes.map (·.net)).Nodup
 net : ∀ r∈routes,1≤r.net
 tree : ∀ r∈routes,∃ busy,TreeOk busy r.hops
 len:routes.length≤100
theorem RtsOk.hops {routes:List Rt}(h:RtsOk routes) : ∀ r∈routes,r.hops.length≤25:=fun r hr=>by
 obtain⟨b,hb⟩:=h.tree r hr
 exact qcK hb
theorem qkt {c:Circ}(hc:c.Valid) {cells:List Cel}{place:List Int}(hp:PlaceOk cells.length place) {busy0:List (List Bool)}(hb:BusyOk busy0) {routes:List Rt}(h:qcB c cells place busy0=some routes) :
  ∃ busy,RoutesOk c cells place busy0 (c.vars.toNat-1) busy routes:=by
 rw[qcB] at h
 cases e:qcs c cells place busy0 (c.vars.toNat-1) with
 | none=>rw[e] at h;cases h
 | some s=>
  obtain⟨busy,out⟩:=s
  rw[e] at h
  simp only[Option.map_some,Option.some.injEq] at h
  subst h
  exact⟨busy,qf4 hc hp hb _ e⟩
theorem qmn {c:Circ}(hc:c.Valid) {cells:List Cel}{place:List Int}(hp:PlaceOk cells.length place) {busy0:List (List Bool)}(hb:BusyOk busy0) {routes:List Rt}(h:qcB c cells place busy0=some routes):RtsOk routes:=by
 obtain⟨busy,hR⟩:=qkt hc hp hb h
 obtain⟨n1,n2,n3⟩:=qks (c:=c) (cells:=cells) (place:=place) (c.vars.toNat-1)
 have hv:=hc.vars_bd
 have e:routes.length=(qe8 c cells place (c.vars.toNat-1)).length:=by rw[←hR.nets,List.length_map]
 exact⟨by rw[hR.nets];exact n1,fun r hr=>(hR.each r hr).net.1,fun r hr=>⟨_,(hR.each r hr).tree⟩,by omega⟩
def latT (arr:List Int) (routes:List Rt) (nets:List Int) (tile:Int):Int:=nets.foldl (fun t n=>max t (arr.getD n.toNat 0+qb8 routes n tile)) 0
def arrT (cells:List Cel) (place:List Int) (routes:List Rt) (N:Nat):Nat→List Int
 | 0=>List.replicate N 0
 | i+1=>if(cells.getD i ce0).reg then arrT cells place routes N i else(arrT cells place routes N i).set (cells.getD i ce0).net.toNat (latT (arrT cells place routes N i) routes (cells.getD i ce0).inputs (place.getD i 0)+3)
def qej (c:Circ) (cells:List Cel) (place:List Int) (routes:List Rt):List Int:=arrT cells place routes c.vars.toNat cells.length
theorem qh2 {arr:List Int}{routes:List Rt}{m:Int}(ha : ∀ v,0≤arr.getD v 0∧arr.getD v 0≤m) (hr:RtsOk routes) (tile:Int) (nets:List Int):0≤latT arr routes nets tile∧latT arr routes nets tile≤m+2500:=by
 have hm:=ha 0
 have key : ∀ (l:List Int) (t:Int),0≤t∧t≤m+2500→0≤l.foldl (fun t n=>max t (arr.getD n.toNat 0+qb8 routes n tile)) t∧l.foldl (fun t n=>max t (arr.getD n.toNat 0+qb8 routes n tile)) t≤m+2500:=by
  intro l
  induction l with
  | nil=>exact fun t h=>h
  | cons n l ih=>
   intro t h
   have h1:=ha n.toNat
   have h2:=qeU (net:=n) (tile:=tile) hr.hops
   have h3:=hr.len
   exact ih (max t (arr.getD n.toNat 0+qb8 routes n tile)) (by omega)
 exact key nets 0 (by omega)
theorem qf7 {cells:List Cel}{place:List Int}{routes:List Rt}{N:Nat} : ∀ i,(arrT cells place routes N i).length=N
 | 0=>by simp[arrT]
 | i+1=>by
  rw[arrT]
  split
  ·exact qf7 i
  ·rw[List.length_set];exact qf7 i
theorem qk9 {cells:List Cel}{place:List Int}{routes:List Rt}(hr:RtsOk routes) {N:Nat} : ∀ (i v:Nat),0≤(arrT cells place routes N i).getD v 0∧(arrT cells place routes N i).getD v 0≤2503*i
 | 0,v=>by
  have:(List.replicate N (0:Int)).getD v 0=0:=by
   rw[List.getD_eq_getElem?_getD,List.getElem?_replicate];split <;> rfl
  rw[arrT,this];omega
 | i+1,v=>by
  have ih:=qk9 (cells:=cells) (place:=place) hr (N:=N) i
  have iv:=ih v
  rw[arrT]
  split
  ·omega
  ·have hl:=qh2 ih hr (place.getD i 0) (cells.getD i ce0).inputs
   generalize hz9:latT (arrT cells place routes N i) routes (cells.getD i ce0).inputs (place.getD i 0)=y at *
   generalize (cells.getD i ce0).net.toNat=u at *
   by_cases hu:u<(arrT cells place routes N i).length
   ·rw[qdR hu];split <;> omega
   ·rw[List.set_eq_of_length_le (by omega)];omega
def qlN (routes:List Rt) (net tile:Int):Int:=if ∃ r∈routes,r.net=net∧tile∈qar r.hops then qb8 routes net tile else -1
end Go.VL

set_option maxRecDepth 20000
set_option linter.unusedVariables false
set_option linter.unusedSimpArgs false
namespace Go.Proofs
open Go Go.VL
structure Tcfg where
 table:Int
 select:List Int
 reg:Bool
 drive:List Int
noncomputable instance:DecidableEq Tcfg:=fun _ _=>Classical.propDecidable _
def trackOk (n:Int):Bool:=(decide (0≤n)&&decide (n≤7)) || decide (n=15)
def nbUp (t:Int):Int:=if 5≤t then t-5 else -1
def qh3 (t:Int):Int:=if 0<t%5 then t-1 else -1
def qfu (t:Int):Int:=if t%5<4 then t+1 else -1
def qh4 (t:Int):Int:=if t<20 then t+5 else -1
def nb (t d:Int):Int:=if d=2 then nbUp t else if d=3 then qh3 t else if d=4 then qfu t else if d=5 then qh4 t else -1
def driveOk (t d:Int):Bool:=decide (d=0∨d=1∨(2≤d∧d≤5∧0≤nb t d)∨(d=6∧t%5=0∧t/5<4))
def Tcfg.ok (t:Int) (x:Tcfg):Bool:=(decide (0≤x.table)&&decide (x.table<256))&&decide (x.select.length=3)&&decide (x.drive.length=8)&&x.select.all trackOk&&x.drive.all (driveOk t)
theorem Tryz.c_neighbours (t:Int) (ht:0≤t∧t≤24):Pure Tryz.prog 115 [dI t] (.agg [dI (nbUp t),dI (qh3 t),dI (qfu t),dI (qh4 t)]):=by
 refine qam (E:=Tryz.env 0) Tryz.tok rfl 1000 Tryz.func115 rfl rfl Tryz.ntmps115 (by simp) fun ok=>?_
 simp only[go_sem,seval] at ok
 simp only[go_sem,seval,Tryz.results115]
 repeat' first|assumption|(simp (disch:=first|assumption|omega|(simp;done)|(simp;omega)) only[qaa,qac,List.take_of_length_le,qab];try simp only[go_sem,seval,Tryz.results115])|(with_reducible refine And.intro ?_ ?_)|(with_reducible intro _)|((try rw[qad]);omega)
 all_goals (simp only[nbUp,qh3,qfu,qh4];first|rw[if_pos (by assumption)]|rw[if_neg (by assumption)])
end Go.Proofs

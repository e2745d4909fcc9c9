/- Contracts, plain definitions and lemmas. Conditions: none; lemmas. -/
import Derived.Test.YtoanmdnkgjdinaaD1
import Derived.Test.YtoanmdnkgjdinaaD3
set_option maxRecDepth 20000
set_option linter.unusedVariables false
set_option linter.unusedSimpArgs false
namespace Go.Proofs
open Go Go.VL
theorem qkL {x:Cel}(h:x.inputs.Nodup) (net:Int) (i:Nat):qeT x net i=if net∈x.inputs then [(i:Int)] else []:=by
 unfold qeT
 have key : ∀ l:List Int,l.Nodup→(l.filter fun z=>decide (z=net)).length=if net∈l then 1 else 0:=by
  intro l
  induction l with
  | nil=>exact fun _=>rfl
  | cons z l ih=>
   intro h
   rw[List.nodup_cons] at h
   have:=ih h.2
   by_cases e:z=net
   ·subst e
    rw[if_neg h.1] at this
    simp only[List.filter_cons,decide_true,if_true,List.length_cons,this,List.mem_cons,true_or]
   ·rw[List.filter_cons,if_neg (by simpa using e),this]
    have:net∈z::l↔net∈l:=by simp[Ne.symm e]
    simp only[this]
 have hk:=key _ h
 generalize hl:(x.inputs.filter fun z=>decide (z=net))=l at *
 split
 ·rename_i hm
  rw[if_pos hm] at hk
  obtain⟨z,rfl⟩:=List.length_eq_one_iff.1 hk
  rfl
 ·rename_i hm
  rw[if_neg hm] at hk
  rw[List.length_eq_zero_iff.1 hk]
  rfl
theorem qdA {cells:List Cel}(h : ∀ x∈cells,x.inputs.Nodup) (net:Int) : ∀ i,i≤cells.length→(qa5 cells net i).length≤i
 | 0,_=>by simp[qa5]
 | i+1,hi=>by
  have ih:=qdA h net i (by omega)
  rw[qa5,qkL (h _ (qal (by omega):cells.getD i ce0∈cells)),List.length_append]
  split <;> simp <;> omega
abbrev dNi (n:Nin):D:=.agg [dI n.net,dI n.cell,dI n.tile,dIs n.sinks,dIs n.pads]
abbrev dNis (l:List Nin):D:=.lst 5 (l.map fun x=>dNi x)
theorem qas {l:List Nin}{i:Nat}{z:D}(h:i<l.length):(l.map fun x=>dNi x).getD i z=dNi (l.getD i nin0):=getD_lt _ _ _ _ _ h
theorem Try.c_padTile (o:Int) (h:0≤o∧o≤100):Pure Try.prog 63 [dI o] (dI (o*5+4)):=by
 refine qan (E:=Try.env 0) Try.tok rfl 1000 Try.func63 rfl rfl Try.ntmps63 (by simp) fun ok=>?_
 simp only[go_sem,seval] at ok
 simp only[go_sem,seval,Try.results63]
 repeat' first|assumption|(simp (disch:=first|assumption|omega|(simp;done)|(simp;omega)) only[qaa,qac,List.take_of_length_le,qab,qae,qaf,qag,qah,qas];try simp only[go_sem,seval,Try.results63])|(with_reducible refine And.intro ?_ ?_)|(with_reducible intro _)|((try rw[qad]);omega)
theorem Try.c_NetSinks (c:Circ) (hc:c.Valid) (net:Int):Pure Try.prog 80 [dC c,dI net] (dIs (qc0 (qaj c) net)):=by
 have hce:=Try.c_Cells c hc
 have hcl:=qbi hc
 have hin:=qcD hc
 refine qan (E:=Try.env 0) Try.tok rfl 1000 Try.func80 rfl rfl Try.ntmps80 (by simp) fun ok=>?_
 simp only[go_sem,seval] at ok
 simp only[go_sem,seval,Try.results80]
 repeat' first|assumption|(simp (disch:=first|assumption|omega|(simp;done)|(simp;omega)) only[qaa,qac,List.take_of_length_le,qab,qae,qaf,qag,qah,qas];try simp only[go_sem,seval,Try.results80])|(with_reducible refine And.intro ?_ ?_)|(with_reducible intro _)|(refine qbk hce ?_;simp only[go_sem,seval,Try.results80])|((try rw[qad]);omega)
 have hsd:qc0 (qaj c) net=qa5 (qaj c) net (qaj c).length:=rfl
 rw[hsd]
 generalize qaj c=cells at *
 refine qao (E:=Try.env 0) Try.tok (σ:=Nat) (fun i=>[(1,.d (dI net)),(5,.sl 1 (qa5 cells net i).length 1 0 (qa5 cells net i).length),(9,.d (dCes cells)),(10,.d (dI cells.length)),(11,.d (dI i))]) (fun i=>[.dead 0,.row (qa5 cells net i).length 1 true ((qa5 cells net i).map (D.int .i64))]) (fun i=>i≤cells.length) (fun i=>cells.length-i) [] [(5,1,true)] 1000 1000 ?_ ?_
 ·simp only[go_sem,seval]
  exact⟨0,by omega,by simp[qa5]⟩
 ·intro i hi
  by_cases hlt:i<cells.length
  ·have hx:=hin _ (qal hlt:cells.getD i ce0∈cells)
   have hsn:qa5 cells net (i+1)=qa5 cells net i++qeT (cells.getD i ce0) net i:=rfl
   rw[qkL hx.2.1] at hsn
   have hql:=qdA (fun x hx=>(hin x hx).2.1) net i (by omega)
   have hct:=Try.c_Contains (cells.getD i ce0).inputs net (by omega)
   generalize hx9:cells.getD i ce0=x at *
   generalize qa5 cells net i=q at *
   simp only[go_sem,seval,Try.results80,hx9]
   repeat' first|assumption|(simp (disch:=first|assumption|omega|(simp;done)|(simp;omega)) only[qaa,qac,List.take_of_length_le,qab,qae,qaf,qag,qah,qas];try simp only[go_sem,seval,Try.results80,hx9])|(with_reducible refine And.intro ?_ ?_)|(with_reducible intro _)|(refine qai hct ?_;simp only[go_sem,seval,Try.results80,hx9])|((try rw[qad]);omega)
   ·rename_i h1
    rw[if_pos h1] at hsn
    refine⟨i+1,by omega,by omega,⟨?_,rfl⟩,?_,?_⟩ <;> rw[hsn] <;> simp
   ·rename_i h1
    rw[if_neg h1,List.append_nil] at hsn
    refine⟨i+1,by omega,by omega,⟨?_,rfl⟩,?_,?_⟩ <;> rw[hsn]
  ·obtain rfl:i=cells.length:=by omega
   simp only[go_sem,seval,Try.results80]
   repeat' first|assumption|(simp (disch:=first|assumption|omega|(simp;done)|(simp;omega)) only[qaa,qac,List.take_of_length_le,qab,qae,qaf,qag,qah,qas];try simp only[go_sem,seval,Try.results80])|(with_reducible refine And.intro ?_ ?_)|(with_reducible intro _)|((try rw[qad]);omega)
theorem Try.c_tiles (n:Nin) (place:List Int) (hs : ∀ i∈n.sinks,0≤i∧i<place.length) (hk:n.cell<place.length) (hl:n.sinks.length≤1000) (hl2:n.pads.length≤1000) (hp:place.length≤1000):Pure Try.prog 81 [dNi n,dIs place] (dIs (qcd n place)):=by
 refine qan (E:=Try.env 0) Try.tok rfl 1000 Try.func81 rfl rfl Try.ntmps81 (by simp) fun ok=>?_
 simp only[go_sem,seval] at ok
 simp only[go_sem,seval,Try.results81]
 have hT:qcd n place=srcT n place::(n.sinks.map (qbH place)++n.pads):=rfl
 rw[hT]
 repeat' first|assumption|(simp (disch:=first|assumption|omega|(simp;done)|(simp;omega)) only[qaa,qac,List.take_of_length_le,qab,qae,qaf,qag,qah,qas];try simp only[go_sem,seval,Try.results81])|(with_reducible refine And.intro ?_ ?_)|(with_reducible intro _)|((try rw[qad]);omega)
 ·rename_i h9
  rw[show srcT n place=place.getD n.cell.toNat 0 from if_pos h9]
  generalize place.getD n.cell.toNat 0=s at *
  refine qao (E:=Try.env 0) Try.tok (σ:=Nat) (fun i=>[(1,.d (dIs place)),(2,.ptr 0 0),(5,.sl 1 i 1 0 (i+1)),(22,.d (dIs n.sinks)),(23,.d (dI n.sinks.length)),(24,.d (dI i))]) (fun i=>[.box [.d (dI n.net),.d (dI n.cell),.d (dI n.tile),.d (dIs n.sinks),.d (dIs n.pads)],.row i 1 true ((s::(n.sinks.take i).map (qbH place)).map (D.int .i64))]) (fun i=>i≤n.sinks.length) (fun i=>n.sinks.length-i) [] [] 1000 1000 ?_ ?_
  ·simp only[go_sem,seval]
   exact⟨0,by omega,by simp⟩
  ·intro i hi
   by_cases hlt:i<n.sinks.length
   ·have hts:(n.sinks.take (i+1)).map (qbH place)=(n.sinks.take i).map (qbH place) ++ [qbH place (n.sinks.getD i 0)]:=qaX 0 hlt
    have hb:=hs _ (qal hlt:n.sinks.getD i 0∈n.sinks)
    have hql:(s::(n.sinks.take i).map (qbH place)).length=i+1:=by simp;omega
    have htd:qbH place (n.sinks.getD i 0)=place.getD (n.sinks.getD i 0).toNat 0:=rfl
    generalize hx9:n.sinks.getD i 0=x at *
    have hq2:s::(n.sinks.take (i+1)).map (qbH place)=(s::(n.sinks.take i).map (qbH place)) ++ [place.getD x.toNat 0]:=by rw[hts,htd];rfl
    generalize (s::(n.sinks.take i).map (qbH place))=q at *
    simp only[go_sem,seval,Try.results81,hx9,hql]
    repeat' first|assumption|(simp (disch:=first|assumption|omega|(simp;done)|(simp;omega)) only[qaa,qac,List.take_of_length_le,qab,qae,qaf,qag,qah,qas];try simp only[go_sem,seval,Try.results81,hx9,hql])|(with_reducible refine And.intro ?_ ?_)|(with_reducible intro _)|((try rw[qad]);omega)
    refine⟨i+1,by omega,by omega,rfl,rfl,?_⟩
    rw[←hq2]
    rfl
   ·obtain rfl:i=n.sinks.length:=by omega
    rw[List.take_length]
    simp only[go_sem,seval,Try.results81]
    repeat' first|assumption|(simp (disch:=first|assumption|omega|(simp;done)|(simp;omega)) only[qaa,qac,List.take_of_length_le,qab,qae,qaf,qag,qah,qas];try simp only[go_sem,seval,Try.results81])|(with_reducible refine And.intro ?_ ?_)|(with_reducible intro _)|((try rw[qad]);omega)
 ·rename_i h9
  rw[show srcT n place=n.tile from if_neg h9]
  generalize n.tile=s at *
  refine qao (E:=Try.env 0) Try.tok (σ:=Nat) (fun i=>[(1,.d (dIs place)),(2,.ptr 0 0),(5,.sl 1 i 1 0 (i+1)),(22,.d (dIs n.sinks)),(23,.d (dI n.sinks.length)),(24,.d (dI i))]) (fun i=>[.box [.d (dI n.net),.d (dI n.cell),.d (dI s),.d (dIs n.sinks),.d (dIs n.pads)],.row i 1 true ((s::(n.sinks.take i).map (qbH place)).map (D.int .i64))]) (fun i=>i≤n.sinks.length) (fun i=>n.sinks.length-i) [] [] 1000 1000 ?_ ?_
  ·simp only[go_sem,seval]
   exact⟨0,by omega,by simp⟩
  ·intro i hi
   by_cases hlt:i<n.sinks.length
   ·have hts:(n.sinks.take (i+1)).map (qbH place)=(n.sinks.take i).map (qbH place) ++ [qbH place (n.sinks.getD i 0)]:=qaX 0 hlt
    have hb:=hs _ (qal hlt:n.sinks.getD i 0∈n.sinks)
    have hql:(s::(n.sinks.take i).map (qbH place)).length=i+1:=by simp;omega
    have htd:qbH place (n.sinks.getD i 0)=place.getD (n.sinks.getD i 0).toNat 0:=rfl
    generalize hx9:n.sinks.getD i 0=x at *
    have hq2:s::(n.sinks.take (i+1)).map (qbH place)=(s::(n.sinks.take i).map (qbH place)) ++ [place.getD x.toNat 0]:=by rw[hts,htd];rfl
    generalize (s::(n.sinks.take i).map (qbH place))=q at *
    simp only[go_sem,seval,Try.results81,hx9,hql]
    repeat' first|assumption|(simp (disch:=first|assumption|omega|(simp;done)|(simp;omega)) only[qaa,qac,List.take_of_length_le,qab,qae,qaf,qag,qah,qas];try simp only[go_sem,seval,Try.results81,hx9,hql])|(with_reducible refine And.intro ?_ ?_)|(with_reducible intro _)|((try rw[qad]);omega)
    refine⟨i+1,by omega,by omega,rfl,rfl,?_⟩
    rw[←hq2]
    rfl
   ·obtain rfl:i=n.sinks.length:=by omega
    rw[List.take_length]
    simp only[go_sem,seval,Try.results81]
    repeat' first|assumption|(simp (disch:=first|assumption|omega|(simp;done)|(simp;omega)) only[qaa,qac,List.take_of_length_le,qab,qae,qaf,qag,qah,qas];try simp only[go_sem,seval,Try.results81])|(with_reducible refine And.intro ?_ ?_)|(with_reducible intro _)|((try rw[qad]);omega)
end Go.Proofs

set_option linter.unusedVariables false
set_option linter.unusedSimpArgs false
namespace Go.VL
def qcl (hops:List (Int×Int)):Nat→Int→Int
 | 0,_=>0
 | k+1,t=>if(hops.getD k (0,0)).1=t∧0≤(hops.getD k (0,0)).2 then 1+qcl hops k (hops.getD k (0,0)).2 else qcl hops k t
theorem qhe (hops:List (Int×Int)) : ∀ k t,0≤qcl hops k t∧qcl hops k t≤k
 | 0,t=>by simp[qcl]
 | k+1,t=>by
  rw[qcl]
  split
  ·have:=qhe hops k (hops.getD k (0,0)).2;omega
  ·have:=qhe hops k t;omega
theorem qd4 {hops:List (Int×Int)}{t:Int}{k:Nat} : ∀ m,k≤m→(∀ j,k≤j→j<m→(hops.getD j (0,0)).1≠t)→qcl hops m t=qcl hops k t
 | 0,h,_=>by
         obtain rfl:k=0:=by omega
         rfl
 | m+1,h,hj=>by
  by_cases e:k=m+1
  ·subst e;rfl
  ·rw[qcl,if_neg (fun hc=>hj m (by omega) (by omega) hc.1),qd4 m (by omega) fun j h1 h2=>hj j h1 (by omega)]
theorem qeW {hops:List (Int×Int)}(hn:(qaq hops).Nodup) {i j:Nat}(hi:i<hops.length) (hj:j<hops.length) (h:(hops.getD i (0,0)).1=(hops.getD j (0,0)).1):i=j:=by
 refine qiX.1 hn i j (by simp[qaq];omega) (by simp[qaq];omega) ?_
 have e : ∀ k,k<hops.length→(qaq hops).getD k 0=(hops.getD k (0,0)).1:=fun k hk=>by simp[qaq,List.getD,hk]
 rw[e i hi,e j hj,h]
theorem qqt {busy:List Bool}{hops:List (Int×Int)}(h:TreeOk busy hops) {j:Nat}(hj:j<hops.length) :
  qcl hops hops.length (hops.getD j (0,0)).1=if 0≤(hops.getD j (0,0)).2 then qcl hops hops.length (hops.getD j (0,0)).2+1 else 0:=by
 have e1:qcl hops hops.length (hops.getD j (0,0)).1=qcl hops (j+1) (hops.getD j (0,0)).1:=qd4 _ (by omega) fun i h1 h2 he=>by
  have:=qeW h.nd h2 hj he;omega
 rw[e1,qcl]
 have e2:qcl hops j (hops.getD j (0,0)).1=0:=qd4 (k:=0) j (by omega) fun i h1 h2 he=>by
  have:=qeW h.nd (by omega) hj he;omega
 rw[e2]
 by_cases hf:0≤(hops.getD j (0,0)).2
 ·rw[if_pos ⟨rfl,hf⟩,if_pos hf]
  rcases h.root j hj with⟨-,h1⟩|⟨-,m,h1,h2,-⟩
  ·omega
  ·rw[←h2]
   have e3:qcl hops hops.length (hops.getD m (0,0)).1=qcl hops (m+1) (hops.getD m (0,0)).1:=qd4 _ (by omega) fun i h1 h2 he=>by
    have:=qeW h.nd h2 (by omega:m<hops.length) he;omega
   have e4:qcl hops j (hops.getD m (0,0)).1=qcl hops (m+1) (hops.getD m (0,0)).1:=qd4 _ (by omega) fun i h1 h2 he=>by
    have:=qeW h.nd (by omega:i<hops.length) (by omega:m<hops.length) he;omega
   rw[e3,e4];omega
 ·rw[if_neg (fun hc=>hf hc.2),if_neg hf]
theorem qqu {hops:List (Int×Int)}{t:Int}(h:t∉qaq hops):qcl hops hops.length t=0:=
 qd4 (k:=0) _ (by omega) fun i _ hi he=>h (by rw[←he];exact List.mem_map.2 ⟨_,qal hi,rfl⟩)
def qaW (routes:List Rt) (net tile:Int):Int:=routes.foldl (fun n r=>n+if r.net=net then qcl r.hops r.hops.length tile else 0) 0
theorem qif (net tile:Int) : ∀ (l:List Rt) (n:Int),l.foldl (fun n r=>n+if r.net=net then qcl r.hops r.hops.length tile else 0) n=n+qaW l net tile
 | [],n=>by simp[qaW]
 | r::l,n=>by
  rw[qaW,List.foldl_cons,List.foldl_cons,qif net tile l,qif net tile l];omega
theorem qe9 (r:Rt) (l:List Rt) (net tile:Int):qaW (r::l) net tile=(if r.net=net then qcl r.hops r.hops.length tile else 0)+qaW l net tile:=by
 rw[qaW,List.foldl_cons,qif];omega
theorem qfa {net tile:Int} : ∀ {l:List Rt},(∀ r∈l,r.net≠net)→qaW l net tile=0
 | [],_=>rfl
 | r::l,h=>by rw[qe9,if_neg (h r (by simp)),qfa fun q hq=>h q (by simp[hq])];rfl
theorem qkM {net tile:Int} : ∀ {l:List Rt},(∀ r∈l,r.net=net→tile∉qaq r.hops)→qaW l net tile=0
 | [],_=>rfl
 | r::l,h=>by
  rw[qe9,qkM fun q hq=>h q (by simp[hq])]
  split
  ·rename_i e
   rw[qqu (h r (by simp) e)];rfl
  ·rfl
theorem qig {tile:Int} : ∀ {l:List Rt},(l.map (·.net)).Nodup→∀ r∈l,qaW l r.net tile=qcl r.hops r.hops.length tile
 | [],_,r,h=>by simp at h
 | q::l,hn,r,h=>by
  rw[List.map_cons,List.nodup_cons] at hn
  rw[qe9]
  rcases List.mem_cons.1 h with rfl|h
  ·rw[if_pos rfl,qfa fun x hx e=>hn.1 (by rw[←e];exact List.mem_map.2 ⟨x,hx,rfl⟩)];omega
  ·rw[if_neg (fun e=>hn.1 (by rw[e];exact List.mem_map.2 ⟨r,h,rfl⟩)),qig hn.2 r h];omega
theorem qbD {net tile:Int} : ∀ {l:List Rt},(∀ r∈l,r.hops.length≤25)→0≤qaW l net tile∧qaW l net tile≤25*l.length
 | [],_=>by simp[qaW]
 | r::l,h=>by
  have ih:=qbD (net:=net) (tile:=tile) (l:=l) fun q hq=>h q (by simp[hq])
  have:=qhe r.hops r.hops.length tile
  have:=h r (by simp)
  rw[qe9,List.length_cons]
  split <;> omega
theorem qih {c:Circ}{cells:List Cel}{place:List Int} : ∀ k:Nat,(qc7 c cells place k).Nodup∧(∀ n∈qc7 c cells place k,1≤n∧n≤k)∧(qc7 c cells place k).length≤k
 | 0=>by simp[qc7]
 | k+1=>by
  obtain⟨h1,h2,h3⟩:=qih (c:=c) (cells:=cells) (place:=place) k
  rw[qfG]
  split
  ·rw[List.append_nil]
   exact⟨h1,fun n hn=>by have:=h2 n hn;omega,by omega⟩
  ·refine⟨?_,fun n hn=>?_,by simp;omega⟩
   ·rw[List.nodup_append]
    refine⟨h1,by simp,fun a ha b hb e=>?_⟩
    obtain rfl:b=(k:Int)+1:=by simpa using hb
    have:=h2 a ha;omega
   ·rcases List.mem_append.1 hn with h|h
    ·have:=h2 n h;omega
    ·obtain rfl:n=(k:Int)+1:=by simpa using h
     omega
structure RtsOk (routes:List Rt):Prop where
 nd:(routes.map (·.net)).Nodup
 net : ∀ r∈routes,1≤r.net
 tree : ∀ r∈routes,∃ busy,TreeOk busy r.hops
 len:routes.length≤100
theorem RtsOk.hops {routes:List Rt}(h:RtsOk routes) : ∀ r∈routes,r.hops.length≤25:=fun r hr=>by
 obtain⟨b,hb⟩:=h.tree r hr
 exact qdf hb
theorem qkN {c:Circ}(hc:c.Valid) {cells:List Cel}{place:List Int}(hp:PlaceOk cells.length place) {busy0:List (List Bool)}(hb:BusyOk busy0) {routes:List Rt}(h:qd1 c cells place busy0=some routes) :
  ∃ busy,RoutesOk c cells place busy0 (c.vars.toNat-1) busy routes:=by
 rw[qd1] at h
 cases e:qcH c cells place busy0 (c.vars.toNat-1) with
 | none=>rw[e] at h;cases h
 | some s=>
  obtain⟨busy,out⟩:=s
  rw[e] at h
  simp only[Option.map_some,Option.some.injEq] at h
  subst h
  exact⟨busy,qib hc hp hb _ e⟩
theorem qmM {c:Circ}(hc:c.Valid) {cells:List Cel}{place:List Int}(hp:PlaceOk cells.length place) {busy0:List (List Bool)}(hb:BusyOk busy0) {routes:List Rt}(h:qd1 c cells place busy0=some routes):RtsOk routes:=by
 obtain⟨busy,hR⟩:=qkN hc hp hb h
 obtain⟨n1,n2,n3⟩:=qih (c:=c) (cells:=cells) (place:=place) (c.vars.toNat-1)
 have hv:=hc.vars_bd
 have e:routes.length=(qc7 c cells place (c.vars.toNat-1)).length:=by rw[←hR.nets,List.length_map]
 exact⟨by rw[hR.nets];exact n1,fun r hr=>(hR.each r hr).net.1,fun r hr=>⟨_,(hR.each r hr).tree⟩,by omega⟩
def latT (arr:List Int) (routes:List Rt) (nets:List Int) (tile:Int):Int:=nets.foldl (fun t n=>max t (arr.getD n.toNat 0+qaW routes n tile)) 0
def arrT (cells:List Cel) (place:List Int) (routes:List Rt) (N:Nat):Nat→List Int
 | 0=>List.replicate N 0
 | i+1=>if(cells.getD i ce0).reg then arrT cells place routes N i else(arrT cells place routes N i).set (cells.getD i ce0).net.toNat (latT (arrT cells place routes N i) routes (cells.getD i ce0).inputs (place.getD i 0)+3)
def qaS (c:Circ) (cells:List Cel) (place:List Int) (routes:List Rt):List Int:=arrT cells place routes c.vars.toNat cells.length
def perA (cells:List Cel) (place:List Int) (routes:List Rt) (arr:List Int):Nat→Int
 | 0=>0
 | i+1=>if(cells.getD i ce0).reg then max (perA cells place routes arr i) (latT arr routes (cells.getD i ce0).inputs (place.getD i 0)+3) else perA cells place routes arr i
def perB (c:Circ) (routes:List Rt) (arr:List Int) (t0:Int):Nat→Int
 | 0=>t0
 | o+1=>max (perB c routes arr t0 o) (arr.getD (c.outs.getD o 0/2).toNat 0+qaW routes (c.outs.getD o 0/2) ((o:Int)*5+4))
def qce (c:Circ) (cells:List Cel) (place:List Int) (routes:List Rt):Int:=
 perB c routes (qaS c cells place routes) (perA cells place routes (qaS c cells place routes) cells.length) c.outs.length
theorem qer {arr:List Int}{routes:List Rt}{m:Int}(ha : ∀ v,0≤arr.getD v 0∧arr.getD v 0≤m) (hr:RtsOk routes) (tile:Int) (nets:List Int):0≤latT arr routes nets tile∧latT arr routes nets tile≤m+2500:=by
 have hm:=ha 0
 have key : ∀ (l:List Int) (t:Int),0≤t∧t≤m+2500→0≤l.foldl (fun t n=>max t (arr.getD n.toNat 0+qaW routes n tile)) t∧l.foldl (fun t n=>max t (arr.getD n.toNat 0+qaW routes n tile)) t≤m+2500:=by
  intro l
  induction l with
  | nil=>exact fun t h=>h
  | cons n l ih=>
   intro t h
   have h1:=ha n.toNat
   have h2:=qbD (net:=n) (tile:=tile) hr.hops
   have h3:=hr.len
   exact ih (max t (arr.getD n.toNat 0+qaW routes n tile)) (by omega)
 exact key nets 0 (by omega)
theorem qdB {cells:List Cel}{place:List Int}{routes:List Rt}{N:Nat} : ∀ i,(arrT cells place routes N i).length=N
 | 0=>by simp[arrT]
 | i+1=>by
  rw[arrT]
  split
  ·exact qdB i
  ·rw[List.length_set];exact qdB i
theorem qes {cells:List Cel}{place:List Int}{routes:List Rt}(hr:RtsOk routes) {N:Nat} : ∀ (i v:Nat),0≤(arrT cells place routes N i).getD v 0∧(arrT cells place routes N i).getD v 0≤2503*i
 | 0,v=>by
  have:(List.replicate N (0:Int)).getD v 0=0:=by
   rw[List.getD_eq_getElem?_getD,List.getElem?_replicate];split <;> rfl
  rw[arrT,this];omega
 | i+1,v=>by
  have ih:=qes (cells:=cells) (place:=place) hr (N:=N) i
  have iv:=ih v
  rw[arrT]
  split
  ·omega
  ·have hl:=qer ih hr (place.getD i 0) (cells.getD i ce0).inputs
   generalize hz9:latT (arrT cells place routes N i) routes (cells.getD i ce0).inputs (place.getD i 0)=y at *
   generalize (cells.getD i ce0).net.toNat=u at *
   by_cases hu:u<(arrT cells place routes N i).length
   ·rw[qds hu];split <;> omega
   ·rw[List.set_eq_of_length_le (by omega)];omega
theorem qlx {cells:List Cel}{place:List Int}{routes:List Rt}(hr:RtsOk routes) {arr:List Int}{m:Int}(ha : ∀ v,0≤arr.getD v 0∧arr.getD v 0≤m) : ∀ i,0≤perA cells place routes arr i∧perA cells place routes arr i≤m+2503
 | 0=>by have:=ha 0;simp only[perA];omega
 | i+1=>by
  have ih:=qlx (cells:=cells) (place:=place) hr ha i
  have:=qer ha hr (place.getD i 0) (cells.getD i ce0).inputs
  rw[perA]
  split <;> omega
theorem qly {c:Circ}{routes:List Rt}(hr:RtsOk routes) {arr:List Int}{m t0:Int}(ha : ∀ v,0≤arr.getD v 0∧arr.getD v 0≤m) (h0:0≤t0∧t0≤m+2503) : ∀ o,t0≤perB c routes arr t0 o∧perB c routes arr t0 o≤m+2503
 | 0=>by simp only[perB];omega
 | o+1=>by
  have ih:=qly (c:=c) hr ha h0 o
  have h1:=ha (c.outs.getD o 0/2).toNat
  have h2:=qbD (net:=c.outs.getD o 0/2) (tile:=(o:Int)*5+4) hr.hops
  have h3:=hr.len
  simp only[perB];omega
def qbQ (routes:List Rt) (net tile:Int):Int:=if ∃ r∈routes,r.net=net∧tile∈qaq r.hops then qaW routes net tile else -1
end Go.VL

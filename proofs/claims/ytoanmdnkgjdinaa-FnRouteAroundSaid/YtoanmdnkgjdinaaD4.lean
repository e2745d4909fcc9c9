/- Contracts, plain definitions and lemmas. Conditions: none; lemmas. -/
import Derived.Test.YtoanmdnkgjdinaaD1
import Derived.Test.YtoanmdnkgjdinaaD3
set_option maxRecDepth 20000
set_option linter.unusedVariables false
set_option linter.unusedSimpArgs false
namespace Go.Proofs
open Go Go.VL
theorem qka {x:Cel}(h:x.inputs.Nodup) (net:Int) (i:Nat):qey x net i=if net∈x.inputs then [(i:Int)] else []:=by
 unfold qey
 have key : ∀ l:List Int,l.Nodup→(l.filter fun z=>decide (z=net)).length=if net∈l then 1 else 0:=by
  intro l
  induction l with
  | nil=>exact fun _=>rfl
  | cons z l ih=>
   intro h
   rw[List.nodup_cons] at h
   have:=ih h.2
   by_cases e:z=net
   ·subst e
    rw[if_neg h.1] at this
    simp only[List.filter_cons,decide_true,if_true,List.length_cons,this,List.mem_cons,true_or]
   ·rw[List.filter_cons,if_neg (by simpa using e),this]
    have:net∈z::l↔net∈l:=by simp[Ne.symm e]
    simp only[this]
 have hk:=key _ h
 generalize hl:(x.inputs.filter fun z=>decide (z=net))=l at *
 split
 ·rename_i hm
  rw[if_pos hm] at hk
  obtain⟨z,rfl⟩:=List.length_eq_one_iff.1 hk
  rfl
 ·rename_i hm
  rw[if_neg hm] at hk
  rw[List.length_eq_zero_iff.1 hk]
  rfl
theorem qdj {cells:List Cel}(h : ∀ x∈cells,x.inputs.Nodup) (net:Int) : ∀ i,i≤cells.length→(qaY cells net i).length≤i
 | 0,_=>by simp[qaY]
 | i+1,hi=>by
  have ih:=qdj h net i (by omega)
  rw[qaY,qka (h _ (qaj (by omega):cells.getD i ce0∈cells)),List.length_append]
  split <;> simp <;> omega
abbrev dNi (n:Nin):D:=.agg [dI n.net,dI n.cell,dI n.tile,dIs n.sinks,dIs n.pads]
abbrev dNis (l:List Nin):D:=.lst 5 (l.map fun x=>dNi x)
theorem qam {l:List Nin}{i:Nat}{z:D}(h:i<l.length):(l.map fun x=>dNi x).getD i z=dNi (l.getD i nin0):=getD_lt _ _ _ _ _ h
theorem Try.c_padTile (o:Int) (h:0≤o∧o≤100):Pure Try.prog 63 [dI o] (dI (o*5+4)):=by
 refine qau (E:=Try.env 0) Try.tok rfl 1000 Try.func63 rfl rfl Try.ntmps63 (by simp) fun ok=>?_
 simp only[go_sem,seval] at ok
 simp only[go_sem,seval,Try.results63]
 repeat' first|assumption|(simp (disch:=first|assumption|omega|(simp;done)|(simp;omega)) only[qaa,qac,List.take_of_length_le,qab,qae,qaf,qag,qah,qam];try simp only[go_sem,seval,Try.results63])|(with_reducible refine And.intro ?_ ?_)|(with_reducible intro _)|(refine @Exists.intro I _ (I.d D.nil) ?_;simp only[go_sem,seval,Try.results63])|((with_reducible (show Region.lexB _ _=true));kernel_rfl)|((try rw[qad]);omega)
theorem Try.c_NetSinks (c:Circ) (hc:c.Valid) (net:Int):Pure Try.prog 80 [dC c,dI net] (dIs (qcO (qaq c) net)):=by
 have hce:=Try.c_Cells c hc
 have hcl:=qce hc
 have hin:=qeB hc
 refine qau (E:=Try.env 0) Try.tok rfl 1000 Try.func80 rfl rfl Try.ntmps80 (by simp) fun ok=>?_
 simp only[go_sem,seval] at ok
 simp only[go_sem,seval,Try.results80]
 repeat' first|assumption|(simp (disch:=first|assumption|omega|(simp;done)|(simp;omega)) only[qaa,qac,List.take_of_length_le,qab,qae,qaf,qag,qah,qam];try simp only[go_sem,seval,Try.results80])|(with_reducible refine And.intro ?_ ?_)|(with_reducible intro _)|(refine qbD hce ?_;simp only[go_sem,seval,Try.results80])|(refine @Exists.intro I _ (I.d D.nil) ?_;simp only[go_sem,seval,Try.results80])|((with_reducible (show Region.lexB _ _=true));kernel_rfl)|((try rw[qad]);omega)
 have hsd:qcO (qaq c) net=qaY (qaq c) net (qaq c).length:=rfl
 rw[hsd]
 generalize qaq c=cells at *
 refine qao (E:=Try.env 0) Try.tok (σ:=Nat) (fun i=>[(1,.d (dI net)),(5,.sl 1 (qaY cells net i).length 1 0 (qaY cells net i).length),(9,.d (dCes cells)),(10,.d (dI cells.length)),(11,.d (dI i))]) (fun i=>[.dead 0,.row (qaY cells net i).length 1 true ((qaY cells net i).map (D.int .i64))]) (fun i=>i≤cells.length) (fun i=>cells.length-i) [] [(5,1,true)] 1000 1000 ?_ ?_
 ·simp only[go_sem,seval]
  exact⟨0,by omega,by simp[qaY]⟩
 ·intro i hi
  by_cases hlt:i<cells.length
  ·have hx:=hin _ (qaj hlt:cells.getD i ce0∈cells)
   have hsn:qaY cells net (i+1)=qaY cells net i++qey (cells.getD i ce0) net i:=rfl
   rw[qka hx.2.1] at hsn
   have hql:=qdj (fun x hx=>(hin x hx).2.1) net i (by omega)
   have hct:=Try.c_Contains (cells.getD i ce0).inputs net (by omega)
   generalize hx9:cells.getD i ce0=x at *
   generalize qaY cells net i=q at *
   simp only[go_sem,seval,Try.results80,hx9]
   repeat' first|assumption|(simp (disch:=first|assumption|omega|(simp;done)|(simp;omega)) only[qaa,qac,List.take_of_length_le,qab,qae,qaf,qag,qah,qam];try simp only[go_sem,seval,Try.results80,hx9])|(with_reducible refine And.intro ?_ ?_)|(with_reducible intro _)|(refine qai hct ?_;simp only[go_sem,seval,Try.results80,hx9])|(refine @Exists.intro I _ (I.d D.nil) ?_;simp only[go_sem,seval,Try.results80,hx9])|((with_reducible (show Region.lexB _ _=true));kernel_rfl)|((try rw[qad]);omega)
   ·rename_i h1
    rw[if_pos h1] at hsn
    refine⟨i+1,by omega,by omega,⟨?_,rfl⟩,?_,?_⟩ <;> rw[hsn] <;> simp
   ·rename_i h1
    rw[if_neg h1,List.append_nil] at hsn
    refine⟨i+1,by omega,by omega,⟨?_,rfl⟩,?_,?_⟩ <;> rw[hsn]
  ·obtain rfl:i=cells.length:=by omega
   simp only[go_sem,seval,Try.results80]
   repeat' first|assumption|(simp (disch:=first|assumption|omega|(simp;done)|(simp;omega)) only[qaa,qac,List.take_of_length_le,qab,qae,qaf,qag,qah,qam];try simp only[go_sem,seval,Try.results80])|(with_reducible refine And.intro ?_ ?_)|(with_reducible intro _)|(refine @Exists.intro I _ (I.d D.nil) ?_;simp only[go_sem,seval,Try.results80])|((with_reducible (show Region.lexB _ _=true));kernel_rfl)|((try rw[qad]);omega)
theorem Try.c_tiles (n:Nin) (place:List Int) (hs : ∀ i∈n.sinks,0≤i∧i<place.length) (hk:n.cell<place.length) (hl:n.sinks.length≤1000) (hl2:n.pads.length≤1000) (hp:place.length≤1000):Pure Try.prog 81 [dNi n,dIs place] (dIs (qb8 n place)):=by
 refine qau (E:=Try.env 0) Try.tok rfl 1000 Try.func81 rfl rfl Try.ntmps81 (by simp) fun ok=>?_
 simp only[go_sem,seval] at ok
 simp only[go_sem,seval,Try.results81]
 have hT:qb8 n place=srcT n place::(n.sinks.map (qbA place)++n.pads):=rfl
 rw[hT]
 repeat' first|assumption|(simp (disch:=first|assumption|omega|(simp;done)|(simp;omega)) only[qaa,qac,List.take_of_length_le,qab,qae,qaf,qag,qah,qam];try simp only[go_sem,seval,Try.results81])|(with_reducible refine And.intro ?_ ?_)|(with_reducible intro _)|(refine @Exists.intro I _ (I.d D.nil) ?_;simp only[go_sem,seval,Try.results81])|((with_reducible (show Region.lexB _ _=true));kernel_rfl)|((try rw[qad]);omega)
 ·rename_i h9
  rw[show srcT n place=place.getD n.cell.toNat 0 from if_pos h9]
  generalize place.getD n.cell.toNat 0=s at *
  refine qao (E:=Try.env 0) Try.tok (σ:=Nat) (fun i=>[(1,.d (dIs place)),(2,.ptr 0 0),(5,.sl 1 i 1 0 (i+1)),(22,.d (dIs n.sinks)),(23,.d (dI n.sinks.length)),(24,.d (dI i))]) (fun i=>[.box [.d (dI n.net),.d (dI n.cell),.d (dI n.tile),.d (dIs n.sinks),.d (dIs n.pads)],.row i 1 true ((s::(n.sinks.take i).map (qbA place)).map (D.int .i64))]) (fun i=>i≤n.sinks.length) (fun i=>n.sinks.length-i) [] [] 1000 1000 ?_ ?_
  ·simp only[go_sem,seval]
   exact⟨0,by omega,by simp⟩
  ·intro i hi
   by_cases hlt:i<n.sinks.length
   ·have hts:(n.sinks.take (i+1)).map (qbA place)=(n.sinks.take i).map (qbA place) ++ [qbA place (n.sinks.getD i 0)]:=qaT 0 hlt
    have hb:=hs _ (qaj hlt:n.sinks.getD i 0∈n.sinks)
    have hql:(s::(n.sinks.take i).map (qbA place)).length=i+1:=by simp;omega
    have htd:qbA place (n.sinks.getD i 0)=place.getD (n.sinks.getD i 0).toNat 0:=rfl
    generalize hx9:n.sinks.getD i 0=x at *
    have hq2:s::(n.sinks.take (i+1)).map (qbA place)=(s::(n.sinks.take i).map (qbA place)) ++ [place.getD x.toNat 0]:=by rw[hts,htd];rfl
    generalize (s::(n.sinks.take i).map (qbA place))=q at *
    simp only[go_sem,seval,Try.results81,hx9,hql]
    repeat' first|assumption|(simp (disch:=first|assumption|omega|(simp;done)|(simp;omega)) only[qaa,qac,List.take_of_length_le,qab,qae,qaf,qag,qah,qam];try simp only[go_sem,seval,Try.results81,hx9,hql])|(with_reducible refine And.intro ?_ ?_)|(with_reducible intro _)|(refine @Exists.intro I _ (I.d D.nil) ?_;simp only[go_sem,seval,Try.results81,hx9,hql])|((with_reducible (show Region.lexB _ _=true));kernel_rfl)|((try rw[qad]);omega)
    refine⟨i+1,by omega,by omega,rfl,rfl,?_⟩
    rw[←hq2]
    rfl
   ·obtain rfl:i=n.sinks.length:=by omega
    rw[List.take_length]
    simp only[go_sem,seval,Try.results81]
    repeat' first|assumption|(simp (disch:=first|assumption|omega|(simp;done)|(simp;omega)) only[qaa,qac,List.take_of_length_le,qab,qae,qaf,qag,qah,qam];try simp only[go_sem,seval,Try.results81])|(with_reducible refine And.intro ?_ ?_)|(with_reducible intro _)|(refine @Exists.intro I _ (I.d D.nil) ?_;simp only[go_sem,seval,Try.results81])|((with_reducible (show Region.lexB _ _=true));kernel_rfl)|((try rw[qad]);omega)
 ·rename_i h9
  rw[show srcT n place=n.tile from if_neg h9]
  generalize n.tile=s at *
  refine qao (E:=Try.env 0) Try.tok (σ:=Nat) (fun i=>[(1,.d (dIs place)),(2,.ptr 0 0),(5,.sl 1 i 1 0 (i+1)),(22,.d (dIs n.sinks)),(23,.d (dI n.sinks.length)),(24,.d (dI i))]) (fun i=>[.box [.d (dI n.net),.d (dI n.cell),.d (dI s),.d (dIs n.sinks),.d (dIs n.pads)],.row i 1 true ((s::(n.sinks.take i).map (qbA place)).map (D.int .i64))]) (fun i=>i≤n.sinks.length) (fun i=>n.sinks.length-i) [] [] 1000 1000 ?_ ?_
  ·simp only[go_sem,seval]
   exact⟨0,by omega,by simp⟩
  ·intro i hi
   by_cases hlt:i<n.sinks.length
   ·have hts:(n.sinks.take (i+1)).map (qbA place)=(n.sinks.take i).map (qbA place) ++ [qbA place (n.sinks.getD i 0)]:=qaT 0 hlt
    have hb:=hs _ (qaj hlt:n.sinks.getD i 0∈n.sinks)
    have hql:(s::(n.sinks.take i).map (qbA place)).length=i+1:=by simp;omega
    have htd:qbA place (n.sinks.getD i 0)=place.getD (n.sinks.getD i 0).toNat 0:=rfl
    generalize hx9:n.sinks.getD i 0=x at *
    have hq2:s::(n.sinks.take (i+1)).map (qbA place)=(s::(n.sinks.take i).map (qbA place)) ++ [place.getD x.toNat 0]:=by rw[hts,htd];rfl
    generalize (s::(n.sinks.take i).map (qbA place))=q at *
    simp only[go_sem,seval,Try.results81,hx9,hql]
    repeat' first|assumption|(simp (disch:=first|assumption|omega|(simp;done)|(simp;omega)) only[qaa,qac,List.take_of_length_le,qab,qae,qaf,qag,qah,qam];try simp only[go_sem,seval,Try.results81,hx9,hql])|(with_reducible refine And.intro ?_ ?_)|(with_reducible intro _)|(refine @Exists.intro I _ (I.d D.nil) ?_;simp only[go_sem,seval,Try.results81,hx9,hql])|((with_reducible (show Region.lexB _ _=true));kernel_rfl)|((try rw[qad]);omega)
    refine⟨i+1,by omega,by omega,rfl,rfl,?_⟩
    rw[←hq2]
    rfl
   ·obtain rfl:i=n.sinks.length:=by omega
    rw[List.take_length]
    simp only[go_sem,seval,Try.results81]
    repeat' first|assumption|(simp (disch:=first|assumption|omega|(simp;done)|(simp;omega)) only[qaa,qac,List.take_of_length_le,qab,qae,qaf,qag,qah,qam];try simp only[go_sem,seval,Try.results81])|(with_reducible refine And.intro ?_ ?_)|(with_reducible intro _)|(refine @Exists.intro I _ (I.d D.nil) ?_;simp only[go_sem,seval,Try.results81])|((with_reducible (show Region.lexB _ _=true));kernel_rfl)|((try rw[qad]);omega)
end Go.Proofs

set_option linter.unusedVariables false
set_option linter.unusedSimpArgs false
namespace Go.VL
theorem qkb {hops:List (Int×Int)}(hn:(qap hops).Nodup) {i j:Nat}(hi:i<hops.length) (hj:j<hops.length) (h:(hops.getD i (0,0)).1=(hops.getD j (0,0)).1):i=j:=by
 refine qix.1 hn i j (by simp[qap];omega) (by simp[qap];omega) ?_
 have e : ∀ k,k<hops.length→(qap hops).getD k 0=(hops.getD k (0,0)).1:=fun k hk=>by simp[qap,List.getD,hk]
 rw[e i hi,e j hj,h]
theorem qkc {c:Circ}{cells:List Cel}{place:List Int} : ∀ k:Nat,(qeX c cells place k).Nodup∧(∀ n∈qeX c cells place k,1≤n∧n≤k)∧(qeX c cells place k).length≤k
 | 0=>by simp[qeX]
 | k+1=>by
  obtain⟨h1,h2,h3⟩:=qkc (c:=c) (cells:=cells) (place:=place) k
  rw[qfg]
  split
  ·rw[List.append_nil]
   exact⟨h1,fun n hn=>by have:=h2 n hn;omega,by omega⟩
  ·refine⟨?_,fun n hn=>?_,by simp;omega⟩
   ·rw[List.nodup_append]
    refine⟨h1,by simp,fun a ha b hb e=>?_⟩
    obtain rfl:b=(k:Int)+1:=by simpa using hb
    have:=h2 a ha;omega
   ·rcases List.mem_append.1 hn with h|h
    ·have:=h2 n h;omega
    ·obtain rfl:n=(k:Int)+1:=by simpa using h
     omega
structure RtsOk (routes:List Rt):Prop where
 nd:(routes.map (·.net)).Nodup
 net : ∀ r∈routes,1≤r.net
 tree : ∀ r∈routes,∃ busy,TreeOk busy r.hops
 len:routes.length≤100
theorem RtsOk.hops {routes:List Rt}(h:RtsOk routes) : ∀ r∈routes,r.hops.length≤25:=fun r hr=>by
 obtain⟨b,hb⟩:=h.tree r hr
 exact qcG hb
theorem qkd {c:Circ}(hc:c.Valid) {cells:List Cel}{place:List Int}(hp:PlaceOk cells.length place) {busy0:List (List Bool)}(hb:BusyOk busy0) {routes:List Rt}(h:qcw c cells place busy0=some routes) :
  ∃ busy,RoutesOk c cells place busy0 (c.vars.toNat-1) busy routes:=by
 rw[qcw] at h
 cases e:qcm c cells place busy0 (c.vars.toNat-1) with
 | none=>rw[e] at h;cases h
 | some s=>
  obtain⟨busy,out⟩:=s
  rw[e] at h
  simp only[Option.map_some,Option.some.injEq] at h
  subst h
  exact⟨busy,qfU hc hp hb _ e⟩
theorem ql7 {c:Circ}(hc:c.Valid) {cells:List Cel}{place:List Int}(hp:PlaceOk cells.length place) {busy0:List (List Bool)}(hb:BusyOk busy0) {routes:List Rt}(h:qcw c cells place busy0=some routes):RtsOk routes:=by
 obtain⟨busy,hR⟩:=qkd hc hp hb h
 obtain⟨n1,n2,n3⟩:=qkc (c:=c) (cells:=cells) (place:=place) (c.vars.toNat-1)
 have hv:=hc.vars_bd
 have e:routes.length=(qeX c cells place (c.vars.toNat-1)).length:=by rw[←hR.nets,List.length_map]
 exact⟨by rw[hR.nets];exact n1,fun r hr=>(hR.each r hr).net.1,fun r hr=>⟨_,(hR.each r hr).tree⟩,by omega⟩
end Go.VL

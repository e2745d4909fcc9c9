/- What reaches what: routes of all nets. Conditions: none; plain lemmas. -/
import Derived.Test.YtoanmdnkgjdinaaD4
set_option linter.unusedVariables false
set_option linter.unusedSimpArgs false
namespace Go.VL
def qbR (cells:List Cel) (place:List Int) (net:Int):Nat→List Int
 | 0=>[]
 | i+1=>qbR cells place net i++(if net∈(cells.getD i ce0).inputs then [place.getD i 0] else [])
theorem qi7 {cells:List Cel}{place:List Int}{net t:Int} : ∀ {n:Nat},t∈qbR cells place net n↔∃ i:Nat,i<n∧net∈(cells.getD i ce0).inputs∧t=place.getD i 0
 | 0=>by simp[qbR]
 | n+1=>by
  rw[qbR,List.mem_append,qi7]
  constructor
  ·rintro(⟨o,h1,h2,h3⟩|h)
   ·exact⟨o,by omega,h2,h3⟩
   ·split at h
    ·rename_i h2
     exact⟨n,by omega,h2,by simpa using h⟩
    ·simp at h
  ·rintro⟨o,h1,h2,h3⟩
   by_cases ho:o<n
   ·exact .inl ⟨o,ho,h2,h3⟩
   ·obtain rfl:o=n:=by omega
    rw[if_pos h2]
    exact .inr (by simp[h3])
theorem qi8 {cells:List Cel}{place:List Int}{net:Int} : ∀ i,(qbR cells place net i).length≤i
 | 0=>by simp[qbR]
 | i+1=>by
  have:=qi8 (cells:=cells) (place:=place) (net:=net) i
  rw[qbR,List.length_append]
  split <;> simp <;> omega
def qfp (c:Circ) (cells:List Cel) (place:List Int) (net:Int):List Int:=qbR cells place net cells.length++qaL c net c.outs.length
theorem qfc {c:Circ}{cells:List Cel}{place:List Int}{net t:Int}:t∈qfp c cells place net↔t∈qaz c cells place net:=by
 rw[qfp,List.mem_append,qi7,qgF,qcB]
theorem qi9 {c:Circ}{cells:List Cel}{place:List Int}{net:Int}:qfp c cells place net=[]↔qaz c cells place net=[]:=by
 rw[List.eq_nil_iff_forall_not_mem,List.eq_nil_iff_forall_not_mem]
 exact⟨fun h t ht=>h t (qfc.2 ht),fun h t ht=>h t (qfc.1 ht)⟩
def srcK (cells:List Cel) (place:List Int) (net:Int):Nat→Int
 | 0=>(net-1)*5
 | k+1=>if(cells.getD k ce0).net=net then place.getD k 0 else srcK cells place net k
theorem qoB {cells:List Cel}{place:List Int}{net:Int} : ∀ k,srcK cells place net k=if 0≤qcY cells net k then place.getD (qcY cells net k).toNat 0 else(net-1)*5
 | 0=>by simp[srcK,qcY]
 | k+1=>by
  rw[srcK,qcY]
  by_cases h:(cells.getD k ce0).net=net
  ·rw[if_pos h,if_pos h,if_pos (by omega),Int.toNat_natCast]
  ·rw[if_neg h,if_neg h];exact qoB k
def cntR (rs:List Rt) (net:Int):Nat→Int
 | 0=>0
 | i+1=>if(rs.getD i rt0).net=net then cntR rs net i+1 else cntR rs net i
theorem qoC (rs:List Rt) (net:Int) : ∀ i:Nat,0≤cntR rs net i∧cntR rs net i≤i
 | 0=>by simp[cntR]
 | i+1=>by
  have:=qoC rs net i
  rw[cntR]
  split <;> omega
theorem qoD {rs:List Rt}(hn:(rs.map (·.net)).Nodup) (net:Int) : ∀ i,i≤rs.length→cntR rs net i=if net∈(rs.take i).map (·.net) then 1 else 0
 | 0,_=>by simp[cntR]
 | i+1,hi=>by
  have ih:=qoD hn net i (by omega)
  have hts:(rs.take (i+1)).map (·.net)=(rs.take i).map (·.net) ++ [(rs.getD i rt0).net]:=by
   rw[List.take_succ_eq_append_getElem (by omega),List.map_append]
   simp[List.getD,show i<rs.length by omega]
  rw[cntR,ih,hts]
  by_cases h:(rs.getD i rt0).net=net
  ·have h2:net∉(rs.take i).map (·.net):=fun hm=>by
    have hd:((rs.take (i+1)).map (·.net)).Nodup:=by rw[List.map_take];exact hn.sublist (List.take_sublist _ _)
    rw[hts,List.nodup_append] at hd
    exact hd.2.2 _ hm _ (by simp) h.symm
   rw[if_pos h,if_neg h2,if_pos (by rw[h];simp)];rfl
  ·rw[if_neg h]
   have:net∈(rs.take i).map (·.net) ++ [(rs.getD i rt0).net]↔net∈(rs.take i).map (·.net):=by
    rw[List.mem_append,List.mem_singleton]
    exact⟨fun h2=>h2.resolve_right fun h3=>h h3.symm,.inl⟩
   simp only[this]
theorem qgI {c:Circ}{cells:List Cel}{place:List Int}{k:Nat}{n:Int}:n∈qc7 c cells place k↔(1≤n∧n≤k)∧qdu c cells place n≠[]:=by
 rw[qc7,List.mem_filter,decide_eq_true_eq]
 refine and_congr_left fun _=>?_
 constructor
 ·intro h
  obtain⟨j,hj,rfl⟩:=List.mem_map.1 h
  have:=List.mem_range.1 hj
  omega
 ·rintro⟨h1,h2⟩
  exact List.mem_map.2 ⟨(n-1).toNat,List.mem_range.2 (by omega),by omega⟩
theorem qmR {c:Circ}(hc:c.Valid) {place:List Int}{busy0 busy:List (List Bool)}{rs:List Rt}(h:RoutesOk c (qaj c) place busy0 (c.vars.toNat-1) busy rs) {net:Int}(h0:0≤net) (h1:net<c.vars) :
  cntR rs net rs.length=if 0<net∧qfp c (qaj c) place net≠[] then 1 else 0:=by
 have hnd:=(qih (c:=c) (cells:=qaj c) (place:=place) (c.vars.toNat-1)).1
 rw[←h.nets] at hnd
 rw[qoD hnd net _ (Nat.le_refl _),List.take_length,h.nets]
 have:net∈qc7 c (qaj c) place (c.vars.toNat-1)↔0<net∧qfp c (qaj c) place net≠[]:=by
  rw[qgI]
  constructor
  ·rintro⟨h2,h3⟩
   exact⟨by omega,fun h4=>h3 ((qic hc place (by omega) h1).2 (qi9.1 h4))⟩
  ·rintro⟨h2,h3⟩
   exact⟨by omega,fun h4=>h3 (qi9.2 ((qic hc place (by omega) h1).1 h4))⟩
 by_cases h5:net∈qc7 c (qaj c) place (c.vars.toNat-1)
 ·rw[if_pos h5,if_pos (this.1 h5)]
 ·rw[if_neg h5,if_neg (fun h6=>h5 (this.2 h6))]
theorem qin {c:Circ}(hc:c.Valid) {place:List Int}{busy0 busy:List (List Bool)}{rs:List Rt}(h:RoutesOk c (qaj c) place busy0 (c.vars.toNat-1) busy rs) {r:Rt}(hr:r∈rs) :
  (∀ t∈qfp c (qaj c) place r.net,t∈qaq r.hops)∧(r.hops.getD 0 (0,0)).1=srcK (qaj c) place r.net (qaj c).length:=by
 have hk:=h.each r hr
 have hv:=hc.vars_bd
 have hf:=hc.first_bd
 have hn:r.net∈qc7 c (qaj c) place (c.vars.toNat-1):=by rw[←h.nets];exact List.mem_map.2 ⟨r,hr,rfl⟩
 obtain⟨h1,h2⟩:=qgI.1 hn
 have hu:qaz c (qaj c) place r.net≠[]:=fun h3=>h2 ((qic hc place h1.1 (by omega)).2 h3)
 have hp:=qhd hc place h1.1 (by omega:r.net<c.vars) hu
 refine⟨fun t ht=>hk.pins t ?_,?_⟩
 ·rw[hp,qgc]
  exact .inr (qfc.1 ht)
 ·obtain⟨q,hq⟩:=hk.src
  obtain⟨r2,hr2⟩:=qeU (l:=qaz c (qaj c) place r.net) (out:=[srcT (ninC c (qaj c) r.net) place])
  rw[hp,hr2] at hq
  rw[hq,qoB]
  rfl
end Go.VL

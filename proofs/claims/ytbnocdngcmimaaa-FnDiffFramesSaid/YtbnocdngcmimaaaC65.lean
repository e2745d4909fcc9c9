/- What lookup tables compute, and which of them there are. Conditions: none; plain definitions and lemmas. -/
import Derived.Test.YtbnocdngcmimaaaC61
set_option linter.unusedVariables false
set_option linter.unusedSimpArgs false
namespace Go.VL
section vals
variable {c:Circ}{st ins:List Bool}
end vals
noncomputable def qhO (c:Circ) (i:Nat):Lut:=⟨c.first+(i:Int),(qcK c).getD (c.first.toNat+i) [],qiy c (c.first+(i:Int)) ((qcK c).getD (c.first.toNat+i) [])⟩
structure MapOk (c:Circ) (j:Nat) (need:List Bool) (new:List Lut):Prop where
 each : ∀ l∈new,∃ i,i<j∧l=qhO c i
 asc:new.Pairwise fun a b=>a.var<b.var
 all : ∀ i,i<j→((∃ l∈new,l.var=c.first+(i:Int))↔need.getD (c.first.toNat+i) false=true∨∃ l∈new,c.first+(i:Int)∈l.leaves)
theorem qkS {c:Circ}(hc:c.Valid) : ∀ (j:Nat),j≤c.gates.length→∀ (need:List Bool) (out:List Lut),need.length=c.vars.toNat→∃ new,mapD c j need out=new++out∧MapOk c j need new
 | 0,_,need,out,_=>⟨[],rfl,by simp,by simp,by omega⟩
 | j+1,hj,need,out,hn=>by
  have hf:=hc.first_bd
  have hv:=hc.vars_bd
  have hvv:c.vars=c.first+(c.gates.length:Int):=rfl
  have hb:=qeV hc (i:=j) (by omega)
  simp only[mapD]
  split
  ·rename_i hnd
   obtain⟨new,e,m⟩:=qkS hc j (by omega) (qcg need ((qcK c).getD (c.first.toNat+j) [])) (qhO c j::out) (by rw[qdQ];exact hn)
   refine⟨new ++ [qhO c j],by rw[List.append_assoc];exact e,fun l hl=>?_,?_,fun i hi=>?_⟩
   ·rcases List.mem_append.1 hl with h|h
    ·obtain⟨i,h1,h2⟩:=m.each l h
     exact⟨i,by omega,h2⟩
    ·obtain rfl:l=qhO c j:=by simpa using h
     exact⟨j,by omega,rfl⟩
   ·rw[List.pairwise_append]
    refine⟨m.asc,by simp,fun a ha b hb2=>?_⟩
    obtain rfl:b=qhO c j:=by simpa using hb2
    obtain⟨i,h1,rfl⟩:=m.each a ha
    show c.first+(i:Int)<c.first+(j:Int)
    omega
   ·have hleaf : ∀ i',i'<j→(c.first+(i':Int)∈(qhO c j).leaves↔c.first+(i':Int)∈(qcK c).getD (c.first.toNat+j) []):=fun i' _=>Iff.rfl
    by_cases hij:i=j
    ·subst hij
     constructor
     ·exact fun _=>.inl hnd
     ·exact fun _=>⟨qhO c i,by simp,rfl⟩
    ·have hi2:i<j:=by omega
     have hset:=qiz ((qcK c).getD (c.first.toNat+j) []) need (c.first.toNat+i) (fun v hv=>by have:=hb.2.2 v hv;omega)
     have hmi:=m.all i hi2
     rw[hset,Bool.or_eq_true,decide_eq_true_eq] at hmi
     have hlt:c.first.toNat+i<need.length:=by omega
     have ev:((c.first.toNat+i:Nat):Int)=c.first+(i:Int):=by omega
     rw[ev] at hmi
     constructor
     ·rintro⟨l,hl,hlv⟩
      rcases List.mem_append.1 hl with h|h
      ·rcases hmi.1 ⟨l,h,hlv⟩ with(h2|⟨_,h2⟩)|⟨l2,h2,h3⟩
       ·exact .inl h2
       ·exact .inr ⟨qhO c j,by simp,h2⟩
       ·exact .inr ⟨l2,List.mem_append_left _ h2,h3⟩
      ·obtain rfl:l=qhO c j:=by simpa using h
       have:c.first+(j:Int)=c.first+(i:Int):=hlv
       omega
     ·rintro(h|⟨l,hl,hlv⟩)
      ·obtain⟨l,h1,h2⟩:=hmi.2 (.inl (.inl h))
       exact⟨l,List.mem_append_left _ h1,h2⟩
      ·rcases List.mem_append.1 hl with h|h
       ·obtain⟨l,h1,h2⟩:=hmi.2 (.inr ⟨l,h,hlv⟩)
        exact⟨l,List.mem_append_left _ h1,h2⟩
       ·obtain rfl:l=qhO c j:=by simpa using h
        obtain⟨l,h1,h2⟩:=hmi.2 (.inl (.inr ⟨hlt,hlv⟩))
        exact⟨l,List.mem_append_left _ h1,h2⟩
  ·rename_i hnd
   obtain⟨new,e,m⟩:=qkS hc j (by omega) need out hn
   refine⟨new,e,fun l hl=>?_,m.asc,fun i hi=>?_⟩
   ·obtain⟨i,h1,h2⟩:=m.each l hl
    exact⟨i,by omega,h2⟩
   ·by_cases hij:i=j
    ·subst hij
     constructor
     ·rintro⟨l,hl,hlv⟩
      obtain⟨i2,h1,rfl⟩:=m.each l hl
      have:c.first+(i2:Int)=c.first+(i:Int):=hlv
      omega
     ·rintro(h|⟨l,hl,hlv⟩)
      ·exact absurd h hnd
      ·obtain⟨i2,h1,rfl⟩:=m.each l hl
       have:=(qeV hc (i:=i2) (by omega)).2.2 _ hlv
       omega
    ·exact m.all i (by omega)
theorem qj0 (c:Circ):(qjb c).length=c.vars.toNat:=by rw[qjb,qdQ];simp
theorem qkT {c:Circ}(hc:c.Valid) : ∀ v∈qck c,0≤v∧v<c.vars:=by
 intro v hv
 obtain⟨l,hl,rfl⟩:=List.mem_map.1 hv
 have:qbp l c.vars:=by
  rcases List.mem_append.1 hl with h|h
  ·exact hc.o l h
  ·exact hc.n l h
 unfold qbp at this
 omega
theorem qgY {c:Circ}(hc:c.Valid):MapOk c c.gates.length (qjb c) (qgc c):=by
 obtain⟨new,e,m⟩:=qkS hc c.gates.length (Nat.le_refl _) (qjb c) [] (qj0 c)
 rw[List.append_nil] at e
 rw[qgc,e]
 exact m
theorem qj1 {c:Circ}(hc:c.Valid):(qgc c).length≤c.gates.length:=by
 have m:=qgY hc
 have h1:((qgc c).map fun l=>(l.var-c.first).toNat).Nodup:=by
  rw[List.nodup_iff_pairwise_ne,List.pairwise_map]
  refine m.asc.imp_of_mem fun {a b} ha hb h=>?_
  obtain⟨i,-,rfl⟩:=m.each a ha
  obtain⟨j,-,rfl⟩:=m.each b hb
  have:c.first+(i:Int)<c.first+(j:Int):=h
  show(c.first+(i:Int)-c.first).toNat≠(c.first+(j:Int)-c.first).toNat
  omega
 have h2:((qgc c).map fun l=>(l.var-c.first).toNat) ⊆ List.range c.gates.length:=by
  intro x hx
  obtain⟨l,hl,rfl⟩:=List.mem_map.1 hx
  obtain⟨i,hi,rfl⟩:=m.each l hl
  have:(qhO c i).var=c.first+(i:Int):=rfl
  exact List.mem_range.2 (by omega)
 have:=h1.length_le_of_subset h2
 simpa using this
theorem qiA {c:Circ}(hc:c.Valid):(qdm c).length≤17:=by
 have:=qj1 hc
 have:=hc.ln
 have:=hc.lg
 simp only[qdm,List.length_append,List.length_map,List.length_range]
 omega
end Go.VL

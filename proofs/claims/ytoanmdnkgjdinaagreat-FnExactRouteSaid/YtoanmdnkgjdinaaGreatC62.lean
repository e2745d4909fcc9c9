/- Contracts, plain definitions and lemmas. Conditions: none; lemmas. -/
import Derived.Test.YtoanmdnkgjdinaaGreatC61
import Derived.Test.YtoanmdnkgjdinaaGreatC70
set_option linter.unusedVariables false
set_option linter.unusedSimpArgs false
namespace Go.VL
section vals
variable {c:Circ}{st ins:List Bool}
end vals
noncomputable def qfW (c:Circ) (i:Nat):Lut:=⟨c.first+(i:Int),(qbK c).getD (c.first.toNat+i) [],qfV c (c.first+(i:Int)) ((qbK c).getD (c.first.toNat+i) [])⟩
structure MapOk (c:Circ) (j:Nat) (need:List Bool) (new:List Lut):Prop where
 each : ∀ l∈new,∃ i,i<j∧l=qfW c i
 asc:new.Pairwise fun a b=>a.var<b.var
 all : ∀ i,i<j→((∃ l∈new,l.var=c.first+(i:Int))↔need.getD (c.first.toNat+i) false=true∨∃ l∈new,c.first+(i:Int)∈l.leaves)
theorem qk2 {c:Circ}(hc:c.Valid) : ∀ (j:Nat),j≤c.gates.length→∀ (need:List Bool) (out:List Lut),need.length=c.vars.toNat→∃ new,mapD c j need out=new++out∧MapOk c j need new
 | 0,_,need,out,_=>⟨[],rfl,by simp,by simp,by omega⟩
 | j+1,hj,need,out,hn=>by
  have hf:=hc.first_bd
  have hv:=hc.vars_bd
  have hvv:c.vars=c.first+(c.gates.length:Int):=rfl
  have hb:=qd8 hc (i:=j) (by omega)
  simp only[mapD]
  split
  ·rename_i hnd
   obtain⟨new,e,m⟩:=qk2 hc j (by omega) (qba need ((qbK c).getD (c.first.toNat+j) [])) (qfW c j::out) (by rw[qcj];exact hn)
   refine⟨new ++ [qfW c j],by rw[List.append_assoc];exact e,fun l hl=>?_,?_,fun i hi=>?_⟩
   ·rcases List.mem_append.1 hl with h|h
    ·obtain⟨i,h1,h2⟩:=m.each l h
     exact⟨i,by omega,h2⟩
    ·obtain rfl:l=qfW c j:=by simpa using h
     exact⟨j,by omega,rfl⟩
   ·rw[List.pairwise_append]
    refine⟨m.asc,by simp,fun a ha b hb2=>?_⟩
    obtain rfl:b=qfW c j:=by simpa using hb2
    obtain⟨i,h1,rfl⟩:=m.each a ha
    show c.first+(i:Int)<c.first+(j:Int)
    omega
   ·have hleaf : ∀ i',i'<j→(c.first+(i':Int)∈(qfW c j).leaves↔c.first+(i':Int)∈(qbK c).getD (c.first.toNat+j) []):=fun i' _=>Iff.rfl
    by_cases hij:i=j
    ·subst hij
     constructor
     ·exact fun _=>.inl hnd
     ·exact fun _=>⟨qfW c i,by simp,rfl⟩
    ·have hi2:i<j:=by omega
     have hset:=qdO ((qbK c).getD (c.first.toNat+j) []) need (c.first.toNat+i) (fun v hv=>by have:=hb.2.2 v hv;omega)
     have hmi:=m.all i hi2
     rw[hset,Bool.or_eq_true,decide_eq_true_eq] at hmi
     have hlt:c.first.toNat+i<need.length:=by omega
     have ev:((c.first.toNat+i:Nat):Int)=c.first+(i:Int):=by omega
     rw[ev] at hmi
     constructor
     ·rintro⟨l,hl,hlv⟩
      rcases List.mem_append.1 hl with h|h
      ·rcases hmi.1 ⟨l,h,hlv⟩ with(h2|⟨_,h2⟩)|⟨l2,h2,h3⟩
       ·exact .inl h2
       ·exact .inr ⟨qfW c j,by simp,h2⟩
       ·exact .inr ⟨l2,List.mem_append_left _ h2,h3⟩
      ·obtain rfl:l=qfW c j:=by simpa using h
       have:c.first+(j:Int)=c.first+(i:Int):=hlv
       omega
     ·rintro(h|⟨l,hl,hlv⟩)
      ·obtain⟨l,h1,h2⟩:=hmi.2 (.inl (.inl h))
       exact⟨l,List.mem_append_left _ h1,h2⟩
      ·rcases List.mem_append.1 hl with h|h
       ·obtain⟨l,h1,h2⟩:=hmi.2 (.inr ⟨l,h,hlv⟩)
        exact⟨l,List.mem_append_left _ h1,h2⟩
       ·obtain rfl:l=qfW c j:=by simpa using h
        obtain⟨l,h1,h2⟩:=hmi.2 (.inl (.inr ⟨hlt,hlv⟩))
        exact⟨l,List.mem_append_left _ h1,h2⟩
  ·rename_i hnd
   obtain⟨new,e,m⟩:=qk2 hc j (by omega) need out hn
   refine⟨new,e,fun l hl=>?_,m.asc,fun i hi=>?_⟩
   ·obtain⟨i,h1,h2⟩:=m.each l hl
    exact⟨i,by omega,h2⟩
   ·by_cases hij:i=j
    ·subst hij
     constructor
     ·rintro⟨l,hl,hlv⟩
      obtain⟨i2,h1,rfl⟩:=m.each l hl
      have:c.first+(i2:Int)=c.first+(i:Int):=hlv
      omega
     ·rintro(h|⟨l,hl,hlv⟩)
      ·exact absurd h hnd
      ·obtain⟨i2,h1,rfl⟩:=m.each l hl
       have:=(qd8 hc (i:=i2) (by omega)).2.2 _ hlv
       omega
    ·exact m.all i (by omega)
theorem qhO (c:Circ):(qeF c).length=c.vars.toNat:=by rw[qeF,qcj];simp
theorem qfq {c:Circ}(hc:c.Valid) : ∀ v∈qbb c,0≤v∧v<c.vars:=by
 intro v hv
 obtain⟨l,hl,rfl⟩:=List.mem_map.1 hv
 have:qbe l c.vars:=by
  rcases List.mem_append.1 hl with h|h
  ·exact hc.o l h
  ·exact hc.n l h
 unfold qbe at this
 omega
theorem qnO {c:Circ}(hc:c.Valid) {v:Nat}(hv:(v:Int)<c.vars):(qeF c).getD v false=decide ((v:Int)∈qbb c):=by
 rw[qeF,qdO _ _ _ fun z hz=>(qfq hc z hz).1]
 have e:(List.replicate c.vars.toNat false).getD v false=false:=by
  rw[List.getD_eq_getElem?_getD,List.getElem?_replicate];split <;> rfl
 rw[e,Bool.false_or]
 exact decide_eq_decide.2 ⟨fun h=>h.2,fun h=>⟨by simp;omega,h⟩⟩
theorem qd9 {c:Circ}(hc:c.Valid):MapOk c c.gates.length (qeF c) (qdu c):=by
 obtain⟨new,e,m⟩:=qk2 hc c.gates.length (Nat.le_refl _) (qeF c) [] (qhO c)
 rw[List.append_nil] at e
 rw[qdu,e]
 exact m
theorem qpG {c:Circ}(hc:c.Valid) {i:Nat}(hi:i<c.gates.length):qfW c i∈qdu c↔c.first+(i:Int)∈qbb c∨∃ l∈qdu c,c.first+(i:Int)∈l.leaves:=by
 have hf:=hc.first_bd
 have m:=qd9 hc
 have:=m.all i hi
 have hvv:c.vars=c.first+(c.gates.length:Int):=rfl
 rw[qnO hc (by omega),decide_eq_true_eq,show((c.first.toNat+i:Nat):Int)=c.first+(i:Int) by omega] at this
 rw[←this]
 constructor
 ·exact fun h=>⟨_,h,rfl⟩
 ·rintro⟨l,hl,hv⟩
  obtain⟨i2,h1,rfl⟩:=m.each l hl
  have:c.first+(i2:Int)=c.first+(i:Int):=hv
  obtain rfl:i2=i:=by omega
  exact hl
theorem qhP {c:Circ}(hc:c.Valid):(qdu c).length≤c.gates.length:=by
 have m:=qd9 hc
 have h1:((qdu c).map fun l=>(l.var-c.first).toNat).Nodup:=by
  rw[List.nodup_iff_pairwise_ne,List.pairwise_map]
  refine m.asc.imp_of_mem fun {a b} ha hb h=>?_
  obtain⟨i,-,rfl⟩:=m.each a ha
  obtain⟨j,-,rfl⟩:=m.each b hb
  have:c.first+(i:Int)<c.first+(j:Int):=h
  show(c.first+(i:Int)-c.first).toNat≠(c.first+(j:Int)-c.first).toNat
  omega
 have h2:((qdu c).map fun l=>(l.var-c.first).toNat) ⊆ List.range c.gates.length:=by
  intro x hx
  obtain⟨l,hl,rfl⟩:=List.mem_map.1 hx
  obtain⟨i,hi,rfl⟩:=m.each l hl
  have:(qfW c i).var=c.first+(i:Int):=rfl
  exact List.mem_range.2 (by omega)
 have:=h1.length_le_of_subset h2
 simpa using this
theorem qb4 {c:Circ}(hc:c.Valid):(qan c).length≤17:=by
 have:=qhP hc
 have:=hc.ln
 have:=hc.lg
 simp only[qan,List.length_append,List.length_map,List.length_range]
 omega
end Go.VL

set_option maxRecDepth 20000
set_option linter.unusedVariables false
set_option linter.unusedSimpArgs false
namespace Go.Proofs
open Go Go.VL
theorem Tryz.c_l5Table (c:Circ) (hc:c.Valid) (leaves:List Int) (hl:leaves.length≤3) (v:Int) (hv0:0≤v) (hv:v<c.vars):Pure Tryz.prog 91 [dC c,dI v,dIs leaves] (dI (qfV c v leaves)):=by
 have hpw:=Nat.pow_le_pow_right (n:=2) (by omega) hl
 have hI:(2:Int) ^ leaves.length=((2 ^ leaves.length:Nat):Int):=by simp
 have hfin:qfV c v leaves=((qdN c v leaves (2 ^ leaves.length):Nat):Int):=rfl
 rw[hfin]
 generalize 2 ^ leaves.length=N at *
 refine qam (E:=Tryz.env 0) Tryz.tok rfl 1000 Tryz.func91 rfl rfl Tryz.ntmps91 (by simp) fun ok=>?_
 simp only[go_sem,seval] at ok
 simp only[go_sem,seval,Tryz.results91]
 repeat' first|assumption|(simp (disch:=first|assumption|omega|(simp;done)|(simp;omega)) only[qaa,qac,List.take_of_length_le,qab,qae,qaf];try simp only[go_sem,seval,Tryz.results91])|(with_reducible refine And.intro ?_ ?_)|(with_reducible intro _)|((try rw[qad]);omega)
 refine qaB (E:=Tryz.env 0) Tryz.tok (σ:=Nat) (fun x=>[(0,.d (dC c)),(1,.d (dI v)),(2,.d (dIs leaves)),(3,.ptr 0 0),(7,.d (dI (qdN c v leaves x:Nat))),(8,.d (dI x))]) (fun _=>[.box [.d (dI c.inputs),.d (dIs c.next),.d (dPs c.gates),.d (dIs c.outs)]]) (fun x=>x≤N) (fun x=>N-x) [] 1000 1000 ?_ ?_ ?_
 ·simp only[go_sem,seval]
 ·simp only[go_sem,seval]
  exact⟨0,by omega,rfl,rfl⟩
 ·intro x hx
  have htl:=qhN c v leaves x
  have htp:=Nat.pow_le_pow_right (n:=2) (by omega) (show x≤8 by omega)
  have hI2:(2:Int) ^ x=((2 ^ x:Nat):Int):=by simp
  have hts:qdN c v leaves (x+1)=qdN c v leaves x+(if qcv c leaves x v then 2 ^ x else 0):=rfl
  generalize 2 ^ x=M at *
  by_cases hlt:x<N
  ·have q:=Tryz.c_l5Cone c hc leaves hl x (by omega) (v.toNat+1) v (by omega) hv0 hv
   simp only[go_sem,seval,Tryz.results91,hI,hI2]
   repeat' first|assumption|(simp (disch:=first|assumption|omega|(simp;done)|(simp;omega)) only[qaa,qac,List.take_of_length_le,qab,qae,qaf];try simp only[go_sem,seval,Tryz.results91,hI,hI2])|(with_reducible refine And.intro ?_ ?_)|(with_reducible intro _)|(refine qai q ?_;simp only[go_sem,seval,Tryz.results91,hI,hI2])|((try rw[qad]);omega)
   ·rename_i h9
    exact⟨x+1,by omega,by omega,by rw[hts,if_pos h9];omega,rfl⟩
   ·rename_i h9
    exact⟨x+1,by omega,by omega,by rw[hts,if_neg (by rw[h9];simp)];omega,rfl⟩
  ·simp only[go_sem,seval,Tryz.results91,hI,hI2]
   repeat' first|assumption|(simp (disch:=first|assumption|omega|(simp;done)|(simp;omega)) only[qaa,qac,List.take_of_length_le,qab,qae,qaf];try simp only[go_sem,seval,Tryz.results91,hI,hI2])|(with_reducible refine And.intro ?_ ?_)|(with_reducible intro _)|((try rw[qad]);omega)
   rw[show x=N by omega]
abbrev dLu (l:Lut):D:=.agg [dI l.var,dIs l.leaves,dI l.table]
abbrev dLus (l:List Lut):D:=.lst 3 (l.map fun x=>dLu x)
def lu0:Lut:=⟨0,[],0⟩
theorem qag {l:List Lut}{i:Nat}{z:D}(h:i<l.length):(l.map fun x=>dLu x).getD i z=dLu (l.getD i lu0):=getD_lt _ _ _ _ _ h
theorem Tryz.c_l5Map (c:Circ) (hc:c.Valid):PureF Tryz.prog 65 [dC c] (dLus (qdu c)):=by
 have hf:=hc.first_bd
 have hi0:=hc.i0
 have hi1:=hc.i1
 have hfst:=Tryz.c_l1First c (by omega)
 have hcu:=Tryz.c_l5Cuts c hc
 have hbe:=Tryz.c_l5Best c hc
 have hlo:=hc.lo
 have hln:=hc.ln
 have hlg:=hc.lg
 refine qbI (E:=Tryz.envf 0) Tryz.tok rfl 1000 Tryz.func65 rfl rfl Tryz.ntmps65 (by simp) fun ok=>?_
 simp only[go_sem,seval] at ok
 simp only[go_sem,seval,Tryz.results65]
 refine qdd (E:=Tryz.envf 0) Tryz.tok Tryz.follows 1000 1000 [] (.fst 0 (.fst 1 (.one 2 (.one 3 (.fst 4 (.fst 5 (.fst 6 (.fst 7 (.fst 8 (.done)))))))))) (by kernel_rfl) ?_
 simp only[go_sem,seval,Tryz.results65]
 repeat' first|assumption|(simp (disch:=first|assumption|omega|(simp;done)|(simp;omega)) only[qaa,qac,List.take_of_length_le,qab,qae,qaf];try simp only[go_sem,seval,Tryz.results65])|(with_reducible refine And.intro ?_ ?_)|(with_reducible intro _)|(refine qai hfst ?_;simp only[go_sem,seval,Tryz.results65])|(refine qbt hcu ?_;simp only[go_sem,seval,Tryz.results65])|(refine qbt hbe ?_;simp only[go_sem,seval,Tryz.results65])|((try rw[qad]);omega)
 refine qdd (E:=Tryz.envf 0) Tryz.tok Tryz.follows 1000 1000 [] (.fst 1 (.fst 4 (.fst 2 (.fst 5 (.one 0 (.one 3 (.one 6 (.fst 7 (.done))))))))) (by kernel_rfl) ?_
 simp only[go_sem,seval,Tryz.results65]
 repeat' first|assumption|(simp (disch:=first|assumption|omega|(simp;done)|(simp;omega)) only[qaa,qac,List.take_of_length_le,qab,qae,qaf];try simp only[go_sem,seval,Tryz.results65])|(with_reducible refine And.intro ?_ ?_)|(with_reducible intro _)|(refine qai hfst ?_;simp only[go_sem,seval,Tryz.results65])|((try rw[qad]);omega)
 have hvr:(c.first+(c.gates.length:Int)).toNat=c.vars.toNat:=rfl
 have hvv:c.vars=c.first+(c.gates.length:Int):=rfl
 have hrl:(c.outs++c.next).length=c.outs.length+c.next.length:=by simp
 have hrv:=qfq hc
 have hrd:qbb c=(c.outs++c.next).map (· / 2):=rfl
 have hn0:qeF c=qba (List.replicate c.vars.toNat false) (qbb c):=rfl
 rw[hvr]
 generalize hroots:c.outs++c.next=roots at *
 refine qaq (E:=Tryz.envf 0) Tryz.tok (σ:=Nat) (fun i=>[(0,.d (dC c)),(1,.ptr 0 0),(3,.d (.lst 1 (qcR c (qbK c)))),(5,.d (dI c.first)),(6,.sl 1 0 1 0 c.vars.toNat),(7,.d (dIs roots)),(8,.d (dI i))])
  (fun i=>[.box [.d (dI c.inputs),.d (dIs c.next),.d (dPs c.gates),.d (dIs c.outs)],.row 0 1 true ((qba (List.replicate c.vars.toNat false) ((qbb c).take i)).map D.bool)])
  (fun i=>i≤roots.length) (fun i=>roots.length-i) [] [] 1000 1000 ?_ ?_
 ·simp only[go_sem,seval]
  refine⟨0,by omega,?_⟩
  simp[qba,←hrl]
 ·intro i hi
  have hsl:=qcj ((qbb c).take i) (List.replicate c.vars.toNat false)
  rw[List.length_replicate] at hsl
  by_cases hlt:i<roots.length
  ·have hrg:(qbb c).getD i 0=roots.getD i 0/2:=by rw[hrd];simp[List.getD,hlt]
   have hbd:=hrv _ (qak (by rw[hrd];simpa using hlt):(qbb c).getD i 0∈qbb c)
   have hst:qba (List.replicate c.vars.toNat false) ((qbb c).take (i+1))=(qba (List.replicate c.vars.toNat false) ((qbb c).take i)).set (roots.getD i 0/2).toNat true:=by
    rw[←hrg]
    exact qaH (f:=fun(n:List Bool) (v:Int)=>n.set v.toNat true) (b:=List.replicate c.vars.toNat false) (0:Int) (by rw[hrd];simpa using hlt)
   rw[hrg] at hbd
   simp only[go_sem,seval,Tryz.results65]
   repeat' first|assumption|(simp (disch:=first|assumption|omega|(simp;done)|(simp;omega)) only[qaa,qac,List.take_of_length_le,qab,qae,qaf];try simp only[go_sem,seval,Tryz.results65])|(with_reducible refine And.intro ?_ ?_)|(with_reducible intro _)|((try rw[qad]);omega)
   exact⟨i+1,by omega,by omega,rfl,by rw[hst]⟩
  ·have hst:qba (List.replicate c.vars.toNat false) ((qbb c).take i)=qeF c:=by rw[hn0,List.take_of_length_le (by rw[hrd];simp;omega)]
   rw[hst]
   simp only[go_sem,seval,Tryz.results65]
   repeat' first|assumption|(simp (disch:=first|assumption|omega|(simp;done)|(simp;omega)) only[qaa,qac,List.take_of_length_le,qab,qae,qaf];try simp only[go_sem,seval,Tryz.results65])|(with_reducible refine And.intro ?_ ?_)|(with_reducible intro _)|((try rw[qad]);omega)
   have hne0:=qhO c
   have hlu:qdu c=mapD c c.gates.length (qeF c) []:=rfl
   refine qaq (E:=Tryz.envf 0) Tryz.tok (σ:=Nat×List Bool×List Lut) (fun s=>[(0,.d (dC c)),(1,.ptr 0 0),(3,.d (.lst 1 (qcR c (qbK c)))),(5,.d (dI c.first)),(6,.sl 1 0 1 0 c.vars.toNat),(9,.d (dLus s.2.2)),(10,.d (dI (c.first+(s.1:Int)-1)))])
    (fun s=>[.box [.d (dI c.inputs),.d (dIs c.next),.d (dPs c.gates),.d (dIs c.outs)],.row 0 1 true (s.2.1.map D.bool)])
    (fun s=>s.1≤c.gates.length∧s.2.1.length=c.vars.toNat∧s.2.2.length+s.1≤c.gates.length∧mapD c s.1 s.2.1 s.2.2=qdu c) (fun s=>s.1) [] [] 1000 1000 ?_ ?_
   ·simp only[go_sem,seval]
    refine⟨(c.gates.length,qeF c,[]),⟨by simp,hne0,by simp,hlu.symm⟩,?_⟩
    simp;omega
   ·rintro⟨j,need,out⟩ ⟨hj,hnl,hol,hinv⟩
    simp only at hj hnl hol hinv
    cases j with
    | zero=>
     simp only[go_sem,seval,Tryz.results65]
     repeat' first|assumption|(simp (disch:=first|assumption|omega|(simp;done)|(simp;omega)) only[qaa,qac,List.take_of_length_le,qab,qae,qaf];try simp only[go_sem,seval,Tryz.results65])|(with_reducible refine And.intro ?_ ?_)|(with_reducible intro _)|((try rw[qad]);omega)
     rw[←hinv];rfl
    | succ m=>
     have hbo:=qd8 hc (i:=m) (by omega)
     have hbl:=qkc c
     have ev:(c.first+((m+1:Nat):Int)-1)=c.first+(m:Int):=by omega
     have ev2:(c.first+(m:Int)).toNat=c.first.toNat+m:=by omega
     have hbg : ∀ z,(qcR c (qbK c)).getD (c.first.toNat+m) z=dIs ((qbK c).getD (c.first.toNat+m) []):=fun z=>qke (by omega) (by omega)
     have hstep:mapD c (m+1) need out=if need.getD (c.first.toNat+m) false=true then
       mapD c m (qba need ((qbK c).getD (c.first.toNat+m) [])) (⟨c.first+(m:Int),(qbK c).getD (c.first.toNat+m) [],qfV c (c.first+(m:Int)) ((qbK c).getD (c.first.toNat+m) [])⟩::out)
      else mapD c m need out:=rfl
     have htb:=Tryz.c_l5Table c hc ((qbK c).getD (c.first.toNat+m) []) hbo.2.1 (c.first+(m:Int)) (by omega) (by omega)
     have hbD:(qcR c (qbK c)).length=c.first.toNat+c.gates.length:=by rw[qcQ (by omega)];exact hbl
     rw[ev]
     generalize hL:(qbK c).getD (c.first.toNat+m) []=L at *
     by_cases hnd:need.getD (c.first.toNat+m) false=true
     ·rw[if_pos hnd] at hstep
      simp only[go_sem,seval,Tryz.results65,ev2,hnd,hbg]
      repeat' first|assumption|(simp (disch:=first|assumption|omega|(simp;done)|(simp;omega)) only[qaa,qac,List.take_of_length_le,qab,qae,qaf];try simp only[go_sem,seval,Tryz.results65,ev2,hnd,hbg])|(with_reducible refine And.intro ?_ ?_)|(with_reducible intro _)|((try rw[qad]);omega)
      refine qaq (E:=Tryz.envf 0) Tryz.tok (σ:=Nat) (fun k=>[(0,.d (dC c)),(1,.ptr 0 0),(3,.d (.lst 1 (qcR c (qbK c)))),(5,.d (dI c.first)),(6,.sl 1 0 1 0 c.vars.toNat),(9,.d (dLus out)),(10,.d (dI (c.first+(m:Int)))),(11,.d (dI k))])
       (fun k=>[.box [.d (dI c.inputs),.d (dIs c.next),.d (dPs c.gates),.d (dIs c.outs)],.row 0 1 true ((qba need (L.take k)).map D.bool)])
       (fun k=>k≤L.length) (fun k=>L.length-k) [] [] 1000 1000 ?_ ?_
      ·simp only[go_sem,seval]
       exact⟨0,by omega,rfl,rfl⟩
      ·intro k hk
       have hsl:=qcj (L.take k) need
       by_cases hkt:k<L.length
       ·have hst:qba need (L.take (k+1))=(qba need (L.take k)).set (L.getD k 0).toNat true:=qaH (f:=fun(n:List Bool) (v:Int)=>n.set v.toNat true) (b:=need) (0:Int) hkt
        have hz:=hbo.2.2 _ (qak hkt:L.getD k 0∈L)
        simp only[go_sem,seval,Tryz.results65,ev2,hbg]
        repeat' first|assumption|(simp (disch:=first|assumption|omega|(simp;done)|(simp;omega)) only[qaa,qac,List.take_of_length_le,qab,qae,qaf];try simp only[go_sem,seval,Tryz.results65,ev2,hbg])|(with_reducible refine And.intro ?_ ?_)|(with_reducible intro _)|((try rw[qad]);omega)
        exact⟨k+1,by omega,by omega,rfl,hst.symm⟩
       ·have hst:qba need (L.take k)=qba need L:=by rw[List.take_of_length_le (by omega)]
        rw[hst]
        rw[hst] at hsl
        simp only[go_sem,seval,Tryz.results65,ev2,hbg]
        repeat' first|assumption|(simp (disch:=first|assumption|omega|(simp;done)|(simp;omega)) only[qaa,qac,List.take_of_length_le,qab,qae,qaf];try simp only[go_sem,seval,Tryz.results65,ev2,hbg])|(with_reducible refine And.intro ?_ ?_)|(with_reducible intro _)|((try rw[qad]);omega)
        refine qdd (E:=Tryz.envf 0) Tryz.tok Tryz.follows 1000 1000 [] (.fst 0 (.fst 2 (.fst 3 (.fst 4 (.fst 8 (.fst 9 (.fst 10 (.fst 11 (.fst 16 (.fst 5 (.fst 7 (.fst 12 (.one 1 (.one 6 (.one 13 (.fst 14 (.one 15 (.one 17 (.fst 18 (.done)))))))))))))))))))) (by kernel_rfl) ?_
        simp only[go_sem,seval,Tryz.results65,ev2,hbg]
        repeat' first|assumption|(simp (disch:=first|assumption|omega|(simp;done)|(simp;omega)) only[qaa,qac,List.take_of_length_le,qab,qae,qaf];try simp only[go_sem,seval,Tryz.results65,ev2,hbg])|(with_reducible refine And.intro ?_ ?_)|(with_reducible intro _)|(refine qai htb ?_;simp only[go_sem,seval,Tryz.results65,ev2,hbg])|((try rw[qad]);omega)
        exact⟨(m,qba need L,⟨c.first+(m:Int),L,qfV c (c.first+(m:Int)) L⟩::out),⟨by simp only;omega,hsl.trans hnl,by simp only[List.length_cons];omega,by rw[←hinv,hstep]⟩,by simp only;omega,⟨rfl,by simp only⟩,rfl⟩
     ·rw[if_neg hnd] at hstep
      rw[Bool.not_eq_true] at hnd
      simp only[go_sem,seval,Tryz.results65,ev2,hnd,hbg]
      repeat' first|assumption|(simp (disch:=first|assumption|omega|(simp;done)|(simp;omega)) only[qaa,qac,List.take_of_length_le,qab,qae,qaf];try simp only[go_sem,seval,Tryz.results65,ev2,hnd,hbg])|(with_reducible refine And.intro ?_ ?_)|(with_reducible intro _)|((try rw[qad]);omega)
      exact⟨(m,need,out),⟨by simp only;omega,hnl,by simp only;omega,by rw[←hinv,hstep]⟩,by simp only;omega,⟨rfl,by simp only⟩,rfl⟩
end Go.Proofs

set_option linter.unusedVariables false
set_option linter.unusedSimpArgs false
namespace Go.VL
def qaW (c:Circ) (net:Int):Nat→List Int
 | 0=>[]
 | o+1=>qaW c net o++(if c.outs.getD o 0/2=net then [(o:Int)*5+4] else [])
def qbz (place:List Int) (i:Int):Int:=place.getD i.toNat 0
def qaL (c:Circ) (cells:List Cel) (place:List Int) (net:Int):List Int:=(qcU cells net).map (qbz place)++qaW c net c.outs.length
def qgV (c:Circ) (net:Int):List Int:=if 1≤net∧net≤c.inputs then [(net-1)*5] else []
def qa4 (cells:List Cel) (place:List Int) (net:Int):Nat→List Int
 | 0=>[]
 | i+1=>qa4 cells place net i++(if(cells.getD i ce0).net=net then [place.getD i 0] else [])
def addU (out:List Int) (s:Int):List Int:=if s∈out then out else out ++ [s]
def qdk (c:Circ) (cells:List Cel) (place:List Int) (net:Int):List Int:=
 if qaL c cells place net=[] then [] else(qaL c cells place net).foldl addU (qgV c net++qa4 cells place net cells.length)
structure PlaceOk (n:Nat) (place:List Int):Prop where
 len:place.length=n
 rng : ∀ t∈place,0≤t∧t≤24
 nd:place.Nodup
theorem PlaceOk.get {n:Nat}{place:List Int}(h:PlaceOk n place) {i:Nat}(hi:i<n):0≤place.getD i 0∧place.getD i 0≤24:=h.rng _ (qak (by rw[h.len];exact hi))
theorem qiJ {c:Circ}{net t:Int} : ∀ {n:Nat},t∈qaW c net n↔∃ o:Nat,o<n∧c.outs.getD o 0/2=net∧t=(o:Int)*5+4
 | 0=>by simp[qaW]
 | n+1=>by
  rw[qaW,List.mem_append,qiJ]
  constructor
  ·rintro(⟨o,h1,h2,h3⟩|h)
   ·exact⟨o,by omega,h2,h3⟩
   ·split at h
    ·rename_i h2
     exact⟨n,by omega,h2,by simpa using h⟩
    ·simp at h
  ·rintro⟨o,h1,h2,h3⟩
   by_cases ho:o<n
   ·exact .inl ⟨o,ho,h2,h3⟩
   ·obtain rfl:o=n:=by omega
    rw[if_pos h2]
    exact .inr (by simp[h3])
theorem qgL {cells:List Cel}{place:List Int}{net t:Int} : ∀ {n:Nat},t∈qa4 cells place net n↔∃ i:Nat,i<n∧(cells.getD i ce0).net=net∧t=place.getD i 0
 | 0=>by simp[qa4]
 | n+1=>by
  rw[qa4,List.mem_append,qgL]
  constructor
  ·rintro(⟨o,h1,h2,h3⟩|h)
   ·exact⟨o,by omega,h2,h3⟩
   ·split at h
    ·rename_i h2
     exact⟨n,by omega,h2,by simpa using h⟩
    ·simp at h
  ·rintro⟨o,h1,h2,h3⟩
   by_cases ho:o<n
   ·exact .inl ⟨o,ho,h2,h3⟩
   ·obtain rfl:o=n:=by omega
    rw[if_pos h2]
    exact .inr (by simp[h3])
theorem qfX {c:Circ}{cells:List Cel}{place:List Int}{net t:Int}:t∈qaL c cells place net↔(∃ i:Nat,i<cells.length∧net∈(cells.getD i ce0).inputs∧t=place.getD i 0)∨∃ o:Nat,o<c.outs.length∧c.outs.getD o 0/2=net∧t=(o:Int)*5+4:=by
 rw[qaL,List.mem_append,qiJ,List.mem_map]
 constructor
 ·rintro(⟨i,h1,rfl⟩|h)
  ·obtain⟨j,h2,h3,rfl⟩:=qdP.1 h1
   exact .inl ⟨j,h2,h3,rfl⟩
  ·exact .inr h
 ·rintro(⟨i,h1,h2,rfl⟩|h)
  ·exact .inl ⟨(i:Int),qdP.2 ⟨i,h1,h2,rfl⟩,rfl⟩
  ·exact .inr h
theorem qlG {out:List Int}{s z:Int}:z∈addU out s↔z∈out∨z=s:=by
 unfold addU
 split
 ·rename_i h
  constructor
  ·exact .inl
  ·rintro(h1|rfl)
   ·exact h1
   ·exact h
 ·simp
theorem qhQ {z:Int} : ∀ {l out:List Int},z∈l.foldl addU out↔z∈out∨z∈l
 | [],out=>by simp
 | s::l,out=>by
  rw[List.foldl_cons,qhQ,qlG,List.mem_cons,or_assoc]
theorem qfY : ∀ {l out:List Int},∃ r,l.foldl addU out=out++r
 | [],out=>⟨[],by simp⟩
 | s::l,out=>by
  obtain⟨r,hr⟩:=qfY (l:=l) (out:=addU out s)
  rw[List.foldl_cons,hr]
  unfold addU
  split
  ·exact⟨r,rfl⟩
  ·exact⟨s::r,by simp⟩
theorem qg0 {c:Circ}{cells:List Cel}{place:List Int}(hc:c.Valid) (hp:PlaceOk cells.length place) {net:Int} : ∀ t∈qdk c cells place net,0≤t∧t≤24:=by
 intro t ht
 have hlo:=hc.lo
 have hi1:=hc.i1
 unfold qdk at ht
 split at ht
 ·simp at ht
 ·rw[qhQ,List.mem_append] at ht
  rcases ht with(h|h)|h
  ·unfold qgV at h
   split at h
   ·obtain rfl:t=(net-1)*5:=by simpa using h
    omega
   ·simp at h
  ·obtain⟨i,h1,h2,rfl⟩:=qgL.1 h
   exact hp.get h1
  ·rcases qfX.1 h with⟨i,h1,h2,rfl⟩|⟨o,h1,h2,rfl⟩
   ·exact hp.get h1
   ·omega
theorem qiK {l:List Int}:l.Nodup↔∀ i j,i<l.length→j<l.length→l.getD i 0=l.getD j 0→i=j:=by
 rw[List.nodup_iff_pairwise_ne,List.pairwise_iff_getElem]
 constructor
 ·intro h i j hi hj e
  have e2:l[i]=l[j]:=by simpa [List.getD,hi,hj] using e
  rcases Nat.lt_trichotomy i j with h1|h1|h1
  ·exact absurd e2 (h i j hi hj h1)
  ·exact h1
  ·exact absurd e2.symm (h j i hj hi h1)
 ·intro h i j hi hj hij e
  have:=h i j hi hj (by simpa [List.getD,hi,hj] using e)
  omega
end Go.VL

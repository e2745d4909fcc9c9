/- Contracts, plain definitions and lemmas. Conditions: none; lemmas. -/
import Derived.Test.YtoanmdnkgjdinaaC98
import Derived.Test.YtoanmdnkgjdinaaC61
set_option maxRecDepth 20000
set_option linter.unusedVariables false
set_option linter.unusedSimpArgs false
namespace Go.Proofs
open Go Go.VL
theorem Try.c_MapLuts (c:Circ) (hc:c.Valid):PureF Try.prog 40 [dC c] (dLus (qcM c)):=by
 have hf:=hc.first_bd
 have hi0:=hc.i0
 have hi1:=hc.i1
 have hlo:=hc.lo
 have hln:=hc.ln
 have hlg:=hc.lg
 have hfst:=Try.c_firstGate c (by omega)
 have hvs:=Try.c_vars c (by omega)
 have hcv:=Try.c_CircuitValid c
 have hbe:=Try.c_bestCuts c hc
 have hro:=Try.c_roots c (by omega)
 have hvv:c.vars=c.first+(c.gates.length:Int):=rfl
 have hrv:=qem hc
 have hn0:=qlt (c:=c) (fun z hz=>(hrv z hz).1)
 have hr2 : ∀ z∈c.roots,0≤z/2∧z/2<c.vars:=fun z hz=>hrv _ (by
  simp only[qbg,List.mem_map,List.mem_append]
  exact⟨z,by simpa [Circ.roots,or_comm] using hz,rfl⟩)
 have hrl:c.roots.length≤2000000:=by unfold Circ.roots;simp;omega
 refine qcz (E:=Try.env 0) Try.tok rfl 1000 Try.func40 rfl rfl Try.ntmps40 (by simp) fun ok=>?_
 simp only[go_sem,seval] at ok
 simp only[go_sem,seval,Try.results40]
 repeat' first|assumption|(simp (disch:=first|assumption|omega|(simp;done)|(simp;omega)) only[qaa,qac,List.take_of_length_le,qab,qae,qaf,qag];try simp only[go_sem,seval,Try.results40])|(with_reducible refine And.intro ?_ ?_)|(with_reducible intro _)|(refine qai hfst ?_;simp only[go_sem,seval,Try.results40])|(refine qai hcv ?_;simp only[go_sem,seval,Try.results40])|(refine qai hvs ?_;simp only[go_sem,seval,Try.results40])|(refine qai hro ?_;simp only[go_sem,seval,Try.results40])|((try rw[qad]);omega)
 ·rename_i h9;exact absurd hc h9
 refine qar hbe [0] (by simp only[go_sem,seval]) ?_
 rintro r0 H1 ⟨rfl,rfl⟩
 simp only[go_sem,seval]
 repeat' first|assumption|(simp (disch:=first|assumption|omega|(simp;done)|(simp;omega)) only[qaa,qac,List.take_of_length_le,qab,qae,qaf,qag];try simp only[go_sem,seval,Try.results40])|(with_reducible refine And.intro ?_ ?_)|(with_reducible intro _)|(refine qai hvs ?_;simp only[go_sem,seval,Try.results40])|(refine qai hro ?_;simp only[go_sem,seval,Try.results40])|((try rw[qad]);omega)
 have hrd:(c.roots.map (· / 2)).length=c.roots.length:=by simp
 generalize hroots:c.roots=roots at *
 refine qao (E:=Try.env 0) Try.tok (σ:=Nat) (fun i=>[(23,.d (dI i)),(22,.d (dI roots.length)),(21,.d (dIs roots)),(5,.sl 1 0 1 0 c.vars.toNat),(3,.d (.lst 1 (qcX c (qbq c)))),(1,.ptr 0 0)])
  (fun i=>[.box [.d (dI c.inputs),.d (dIs c.next),.d (dPs c.gates),.d (dIs c.outs)],.row 0 1 true ((qbh (List.replicate c.vars.toNat false) ((roots.map (· / 2)).take i)).map D.bool)])
  (fun i=>i≤roots.length) (fun i=>roots.length-i) [] [] 1000 1000 ?_ ?_
 ·simp only[go_sem,seval]
  refine⟨0,by omega,?_⟩
  simp[qbh]
 ·intro i hi
  have hsl:=qcj ((roots.map (· / 2)).take i) (List.replicate c.vars.toNat false)
  rw[List.length_replicate] at hsl
  by_cases hlt:i<roots.length
  ·have hrg:(roots.map (· / 2)).getD i 0=roots.getD i 0/2:=by simp[List.getD,hlt]
   have hbd:=hr2 _ (qal hlt:roots.getD i 0∈roots)
   have hst:qbh (List.replicate c.vars.toNat false) ((roots.map (· / 2)).take (i+1))=(qbh (List.replicate c.vars.toNat false) ((roots.map (· / 2)).take i)).set (roots.getD i 0/2).toNat true:=by
    rw[←hrg]
    exact qaC (f:=fun(n:List Bool) (v:Int)=>n.set v.toNat true) (b:=List.replicate c.vars.toNat false) (0:Int) (by rw[hrd];exact hlt)
   simp only[go_sem,seval,Try.results40]
   repeat' first|assumption|(simp (disch:=first|assumption|omega|(simp;done)|(simp;omega)) only[qaa,qac,List.take_of_length_le,qab,qae,qaf,qag];try simp only[go_sem,seval,Try.results40])|(with_reducible refine And.intro ?_ ?_)|(with_reducible intro _)|((try rw[qad]);omega)
   exact⟨i+1,by omega,by omega,rfl,by rw[hst]⟩
  ·have hst:qbh (List.replicate c.vars.toNat false) ((roots.map (· / 2)).take i)=qeS c:=by rw[←hn0,List.take_of_length_le (by rw[hrd];omega)]
   rw[hst]
   simp only[go_sem,seval,Try.results40]
   repeat' first|assumption|(simp (disch:=first|assumption|omega|(simp;done)|(simp;omega)) only[qaa,qac,List.take_of_length_le,qab,qae,qaf,qag];try simp only[go_sem,seval,Try.results40])|(with_reducible refine And.intro ?_ ?_)|(with_reducible intro _)|(refine qai hvs ?_;simp only[go_sem,seval,Try.results40])|((try rw[qad]);omega)
   have hne0:=qh7 c
   have hlu:qcM c=mapD c c.gates.length (qeS c) []:=rfl
   refine qao (E:=Try.env 0) Try.tok (σ:=Nat×List Bool×List Lut) (fun s=>[(9,.d (dI (c.first+(s.1:Int)-1))),(8,.sl 2 s.2.2.length 3 0 s.2.2.length),(5,.sl 1 0 1 0 c.vars.toNat),(3,.d (.lst 1 (qcX c (qbq c)))),(1,.ptr 0 0)])
    (fun s=>[.box [.d (dI c.inputs),.d (dIs c.next),.d (dPs c.gates),.d (dIs c.outs)],.row 0 1 true (s.2.1.map D.bool),.row s.2.2.length 3 false (s.2.2.reverse.map fun x=>dLu x)])
    (fun s=>s.1≤c.gates.length∧s.2.1.length=c.vars.toNat∧s.2.2.length+s.1≤c.gates.length∧mapD c s.1 s.2.1 s.2.2=qcM c) (fun s=>s.1) [] [(8,3,false)] 1000 1000 ?_ ?_
   ·simp only[go_sem,seval]
    refine⟨(c.gates.length,qeS c,[]),⟨by simp,hne0,by simp,hlu.symm⟩,?_⟩
    simp;omega
   ·rintro⟨j,need,out⟩ ⟨hj,hnl,hol,hinv⟩
    simp only at hj hnl hol hinv
    cases j with
    | zero=>
     simp only[go_sem,seval,Try.results40]
     repeat' first|assumption|(simp (disch:=first|assumption|omega|(simp;done)|(simp;omega)) only[qaa,qac,List.take_of_length_le,qab,qae,qaf,qag];try simp only[go_sem,seval,Try.results40])|(with_reducible refine And.intro ?_ ?_)|(with_reducible intro _)|(refine qai hfst ?_;simp only[go_sem,seval,Try.results40])|((try rw[qad]);omega)
     have hrl9:out.length=out.reverse.length:=by simp
     rw[hrl9]
     refine qar (Try.c_ReverseL out.reverse.length out.reverse (by simp;omega)) [2] (by simp only[go_sem,seval]) ?_
     ·rintro r0 H1 rfl
      rw[List.reverse_reverse]
      have hmd:mapD c 0 need out=out:=rfl
      rw[←hinv,hmd]
      simp only[go_sem,seval,Try.results40]
      repeat' first|assumption|(simp (disch:=first|assumption|omega|(simp;done)|(simp;omega)) only[qaa,qac,List.take_of_length_le,qab,qae,qaf,qag];try simp only[go_sem,seval,Try.results40])|(with_reducible refine And.intro ?_ ?_)|(with_reducible intro _)|((try rw[qad]);omega)
    | succ m=>
     have hbo:=qcP hc (i:=m) (by omega)
     have hbl:=qkw c
     have ev:(c.first+((m+1:Nat):Int)-1)=c.first+(m:Int):=by omega
     have ev2:(c.first+(m:Int)).toNat=c.first.toNat+m:=by omega
     have hbg : ∀ z,(qcX c (qbq c)).getD (c.first.toNat+m) z=dIs ((qbq c).getD (c.first.toNat+m) []):=fun z=>qkA (by omega) (by omega)
     have hstep:mapD c (m+1) need out=if need.getD (c.first.toNat+m) false=true then
       mapD c m (qbh need ((qbq c).getD (c.first.toNat+m) [])) (⟨c.first+(m:Int),(qbq c).getD (c.first.toNat+m) [],qga c (c.first+(m:Int)) ((qbq c).getD (c.first.toNat+m) [])⟩::out)
      else mapD c m need out:=rfl
     have htb:=Try.c_coneTable c hc (c.first+(m:Int)) (by omega) (by omega) ((qbq c).getD (c.first.toNat+m) []) hbo.2.1 hbo.1 (fun z hz=>by have:=hbo.2.2 z hz;omega)
     have hcl:=Try.c_CloneI ((qbq c).getD (c.first.toNat+m) []) (by have:=hbo.2.1;omega)
     have hbD:(qcX c (qbq c)).length=c.first.toNat+c.gates.length:=by rw[qcW (by omega)];exact hbl
     rw[ev]
     generalize hL:(qbq c).getD (c.first.toNat+m) []=L at *
     by_cases hnd:need.getD (c.first.toNat+m) false=true
     ·rw[if_pos hnd] at hstep
      simp only[go_sem,seval,Try.results40,ev2,hnd,hbg]
      repeat' first|assumption|(simp (disch:=first|assumption|omega|(simp;done)|(simp;omega)) only[qaa,qac,List.take_of_length_le,qab,qae,qaf,qag];try simp only[go_sem,seval,Try.results40,ev2,hnd,hbg])|(with_reducible refine And.intro ?_ ?_)|(with_reducible intro _)|(refine qai hfst ?_;simp only[go_sem,seval,Try.results40,ev2,hnd,hbg])|((try rw[qad]);omega)
      refine qao (E:=Try.env 0) Try.tok (σ:=Nat) (fun k=>[(49,.d (dI k)),(48,.d (dI L.length)),(47,.d (dIs L)),(9,.d (dI (c.first+(m:Int)))),(8,.sl 2 out.length 3 0 out.length),(5,.sl 1 0 1 0 c.vars.toNat),(3,.d (.lst 1 (qcX c (qbq c)))),(1,.ptr 0 0)])
       (fun k=>[.box [.d (dI c.inputs),.d (dIs c.next),.d (dPs c.gates),.d (dIs c.outs)],.row 0 1 true ((qbh need (L.take k)).map D.bool),.row out.length 3 false (out.reverse.map fun x=>dLu x)])
       (fun k=>k≤L.length) (fun k=>L.length-k) [] [] 1000 1000 ?_ ?_
      ·simp only[go_sem,seval]
       exact⟨0,by omega,rfl,rfl⟩
      ·intro k hk
       have hsl:=qcj (L.take k) need
       by_cases hkt:k<L.length
       ·have hst:qbh need (L.take (k+1))=(qbh need (L.take k)).set (L.getD k 0).toNat true:=qaC (f:=fun(n:List Bool) (v:Int)=>n.set v.toNat true) (b:=need) (0:Int) hkt
        have hz:=hbo.2.2 _ (qal hkt:L.getD k 0∈L)
        simp only[go_sem,seval,Try.results40,ev2,hbg]
        repeat' first|assumption|(simp (disch:=first|assumption|omega|(simp;done)|(simp;omega)) only[qaa,qac,List.take_of_length_le,qab,qae,qaf,qag];try simp only[go_sem,seval,Try.results40,ev2,hbg])|(with_reducible refine And.intro ?_ ?_)|(with_reducible intro _)|((try rw[qad]);omega)
        exact⟨k+1,by omega,by omega,rfl,hst.symm⟩
       ·have hst:qbh need (L.take k)=qbh need L:=by rw[List.take_of_length_le (by omega)]
        rw[hst]
        rw[hst] at hsl
        simp only[go_sem,seval,Try.results40,ev2,hbg]
        repeat' first|assumption|(simp (disch:=first|assumption|omega|(simp;done)|(simp;omega)) only[qaa,qac,List.take_of_length_le,qab,qae,qaf,qag];try simp only[go_sem,seval,Try.results40,ev2,hbg])|(with_reducible refine And.intro ?_ ?_)|(with_reducible intro _)|((try rw[qad]);omega)
        refine qdp (E:=Try.env 0) Try.tok Try.follows 1000 1000 [] (.fst 0 (.fst 1 (.fst 2 (.fst 3 (.fst 4 (.fst 7 (.fst 8 (.fst 9 (.fst 10 (.fst 5 (.fst 11 (.one 6 (.one 12 (.fst 13 (.one 14 (.one 15 (.fst 16 (.done)))))))))))))))))) (by kernel_rfl) ?_
        simp only[go_sem,seval,Try.results40,ev2,hbg]
        repeat' first|assumption|(simp (disch:=first|assumption|omega|(simp;done)|(simp;omega)) only[qaa,qac,List.take_of_length_le,qab,qae,qaf,qag];try simp only[go_sem,seval,Try.results40,ev2,hbg])|(with_reducible refine And.intro ?_ ?_)|(with_reducible intro _)|(refine qai htb ?_;simp only[go_sem,seval,Try.results40,ev2,hbg])|(refine qai hcl ?_;simp only[go_sem,seval,Try.results40,ev2,hbg])|((try rw[qad]);omega)
        ·simp
        ·exact⟨(m,qbh need L,⟨c.first+(m:Int),L,qga c (c.first+(m:Int)) L⟩::out),⟨by simp only;omega,hsl.trans hnl,by simp only[List.length_cons];omega,by rw[←hinv,hstep]⟩,by simp only;omega,⟨rfl,by simp⟩,rfl,by simp,by simp⟩
     ·rw[if_neg hnd] at hstep
      rw[Bool.not_eq_true] at hnd
      simp only[go_sem,seval,Try.results40,ev2,hnd,hbg]
      repeat' first|assumption|(simp (disch:=first|assumption|omega|(simp;done)|(simp;omega)) only[qaa,qac,List.take_of_length_le,qab,qae,qaf,qag];try simp only[go_sem,seval,Try.results40,ev2,hnd,hbg])|(with_reducible refine And.intro ?_ ?_)|(with_reducible intro _)|(refine qai hfst ?_;simp only[go_sem,seval,Try.results40,ev2,hnd,hbg])|((try rw[qad]);omega)
      exact⟨(m,need,out),⟨by simp only;omega,hnl,by simp only;omega,by rw[←hinv,hstep]⟩,by simp only;omega,⟨rfl,rfl⟩,rfl,rfl,rfl⟩
end Go.Proofs

set_option linter.unusedVariables false
set_option linter.unusedSimpArgs false
namespace Go.VL
def qaL (c:Circ) (net:Int):Nat→List Int
 | 0=>[]
 | o+1=>qaL c net o++(if c.outs.getD o 0/2=net then [(o:Int)*5+4] else [])
def qbH (place:List Int) (i:Int):Int:=place.getD i.toNat 0
def qaz (c:Circ) (cells:List Cel) (place:List Int) (net:Int):List Int:=(qc0 cells net).map (qbH place)++qaL c net c.outs.length
def qg5 (c:Circ) (net:Int):List Int:=if 1≤net∧net≤c.inputs then [(net-1)*5] else []
def qba (cells:List Cel) (place:List Int) (net:Int):Nat→List Int
 | 0=>[]
 | i+1=>qba cells place net i++(if(cells.getD i ce0).net=net then [place.getD i 0] else [])
def addU (out:List Int) (s:Int):List Int:=if s∈out then out else out ++ [s]
def qdu (c:Circ) (cells:List Cel) (place:List Int) (net:Int):List Int:=
 if qaz c cells place net=[] then [] else(qaz c cells place net).foldl addU (qg5 c net++qba cells place net cells.length)
structure PlaceOk (n:Nat) (place:List Int):Prop where
 len:place.length=n
 rng : ∀ t∈place,0≤t∧t≤24
 nd:place.Nodup
theorem PlaceOk.get {n:Nat}{place:List Int}(h:PlaceOk n place) {i:Nat}(hi:i<n):0≤place.getD i 0∧place.getD i 0≤24:=h.rng _ (qal (by rw[h.len];exact hi))
theorem qgF {c:Circ}{net t:Int} : ∀ {n:Nat},t∈qaL c net n↔∃ o:Nat,o<n∧c.outs.getD o 0/2=net∧t=(o:Int)*5+4
 | 0=>by simp[qaL]
 | n+1=>by
  rw[qaL,List.mem_append,qgF]
  constructor
  ·rintro(⟨o,h1,h2,h3⟩|h)
   ·exact⟨o,by omega,h2,h3⟩
   ·split at h
    ·rename_i h2
     exact⟨n,by omega,h2,by simpa using h⟩
    ·simp at h
  ·rintro⟨o,h1,h2,h3⟩
   by_cases ho:o<n
   ·exact .inl ⟨o,ho,h2,h3⟩
   ·obtain rfl:o=n:=by omega
    rw[if_pos h2]
    exact .inr (by simp[h3])
theorem qgV {cells:List Cel}{place:List Int}{net t:Int} : ∀ {n:Nat},t∈qba cells place net n↔∃ i:Nat,i<n∧(cells.getD i ce0).net=net∧t=place.getD i 0
 | 0=>by simp[qba]
 | n+1=>by
  rw[qba,List.mem_append,qgV]
  constructor
  ·rintro(⟨o,h1,h2,h3⟩|h)
   ·exact⟨o,by omega,h2,h3⟩
   ·split at h
    ·rename_i h2
     exact⟨n,by omega,h2,by simpa using h⟩
    ·simp at h
  ·rintro⟨o,h1,h2,h3⟩
   by_cases ho:o<n
   ·exact .inl ⟨o,ho,h2,h3⟩
   ·obtain rfl:o=n:=by omega
    rw[if_pos h2]
    exact .inr (by simp[h3])
theorem qcB {c:Circ}{cells:List Cel}{place:List Int}{net t:Int}:t∈qaz c cells place net↔(∃ i:Nat,i<cells.length∧net∈(cells.getD i ce0).inputs∧t=place.getD i 0)∨∃ o:Nat,o<c.outs.length∧c.outs.getD o 0/2=net∧t=(o:Int)*5+4:=by
 rw[qaz,List.mem_append,qgF,List.mem_map]
 constructor
 ·rintro(⟨i,h1,rfl⟩|h)
  ·obtain⟨j,h2,h3,rfl⟩:=qdY.1 h1
   exact .inl ⟨j,h2,h3,rfl⟩
  ·exact .inr h
 ·rintro(⟨i,h1,h2,rfl⟩|h)
  ·exact .inl ⟨(i:Int),qdY.2 ⟨i,h1,h2,rfl⟩,rfl⟩
  ·exact .inr h
theorem qma {out:List Int}{s z:Int}:z∈addU out s↔z∈out∨z=s:=by
 unfold addU
 split
 ·rename_i h
  constructor
  ·exact .inl
  ·rintro(h1|rfl)
   ·exact h1
   ·exact h
 ·simp
theorem qgc {z:Int} : ∀ {l out:List Int},z∈l.foldl addU out↔z∈out∨z∈l
 | [],out=>by simp
 | s::l,out=>by
  rw[List.foldl_cons,qgc,qma,List.mem_cons,or_assoc]
theorem qeU : ∀ {l out:List Int},∃ r,l.foldl addU out=out++r
 | [],out=>⟨[],by simp⟩
 | s::l,out=>by
  obtain⟨r,hr⟩:=qeU (l:=l) (out:=addU out s)
  rw[List.foldl_cons,hr]
  unfold addU
  split
  ·exact⟨r,rfl⟩
  ·exact⟨s::r,by simp⟩
theorem qjM {c:Circ}{cells:List Cel}{place:List Int}(hc:c.Valid) (hp:PlaceOk cells.length place) {net:Int} : ∀ t∈qdu c cells place net,0≤t∧t≤24:=by
 intro t ht
 have hlo:=hc.lo
 have hi1:=hc.i1
 unfold qdu at ht
 split at ht
 ·simp at ht
 ·rw[qgc,List.mem_append] at ht
  rcases ht with(h|h)|h
  ·unfold qg5 at h
   split at h
   ·obtain rfl:t=(net-1)*5:=by simpa using h
    omega
   ·simp at h
  ·obtain⟨i,h1,h2,rfl⟩:=qgV.1 h
   exact hp.get h1
  ·rcases qcB.1 h with⟨i,h1,h2,rfl⟩|⟨o,h1,h2,rfl⟩
   ·exact hp.get h1
   ·omega
theorem qiX {l:List Int}:l.Nodup↔∀ i j,i<l.length→j<l.length→l.getD i 0=l.getD j 0→i=j:=by
 rw[List.nodup_iff_pairwise_ne,List.pairwise_iff_getElem]
 constructor
 ·intro h i j hi hj e
  have e2:l[i]=l[j]:=by simpa [List.getD,hi,hj] using e
  rcases Nat.lt_trichotomy i j with h1|h1|h1
  ·exact absurd e2 (h i j hi hj h1)
  ·exact h1
  ·exact absurd e2.symm (h j i hj hi h1)
 ·intro h i j hi hj hij e
  have:=h i j hi hj (by simpa [List.getD,hi,hj] using e)
  omega
end Go.VL

/- Contracts, plain definitions and lemmas. Conditions: none; lemmas. -/
import Derived.Test.YtoanmdnkgjdinaaC97
import Derived.Test.YtoanmdnkgjdinaaC71
import Derived.Test.YtoanmdnkgjdinaaC61
set_option maxRecDepth 20000
set_option linter.unusedVariables false
set_option linter.unusedSimpArgs false
namespace Go.Proofs
open Go Go.VL
structure RevTo (l m:List Lut) (i:Nat):Prop where
 len:m.length=l.length
 get : ∀ p,p<l.length→m.getD p lu0=if p<i∨l.length≤p+i then l.getD (l.length-1-p) lu0 else l.getD p lu0
theorem RevTo.start (l:List Lut):RevTo l l 0:=⟨rfl,fun p hp=>by rw[if_neg (by omega)]⟩
theorem qj2 {m:List Lut}{a p:Nat}{x:Lut}(h:a<m.length):(m.set a x).getD p lu0=if p=a then x else m.getD p lu0:=by
 by_cases e:p=a
 ·subst e;simp[List.getD,h]
 ·simp[List.getD,List.getElem?_set,show ¬ a=p by omega,e]
theorem RevTo.step {l m:List Lut}{i:Nat}(h:RevTo l m i) (hi:i+i+1<l.length):RevTo l ((m.set i (m.getD (l.length-1-i) lu0)).set (l.length-1-i) (m.getD i lu0)) (i+1):=by
 have hl:=h.len
 refine⟨by simp[hl],fun p hp=>?_⟩
 rw[qj2 (by simp;omega),qj2 (by omega)]
 have g1:=h.get p hp
 have g2:=h.get i (by omega)
 have g3:=h.get (l.length-1-i) (by omega)
 rw[if_neg (by omega)] at g2 g3
 rw[g1,g2,g3]
 by_cases e1:p=l.length-1-i
 ·subst e1
  rw[if_pos rfl,if_pos (by omega),show l.length-1-(l.length-1-i)=i by omega]
 ·rw[if_neg e1]
  by_cases e2:p=i
  ·subst e2
   rw[if_pos rfl,if_pos (by omega)]
  ·rw[if_neg e2]
   by_cases e3:p<i∨l.length≤p+i
   ·rw[if_pos e3,if_pos (by omega)]
   ·rw[if_neg e3,if_neg (by omega)]
theorem RevTo.done {l m:List Lut}{i:Nat}(h:RevTo l m i) (hi:l.length≤i+i+1):m=l.reverse:=by
 refine qgO lu0 (by simp[h.len]) fun p hp=>?_
 have hl:=h.len
 have e:l.reverse.getD p lu0=l.getD (l.length-1-p) lu0:=by simp[List.getD,show p<l.length by omega,show l.length-1-p<l.length by omega]
 rw[e,h.get p (by omega)]
 split
 ·rfl
 ·rw[show l.length-1-p=p by omega]
theorem Try.c_ReverseL (g:Nat) (l:List Lut) (hl:l.length≤1000000):ICall Try.prog 77 [.sl 0 g 3 0 l.length] [.row g 3 false (l.map fun x=>dLu x)] (fun _ H'=>H'=[.row g 3 false (l.reverse.map fun x=>dLu x)]):=by
 refine qaJ (E:=Try.env 1) Try.tok rfl 1000 Try.func77 rfl rfl Try.ntmps77 (by simp) ?_
 simp only[go_sem,seval,Try.results77]
 repeat' first|assumption|(simp (disch:=first|assumption|omega|(simp;done)|(simp;omega)) only[qaa,qac,List.take_of_length_le,qab,qag];try simp only[go_sem,seval,Try.results77])|(with_reducible refine And.intro ?_ ?_)|(with_reducible intro _)|(refine @Exists.intro I _ (I.d D.nil) ?_;simp only[go_sem,seval,Try.results77])|((with_reducible (show Region.lexB _ _=true));kernel_rfl)|((try rw[qad]);omega)
 refine qaO (E:=Try.env 1) Try.tok (σ:=Nat×List Lut) (fun s=>[(3,.d (dI ((l.length:Int)-1-(s.1:Int)))),(2,.d (dI s.1)),(0,.sl 0 g 3 0 l.length)]) (fun s=>[.row g 3 false (s.2.map fun x=>dLu x)])
  (fun s=>s.1≤l.length∧RevTo l s.2 s.1) (fun s=>l.length-s.1) [] 1000 1000 ?_ ?_ ?_
 ·simp only[go_sem,seval]
 ·simp only[go_sem,seval]
  exact⟨(0,l),⟨Nat.zero_le _,RevTo.start l⟩,⟨by simp,rfl⟩,rfl⟩
 ·rintro⟨i,m⟩ ⟨hi,hm⟩
  simp only at hi hm
  have hml:=hm.len
  by_cases hlt:i+i+1<l.length
  ·have ej:((l.length:Int)-1-(i:Int)).toNat=l.length-1-i:=by omega
   simp only[go_sem,seval,Try.results77,ej]
   repeat' first|assumption|(simp (disch:=first|assumption|omega|(simp;done)|(simp;omega)) only[qaa,qac,List.take_of_length_le,qab,qag];try simp only[go_sem,seval,Try.results77,ej])|(with_reducible refine And.intro ?_ ?_)|(with_reducible intro _)|(refine @Exists.intro I _ (I.d D.nil) ?_;simp only[go_sem,seval,Try.results77,ej])|((with_reducible (show Region.lexB _ _=true));kernel_rfl)|((try rw[qad]);omega)
   refine qaS (E:=Try.env 1) Try.tok Try.follows 1000 1000 [13,15] (.fst 0 (.fst 1 (.fst 2 (.fst 3 (.fst 4 (.fst 5 (.fst 6 (.fst 8 (.fst 9 (.fst 10 (.fst 7 (.fst 11 (.fst 12 (.one 13 (.fst 14 (.one 15 (.done))))))))))))))))) (by kernel_rfl) ?_
   simp only[go_sem,seval,Try.results77,ej]
   repeat' first|assumption|(simp (disch:=first|assumption|omega|(simp;done)|(simp;omega)) only[qaa,qac,List.take_of_length_le,qab,qag];try simp only[go_sem,seval,Try.results77,ej])|(with_reducible refine And.intro ?_ ?_)|(with_reducible intro _)|(refine @Exists.intro I _ (I.d D.nil) ?_;simp only[go_sem,seval,Try.results77,ej])|((with_reducible (show Region.lexB _ _=true));kernel_rfl)|((try rw[qad]);omega)
   refine⟨(i+1,_),⟨by simp only;omega,hm.step hlt⟩,by simp only;omega,⟨by simp only;omega,rfl⟩,?_⟩
   rw[List.map_set,List.map_set]
  ·simp only[go_sem,seval,Try.results77]
   repeat' first|assumption|(simp (disch:=first|assumption|omega|(simp;done)|(simp;omega)) only[qaa,qac,List.take_of_length_le,qab,qag];try simp only[go_sem,seval,Try.results77])|(with_reducible refine And.intro ?_ ?_)|(with_reducible intro _)|(refine @Exists.intro I _ (I.d D.nil) ?_;simp only[go_sem,seval,Try.results77])|((with_reducible (show Region.lexB _ _=true));kernel_rfl)|((try rw[qad]);omega)
   exact qbK (by rw[hm.done (by omega)])
theorem Try.c_CloneI (l:List Int) (hl:l.length≤1048576):Pure Try.prog 75 [dIs l] (dIs l):=by
 refine qif (T:=Try.tyT) Try.tok Try.func75 rfl rfl (by simp[Try.ntmps75]) ?_
 rw[Try.ntmps75]
 refine qi7 (E:=Try.env 0) (ks:=[]) (qio (qqB Try.tok rfl rfl trivial (qni (qi7 (qi7 (qio (qqB Try.tok rfl rfl ?_ (qph Try.tok rfl rfl ?_ rfl fun b hb=>qpi Try.tok 1000 ?_))))))))
 ·simp only[go_sem,seval]
 ·simp only[go_sem,seval]
 ·simp only[go_sem,seval,Try.results75]
  exact⟨hb,fun h=>by omega⟩
theorem qkO {c:Circ}(hb : ∀ z∈qa9 c,0≤z):qa8 (List.replicate c.vars.toNat false) (c.roots.map (· / 2))=qex c:=by
 have hm : ∀ z:Int,z∈c.roots.map (· / 2)↔z∈qa9 c:=fun z=>by simp[Circ.roots,qa9,or_and_right,exists_or,or_comm]
 refine qgO false (by rw[qex,qcd,qcd]) fun j hj=>?_
 rw[qex,qdK _ _ _ (fun v hv=>hb v ((hm v).1 hv)),qdK _ _ _ hb]
 simp only[hm]
end Go.Proofs

set_option maxRecDepth 20000
set_option linter.unusedVariables false
set_option linter.unusedSimpArgs false
namespace Go.Proofs
open Go Go.VL
theorem Try.c_MapLuts (c:Circ) (hc:c.Valid):PureF Try.prog 40 [dC c] (dLus (qdo c)):=by
 have hf:=hc.first_bd
 have hi0:=hc.i0
 have hi1:=hc.i1
 have hlo:=hc.lo
 have hln:=hc.ln
 have hlg:=hc.lg
 have hfst:=Try.c_firstGate c (by omega)
 have hvs:=Try.c_vars c (by omega)
 have hcv:=Try.c_CircuitValid c
 have hbe:=Try.c_bestCuts c hc
 have hro:=Try.c_roots c (by omega)
 have hvv:c.vars=c.first+(c.gates.length:Int):=rfl
 have hrv:=qfe hc
 have hn0:=qkO (c:=c) (fun z hz=>(hrv z hz).1)
 have hr2 : ∀ z∈c.roots,0≤z/2∧z/2<c.vars:=fun z hz=>hrv _ (by
  simp only[qa9,List.mem_map,List.mem_append]
  exact⟨z,by simpa [Circ.roots,or_comm] using hz,rfl⟩)
 have hrl:c.roots.length≤2000000:=by unfold Circ.roots;simp;omega
 refine qbJ (E:=Try.env 0) Try.tok rfl 1000 Try.func40 rfl rfl Try.ntmps40 (by simp) fun ok=>?_
 simp only[go_sem,seval] at ok
 simp only[go_sem,seval,Try.results40]
 repeat' first|assumption|(simp (disch:=first|assumption|omega|(simp;done)|(simp;omega)) only[qaa,qac,List.take_of_length_le,qab,qae,qaf,qag];try simp only[go_sem,seval,Try.results40])|(with_reducible refine And.intro ?_ ?_)|(with_reducible intro _)|(refine qai hfst ?_;simp only[go_sem,seval,Try.results40])|(refine qai hcv ?_;simp only[go_sem,seval,Try.results40])|(refine qai hvs ?_;simp only[go_sem,seval,Try.results40])|(refine qai hro ?_;simp only[go_sem,seval,Try.results40])|(refine @Exists.intro I _ (I.d D.nil) ?_;simp only[go_sem,seval,Try.results40])|((with_reducible (show Region.lexB _ _=true));kernel_rfl)|((try rw[qad]);omega)
 ·rename_i h9;exact absurd hc h9
 refine qar hbe [0] (by simp only[go_sem,seval]) ?_
 rintro r0 H1 ⟨rfl,rfl⟩
 simp only[go_sem,seval]
 repeat' first|assumption|(simp (disch:=first|assumption|omega|(simp;done)|(simp;omega)) only[qaa,qac,List.take_of_length_le,qab,qae,qaf,qag];try simp only[go_sem,seval,Try.results40])|(with_reducible refine And.intro ?_ ?_)|(with_reducible intro _)|(refine qai hvs ?_;simp only[go_sem,seval,Try.results40])|(refine qai hro ?_;simp only[go_sem,seval,Try.results40])|(refine @Exists.intro I _ (I.d D.nil) ?_;simp only[go_sem,seval,Try.results40])|((with_reducible (show Region.lexB _ _=true));kernel_rfl)|((try rw[qad]);omega)
 have hrd:(c.roots.map (· / 2)).length=c.roots.length:=by simp
 generalize hroots:c.roots=roots at *
 refine qao (E:=Try.env 0) Try.tok (σ:=Nat) (fun i=>[(23,.d (dI i)),(22,.d (dI roots.length)),(21,.d (dIs roots)),(5,.sl 1 0 1 0 c.vars.toNat),(3,.d (.lst 1 (qcN c (qbM c)))),(1,.ptr 0 0)])
  (fun i=>[.box [.d (dI c.inputs),.d (dIs c.next),.d (dPs c.gates),.d (dIs c.outs)],.row 0 1 true ((qa8 (List.replicate c.vars.toNat false) ((roots.map (· / 2)).take i)).map D.bool)])
  (fun i=>i≤roots.length) (fun i=>roots.length-i) [] [] 1000 1000 ?_ ?_
 ·simp only[go_sem,seval]
  refine⟨0,by omega,?_⟩
  simp[qa8]
 ·intro i hi
  have hsl:=qcd ((roots.map (· / 2)).take i) (List.replicate c.vars.toNat false)
  rw[List.length_replicate] at hsl
  by_cases hlt:i<roots.length
  ·have hrg:(roots.map (· / 2)).getD i 0=roots.getD i 0/2:=by simp[List.getD,hlt]
   have hbd:=hr2 _ (qaj hlt:roots.getD i 0∈roots)
   have hst:qa8 (List.replicate c.vars.toNat false) ((roots.map (· / 2)).take (i+1))=(qa8 (List.replicate c.vars.toNat false) ((roots.map (· / 2)).take i)).set (roots.getD i 0/2).toNat true:=by
    rw[←hrg]
    exact qaN (f:=fun(n:List Bool) (v:Int)=>n.set v.toNat true) (b:=List.replicate c.vars.toNat false) (0:Int) (by rw[hrd];exact hlt)
   simp only[go_sem,seval,Try.results40]
   repeat' first|assumption|(simp (disch:=first|assumption|omega|(simp;done)|(simp;omega)) only[qaa,qac,List.take_of_length_le,qab,qae,qaf,qag];try simp only[go_sem,seval,Try.results40])|(with_reducible refine And.intro ?_ ?_)|(with_reducible intro _)|(refine @Exists.intro I _ (I.d D.nil) ?_;simp only[go_sem,seval,Try.results40])|((with_reducible (show Region.lexB _ _=true));kernel_rfl)|((try rw[qad]);omega)
   exact⟨i+1,by omega,by omega,rfl,by rw[hst]⟩
  ·have hst:qa8 (List.replicate c.vars.toNat false) ((roots.map (· / 2)).take i)=qex c:=by rw[←hn0,List.take_of_length_le (by rw[hrd];omega)]
   rw[hst]
   simp only[go_sem,seval,Try.results40]
   repeat' first|assumption|(simp (disch:=first|assumption|omega|(simp;done)|(simp;omega)) only[qaa,qac,List.take_of_length_le,qab,qae,qaf,qag];try simp only[go_sem,seval,Try.results40])|(with_reducible refine And.intro ?_ ?_)|(with_reducible intro _)|(refine qai hvs ?_;simp only[go_sem,seval,Try.results40])|(refine @Exists.intro I _ (I.d D.nil) ?_;simp only[go_sem,seval,Try.results40])|((with_reducible (show Region.lexB _ _=true));kernel_rfl)|((try rw[qad]);omega)
   have hne0:=qhH c
   have hlu:qdo c=mapD c c.gates.length (qex c) []:=rfl
   refine qao (E:=Try.env 0) Try.tok (σ:=Nat×List Bool×List Lut) (fun s=>[(9,.d (dI (c.first+(s.1:Int)-1))),(8,.sl 2 s.2.2.length 3 0 s.2.2.length),(5,.sl 1 0 1 0 c.vars.toNat),(3,.d (.lst 1 (qcN c (qbM c)))),(1,.ptr 0 0)])
    (fun s=>[.box [.d (dI c.inputs),.d (dIs c.next),.d (dPs c.gates),.d (dIs c.outs)],.row 0 1 true (s.2.1.map D.bool),.row s.2.2.length 3 false (s.2.2.reverse.map fun x=>dLu x)])
    (fun s=>s.1≤c.gates.length∧s.2.1.length=c.vars.toNat∧s.2.2.length+s.1≤c.gates.length∧mapD c s.1 s.2.1 s.2.2=qdo c) (fun s=>s.1) [] [(8,3,false)] 1000 1000 ?_ ?_
   ·simp only[go_sem,seval]
    refine⟨(c.gates.length,qex c,[]),⟨by simp,hne0,by simp,hlu.symm⟩,?_⟩
    simp;omega
   ·rintro⟨j,need,out⟩ ⟨hj,hnl,hol,hinv⟩
    simp only at hj hnl hol hinv
    cases j with
    | zero=>
     simp only[go_sem,seval,Try.results40]
     repeat' first|assumption|(simp (disch:=first|assumption|omega|(simp;done)|(simp;omega)) only[qaa,qac,List.take_of_length_le,qab,qae,qaf,qag];try simp only[go_sem,seval,Try.results40])|(with_reducible refine And.intro ?_ ?_)|(with_reducible intro _)|(refine qai hfst ?_;simp only[go_sem,seval,Try.results40])|(refine @Exists.intro I _ (I.d D.nil) ?_;simp only[go_sem,seval,Try.results40])|((with_reducible (show Region.lexB _ _=true));kernel_rfl)|((try rw[qad]);omega)
     have hrl9:out.length=out.reverse.length:=by simp
     rw[hrl9]
     refine qar (Try.c_ReverseL out.reverse.length out.reverse (by simp;omega)) [2] (by simp only[go_sem,seval]) ?_
     ·rintro r0 H1 rfl
      rw[List.reverse_reverse]
      have hmd:mapD c 0 need out=out:=rfl
      rw[←hinv,hmd]
      simp only[go_sem,seval,Try.results40]
      repeat' first|assumption|(simp (disch:=first|assumption|omega|(simp;done)|(simp;omega)) only[qaa,qac,List.take_of_length_le,qab,qae,qaf,qag];try simp only[go_sem,seval,Try.results40])|(with_reducible refine And.intro ?_ ?_)|(with_reducible intro _)|(refine @Exists.intro I _ (I.d D.nil) ?_;simp only[go_sem,seval,Try.results40])|((with_reducible (show Region.lexB _ _=true));kernel_rfl)|((try rw[qad]);omega)
    | succ m=>
     have hbo:=qd0 hc (i:=m) (by omega)
     have hbl:=qjV c
     have ev:(c.first+((m+1:Nat):Int)-1)=c.first+(m:Int):=by omega
     have ev2:(c.first+(m:Int)).toNat=c.first.toNat+m:=by omega
     have hbg : ∀ z,(qcN c (qbM c)).getD (c.first.toNat+m) z=dIs ((qbM c).getD (c.first.toNat+m) []):=fun z=>qjZ (by omega) (by omega)
     have hstep:mapD c (m+1) need out=if need.getD (c.first.toNat+m) false=true then
       mapD c m (qa8 need ((qbM c).getD (c.first.toNat+m) [])) (⟨c.first+(m:Int),(qbM c).getD (c.first.toNat+m) [],qfK c (c.first+(m:Int)) ((qbM c).getD (c.first.toNat+m) [])⟩::out)
      else mapD c m need out:=rfl
     have htb:=Try.c_coneTable c hc (c.first+(m:Int)) (by omega) (by omega) ((qbM c).getD (c.first.toNat+m) []) hbo.2.1 hbo.1 (fun z hz=>by have:=hbo.2.2 z hz;omega)
     have hcl:=Try.c_CloneI ((qbM c).getD (c.first.toNat+m) []) (by have:=hbo.2.1;omega)
     have hbD:(qcN c (qbM c)).length=c.first.toNat+c.gates.length:=by rw[qcM (by omega)];exact hbl
     rw[ev]
     generalize hL:(qbM c).getD (c.first.toNat+m) []=L at *
     by_cases hnd:need.getD (c.first.toNat+m) false=true
     ·rw[if_pos hnd] at hstep
      simp only[go_sem,seval,Try.results40,ev2,hnd,hbg]
      repeat' first|assumption|(simp (disch:=first|assumption|omega|(simp;done)|(simp;omega)) only[qaa,qac,List.take_of_length_le,qab,qae,qaf,qag];try simp only[go_sem,seval,Try.results40,ev2,hnd,hbg])|(with_reducible refine And.intro ?_ ?_)|(with_reducible intro _)|(refine qai hfst ?_;simp only[go_sem,seval,Try.results40,ev2,hnd,hbg])|(refine @Exists.intro I _ (I.d D.nil) ?_;simp only[go_sem,seval,Try.results40,ev2,hnd,hbg])|((with_reducible (show Region.lexB _ _=true));kernel_rfl)|((try rw[qad]);omega)
      refine qao (E:=Try.env 0) Try.tok (σ:=Nat) (fun k=>[(49,.d (dI k)),(48,.d (dI L.length)),(47,.d (dIs L)),(9,.d (dI (c.first+(m:Int)))),(8,.sl 2 out.length 3 0 out.length),(5,.sl 1 0 1 0 c.vars.toNat),(3,.d (.lst 1 (qcN c (qbM c)))),(1,.ptr 0 0)])
       (fun k=>[.box [.d (dI c.inputs),.d (dIs c.next),.d (dPs c.gates),.d (dIs c.outs)],.row 0 1 true ((qa8 need (L.take k)).map D.bool),.row out.length 3 false (out.reverse.map fun x=>dLu x)])
       (fun k=>k≤L.length) (fun k=>L.length-k) [] [] 1000 1000 ?_ ?_
      ·simp only[go_sem,seval]
       exact⟨0,by omega,rfl,rfl⟩
      ·intro k hk
       have hsl:=qcd (L.take k) need
       by_cases hkt:k<L.length
       ·have hst:qa8 need (L.take (k+1))=(qa8 need (L.take k)).set (L.getD k 0).toNat true:=qaN (f:=fun(n:List Bool) (v:Int)=>n.set v.toNat true) (b:=need) (0:Int) hkt
        have hz:=hbo.2.2 _ (qaj hkt:L.getD k 0∈L)
        simp only[go_sem,seval,Try.results40,ev2,hbg]
        repeat' first|assumption|(simp (disch:=first|assumption|omega|(simp;done)|(simp;omega)) only[qaa,qac,List.take_of_length_le,qab,qae,qaf,qag];try simp only[go_sem,seval,Try.results40,ev2,hbg])|(with_reducible refine And.intro ?_ ?_)|(with_reducible intro _)|(refine @Exists.intro I _ (I.d D.nil) ?_;simp only[go_sem,seval,Try.results40,ev2,hbg])|((with_reducible (show Region.lexB _ _=true));kernel_rfl)|((try rw[qad]);omega)
        exact⟨k+1,by omega,by omega,rfl,hst.symm⟩
       ·have hst:qa8 need (L.take k)=qa8 need L:=by rw[List.take_of_length_le (by omega)]
        rw[hst]
        rw[hst] at hsl
        simp only[go_sem,seval,Try.results40,ev2,hbg]
        repeat' first|assumption|(simp (disch:=first|assumption|omega|(simp;done)|(simp;omega)) only[qaa,qac,List.take_of_length_le,qab,qae,qaf,qag];try simp only[go_sem,seval,Try.results40,ev2,hbg])|(with_reducible refine And.intro ?_ ?_)|(with_reducible intro _)|(refine @Exists.intro I _ (I.d D.nil) ?_;simp only[go_sem,seval,Try.results40,ev2,hbg])|((with_reducible (show Region.lexB _ _=true));kernel_rfl)|((try rw[qad]);omega)
        refine qc9 (E:=Try.env 0) Try.tok Try.follows 1000 1000 [] (.fst 0 (.fst 1 (.fst 2 (.fst 3 (.fst 4 (.fst 7 (.fst 8 (.fst 9 (.fst 10 (.fst 5 (.fst 11 (.one 6 (.one 12 (.fst 13 (.one 14 (.one 15 (.fst 16 (.done)))))))))))))))))) (by kernel_rfl) ?_
        simp only[go_sem,seval,Try.results40,ev2,hbg]
        repeat' first|assumption|(simp (disch:=first|assumption|omega|(simp;done)|(simp;omega)) only[qaa,qac,List.take_of_length_le,qab,qae,qaf,qag];try simp only[go_sem,seval,Try.results40,ev2,hbg])|(with_reducible refine And.intro ?_ ?_)|(with_reducible intro _)|(refine qai htb ?_;simp only[go_sem,seval,Try.results40,ev2,hbg])|(refine qai hcl ?_;simp only[go_sem,seval,Try.results40,ev2,hbg])|(refine @Exists.intro I _ (I.d D.nil) ?_;simp only[go_sem,seval,Try.results40,ev2,hbg])|((with_reducible (show Region.lexB _ _=true));kernel_rfl)|((try rw[qad]);omega)
        ·simp
        ·exact⟨(m,qa8 need L,⟨c.first+(m:Int),L,qfK c (c.first+(m:Int)) L⟩::out),⟨by simp only;omega,hsl.trans hnl,by simp only[List.length_cons];omega,by rw[←hinv,hstep]⟩,by simp only;omega,⟨rfl,by simp⟩,rfl,by simp,by simp⟩
     ·rw[if_neg hnd] at hstep
      rw[Bool.not_eq_true] at hnd
      simp only[go_sem,seval,Try.results40,ev2,hnd,hbg]
      repeat' first|assumption|(simp (disch:=first|assumption|omega|(simp;done)|(simp;omega)) only[qaa,qac,List.take_of_length_le,qab,qae,qaf,qag];try simp only[go_sem,seval,Try.results40,ev2,hnd,hbg])|(with_reducible refine And.intro ?_ ?_)|(with_reducible intro _)|(refine qai hfst ?_;simp only[go_sem,seval,Try.results40,ev2,hnd,hbg])|(refine @Exists.intro I _ (I.d D.nil) ?_;simp only[go_sem,seval,Try.results40,ev2,hnd,hbg])|((with_reducible (show Region.lexB _ _=true));kernel_rfl)|((try rw[qad]);omega)
      exact⟨(m,need,out),⟨by simp only;omega,hnl,by simp only;omega,by rw[←hinv,hstep]⟩,by simp only;omega,⟨rfl,rfl⟩,rfl,rfl,rfl⟩
end Go.Proofs

set_option linter.unusedVariables false
set_option linter.unusedSimpArgs false
namespace Go.VL
def qaV (c:Circ) (net:Int):Nat→List Int
 | 0=>[]
 | o+1=>qaV c net o++(if c.outs.getD o 0/2=net then [(o:Int)*5+4] else [])
def qbA (place:List Int) (i:Int):Int:=place.getD i.toNat 0
def qaL (c:Circ) (cells:List Cel) (place:List Int) (net:Int):List Int:=(qcO cells net).map (qbA place)++qaV c net c.outs.length
def qgJ (c:Circ) (net:Int):List Int:=if 1≤net∧net≤c.inputs then [(net-1)*5] else []
def qa3 (cells:List Cel) (place:List Int) (net:Int):Nat→List Int
 | 0=>[]
 | i+1=>qa3 cells place net i++(if(cells.getD i ce0).net=net then [place.getD i 0] else [])
def addU (out:List Int) (s:Int):List Int:=if s∈out then out else out ++ [s]
def qde (c:Circ) (cells:List Cel) (place:List Int) (net:Int):List Int:=
 if qaL c cells place net=[] then [] else(qaL c cells place net).foldl addU (qgJ c net++qa3 cells place net cells.length)
structure PlaceOk (n:Nat) (place:List Int):Prop where
 len:place.length=n
 rng : ∀ t∈place,0≤t∧t≤24
 nd:place.Nodup
theorem PlaceOk.get {n:Nat}{place:List Int}(h:PlaceOk n place) {i:Nat}(hi:i<n):0≤place.getD i 0∧place.getD i 0≤24:=h.rng _ (qaj (by rw[h.len];exact hi))
theorem qiw {c:Circ}{net t:Int} : ∀ {n:Nat},t∈qaV c net n↔∃ o:Nat,o<n∧c.outs.getD o 0/2=net∧t=(o:Int)*5+4
 | 0=>by simp[qaV]
 | n+1=>by
  rw[qaV,List.mem_append,qiw]
  constructor
  ·rintro(⟨o,h1,h2,h3⟩|h)
   ·exact⟨o,by omega,h2,h3⟩
   ·split at h
    ·rename_i h2
     exact⟨n,by omega,h2,by simpa using h⟩
    ·simp at h
  ·rintro⟨o,h1,h2,h3⟩
   by_cases ho:o<n
   ·exact .inl ⟨o,ho,h2,h3⟩
   ·obtain rfl:o=n:=by omega
    rw[if_pos h2]
    exact .inr (by simp[h3])
theorem qgy {cells:List Cel}{place:List Int}{net t:Int} : ∀ {n:Nat},t∈qa3 cells place net n↔∃ i:Nat,i<n∧(cells.getD i ce0).net=net∧t=place.getD i 0
 | 0=>by simp[qa3]
 | n+1=>by
  rw[qa3,List.mem_append,qgy]
  constructor
  ·rintro(⟨o,h1,h2,h3⟩|h)
   ·exact⟨o,by omega,h2,h3⟩
   ·split at h
    ·rename_i h2
     exact⟨n,by omega,h2,by simpa using h⟩
    ·simp at h
  ·rintro⟨o,h1,h2,h3⟩
   by_cases ho:o<n
   ·exact .inl ⟨o,ho,h2,h3⟩
   ·obtain rfl:o=n:=by omega
    rw[if_pos h2]
    exact .inr (by simp[h3])
theorem qfN {c:Circ}{cells:List Cel}{place:List Int}{net t:Int}:t∈qaL c cells place net↔(∃ i:Nat,i<cells.length∧net∈(cells.getD i ce0).inputs∧t=place.getD i 0)∨∃ o:Nat,o<c.outs.length∧c.outs.getD o 0/2=net∧t=(o:Int)*5+4:=by
 rw[qaL,List.mem_append,qiw,List.mem_map]
 constructor
 ·rintro(⟨i,h1,rfl⟩|h)
  ·obtain⟨j,h2,h3,rfl⟩:=qdL.1 h1
   exact .inl ⟨j,h2,h3,rfl⟩
  ·exact .inr h
 ·rintro(⟨i,h1,h2,rfl⟩|h)
  ·exact .inl ⟨(i:Int),qdL.2 ⟨i,h1,h2,rfl⟩,rfl⟩
  ·exact .inr h
theorem qlq {out:List Int}{s z:Int}:z∈addU out s↔z∈out∨z=s:=by
 unfold addU
 split
 ·rename_i h
  constructor
  ·exact .inl
  ·rintro(h1|rfl)
   ·exact h1
   ·exact h
 ·simp
theorem qhJ {z:Int} : ∀ {l out:List Int},z∈l.foldl addU out↔z∈out∨z∈l
 | [],out=>by simp
 | s::l,out=>by
  rw[List.foldl_cons,qhJ,qlq,List.mem_cons,or_assoc]
theorem qfO : ∀ {l out:List Int},∃ r,l.foldl addU out=out++r
 | [],out=>⟨[],by simp⟩
 | s::l,out=>by
  obtain⟨r,hr⟩:=qfO (l:=l) (out:=addU out s)
  rw[List.foldl_cons,hr]
  unfold addU
  split
  ·exact⟨r,rfl⟩
  ·exact⟨s::r,by simp⟩
theorem qgQ {c:Circ}{cells:List Cel}{place:List Int}(hc:c.Valid) (hp:PlaceOk cells.length place) {net:Int} : ∀ t∈qde c cells place net,0≤t∧t≤24:=by
 intro t ht
 have hlo:=hc.lo
 have hi1:=hc.i1
 unfold qde at ht
 split at ht
 ·simp at ht
 ·rw[qhJ,List.mem_append] at ht
  rcases ht with(h|h)|h
  ·unfold qgJ at h
   split at h
   ·obtain rfl:t=(net-1)*5:=by simpa using h
    omega
   ·simp at h
  ·obtain⟨i,h1,h2,rfl⟩:=qgy.1 h
   exact hp.get h1
  ·rcases qfN.1 h with⟨i,h1,h2,rfl⟩|⟨o,h1,h2,rfl⟩
   ·exact hp.get h1
   ·omega
theorem qix {l:List Int}:l.Nodup↔∀ i j,i<l.length→j<l.length→l.getD i 0=l.getD j 0→i=j:=by
 rw[List.nodup_iff_pairwise_ne,List.pairwise_iff_getElem]
 constructor
 ·intro h i j hi hj e
  have e2:l[i]=l[j]:=by simpa [List.getD,hi,hj] using e
  rcases Nat.lt_trichotomy i j with h1|h1|h1
  ·exact absurd e2 (h i j hi hj h1)
  ·exact h1
  ·exact absurd e2.symm (h j i hj hi h1)
 ·intro h i j hi hj hij e
  have:=h i j hi hj (by simpa [List.getD,hi,hj] using e)
  omega
end Go.VL

/- Contracts, plain definitions and lemmas. Conditions: none; lemmas. -/
import Derived.Test.YtoanmdnkgjdinaaC70
import Derived.Test.YtoanmdnkgjdinaaC65
set_option maxRecDepth 20000
set_option linter.unusedVariables false
set_option linter.unusedSimpArgs false
namespace Go.Proofs
open Go Go.VL
theorem Try.c_l5Table (c:Circ) (hc:c.Valid) (leaves:List Int) (hl:leaves.length≤3) (v:Int) (hv0:0≤v) (hv:v<c.vars):Pure Try.prog 91 [dC c,dI v,dIs leaves] (dI (qga c v leaves)):=by
 have hpw:=Nat.pow_le_pow_right (n:=2) (by omega) hl
 have hI:(2:Int) ^ leaves.length=((2 ^ leaves.length:Nat):Int):=by simp
 have hfin:qga c v leaves=((qdW c v leaves (2 ^ leaves.length):Nat):Int):=rfl
 rw[hfin]
 generalize 2 ^ leaves.length=N at *
 refine qan (E:=Try.env 0) Try.tok rfl 1000 Try.func91 rfl rfl Try.ntmps91 (by simp) fun ok=>?_
 simp only[go_sem,seval] at ok
 simp only[go_sem,seval,Try.results91]
 repeat' first|assumption|(simp (disch:=first|assumption|omega|(simp;done)|(simp;omega)) only[qaa,qac,List.take_of_length_le,qab,qae,qaf];try simp only[go_sem,seval,Try.results91])|(with_reducible refine And.intro ?_ ?_)|(with_reducible intro _)|((try rw[qad]);omega)
 refine qaH (E:=Try.env 0) Try.tok (σ:=Nat) (fun x=>[(0,.d (dC c)),(1,.d (dI v)),(2,.d (dIs leaves)),(3,.ptr 0 0),(7,.d (dI (qdW c v leaves x:Nat))),(8,.d (dI x))]) (fun _=>[.box [.d (dI c.inputs),.d (dIs c.next),.d (dPs c.gates),.d (dIs c.outs)]]) (fun x=>x≤N) (fun x=>N-x) [] 1000 1000 ?_ ?_ ?_
 ·simp only[go_sem,seval]
 ·simp only[go_sem,seval]
  exact⟨0,by omega,rfl,rfl⟩
 ·intro x hx
  have htl:=qh3 c v leaves x
  have htp:=Nat.pow_le_pow_right (n:=2) (by omega) (show x≤8 by omega)
  have hI2:(2:Int) ^ x=((2 ^ x:Nat):Int):=by simp
  have hts:qdW c v leaves (x+1)=qdW c v leaves x+(if qct c leaves x v then 2 ^ x else 0):=rfl
  generalize 2 ^ x=M at *
  by_cases hlt:x<N
  ·have q:=Try.c_l5Cone c hc leaves hl x (by omega) (v.toNat+1) v (by omega) hv0 hv
   simp only[go_sem,seval,Try.results91,hI,hI2]
   repeat' first|assumption|(simp (disch:=first|assumption|omega|(simp;done)|(simp;omega)) only[qaa,qac,List.take_of_length_le,qab,qae,qaf];try simp only[go_sem,seval,Try.results91,hI,hI2])|(with_reducible refine And.intro ?_ ?_)|(with_reducible intro _)|(refine qai q ?_;simp only[go_sem,seval,Try.results91,hI,hI2])|((try rw[qad]);omega)
   ·rename_i h9
    exact⟨x+1,by omega,by omega,by rw[hts,if_pos h9];omega,rfl⟩
   ·rename_i h9
    exact⟨x+1,by omega,by omega,by rw[hts,if_neg (by rw[h9];simp)];omega,rfl⟩
  ·simp only[go_sem,seval,Try.results91,hI,hI2]
   repeat' first|assumption|(simp (disch:=first|assumption|omega|(simp;done)|(simp;omega)) only[qaa,qac,List.take_of_length_le,qab,qae,qaf];try simp only[go_sem,seval,Try.results91,hI,hI2])|(with_reducible refine And.intro ?_ ?_)|(with_reducible intro _)|((try rw[qad]);omega)
   rw[show x=N by omega]
abbrev dLu (l:Lut):D:=.agg [dI l.var,dIs l.leaves,dI l.table]
abbrev dLus (l:List Lut):D:=.lst 3 (l.map fun x=>dLu x)
def lu0:Lut:=⟨0,[],0⟩
theorem qag {l:List Lut}{i:Nat}{z:D}(h:i<l.length):(l.map fun x=>dLu x).getD i z=dLu (l.getD i lu0):=getD_lt _ _ _ _ _ h
theorem Try.c_l5Map (c:Circ) (hc:c.Valid):PureF Try.prog 72 [dC c] (dLus (qcM c)):=by
 have hf:=hc.first_bd
 have hi0:=hc.i0
 have hi1:=hc.i1
 have hfst:=Try.c_l1First c (by omega)
 have hcu:=Try.c_l5Cuts c hc
 have hbe:=Try.c_l5Best c hc
 have hlo:=hc.lo
 have hln:=hc.ln
 have hlg:=hc.lg
 refine qcz (E:=Try.envf 0) Try.tok rfl 1000 Try.func72 rfl rfl Try.ntmps72 (by simp) fun ok=>?_
 simp only[go_sem,seval] at ok
 simp only[go_sem,seval,Try.results72]
 refine qdp (E:=Try.envf 0) Try.tok Try.follows 1000 1000 [] (.fst 0 (.fst 1 (.one 2 (.one 3 (.fst 4 (.fst 5 (.fst 6 (.fst 7 (.fst 8 (.done)))))))))) (by kernel_rfl) ?_
 simp only[go_sem,seval,Try.results72]
 repeat' first|assumption|(simp (disch:=first|assumption|omega|(simp;done)|(simp;omega)) only[qaa,qac,List.take_of_length_le,qab,qae,qaf];try simp only[go_sem,seval,Try.results72])|(with_reducible refine And.intro ?_ ?_)|(with_reducible intro _)|(refine qai hfst ?_;simp only[go_sem,seval,Try.results72])|(refine qbk hcu ?_;simp only[go_sem,seval,Try.results72])|(refine qbk hbe ?_;simp only[go_sem,seval,Try.results72])|((try rw[qad]);omega)
 refine qdp (E:=Try.envf 0) Try.tok Try.follows 1000 1000 [] (.fst 1 (.fst 4 (.fst 2 (.fst 5 (.one 0 (.one 3 (.one 6 (.fst 7 (.done))))))))) (by kernel_rfl) ?_
 simp only[go_sem,seval,Try.results72]
 repeat' first|assumption|(simp (disch:=first|assumption|omega|(simp;done)|(simp;omega)) only[qaa,qac,List.take_of_length_le,qab,qae,qaf];try simp only[go_sem,seval,Try.results72])|(with_reducible refine And.intro ?_ ?_)|(with_reducible intro _)|(refine qai hfst ?_;simp only[go_sem,seval,Try.results72])|((try rw[qad]);omega)
 have hvr:(c.first+(c.gates.length:Int)).toNat=c.vars.toNat:=rfl
 have hvv:c.vars=c.first+(c.gates.length:Int):=rfl
 have hrl:(c.outs++c.next).length=c.outs.length+c.next.length:=by simp
 have hrv:=qem hc
 have hrd:qbg c=(c.outs++c.next).map (· / 2):=rfl
 have hn0:qeS c=qbh (List.replicate c.vars.toNat false) (qbg c):=rfl
 rw[hvr]
 generalize hroots:c.outs++c.next=roots at *
 refine qao (E:=Try.envf 0) Try.tok (σ:=Nat) (fun i=>[(0,.d (dC c)),(1,.ptr 0 0),(3,.d (.lst 1 (qcX c (qbq c)))),(5,.d (dI c.first)),(6,.sl 1 0 1 0 c.vars.toNat),(7,.d (dIs roots)),(8,.d (dI i))])
  (fun i=>[.box [.d (dI c.inputs),.d (dIs c.next),.d (dPs c.gates),.d (dIs c.outs)],.row 0 1 true ((qbh (List.replicate c.vars.toNat false) ((qbg c).take i)).map D.bool)])
  (fun i=>i≤roots.length) (fun i=>roots.length-i) [] [] 1000 1000 ?_ ?_
 ·simp only[go_sem,seval]
  refine⟨0,by omega,?_⟩
  simp[qbh,←hrl]
 ·intro i hi
  have hsl:=qcj ((qbg c).take i) (List.replicate c.vars.toNat false)
  rw[List.length_replicate] at hsl
  by_cases hlt:i<roots.length
  ·have hrg:(qbg c).getD i 0=roots.getD i 0/2:=by rw[hrd];simp[List.getD,hlt]
   have hbd:=hrv _ (qal (by rw[hrd];simpa using hlt):(qbg c).getD i 0∈qbg c)
   have hst:qbh (List.replicate c.vars.toNat false) ((qbg c).take (i+1))=(qbh (List.replicate c.vars.toNat false) ((qbg c).take i)).set (roots.getD i 0/2).toNat true:=by
    rw[←hrg]
    exact qaC (f:=fun(n:List Bool) (v:Int)=>n.set v.toNat true) (b:=List.replicate c.vars.toNat false) (0:Int) (by rw[hrd];simpa using hlt)
   rw[hrg] at hbd
   simp only[go_sem,seval,Try.results72]
   repeat' first|assumption|(simp (disch:=first|assumption|omega|(simp;done)|(simp;omega)) only[qaa,qac,List.take_of_length_le,qab,qae,qaf];try simp only[go_sem,seval,Try.results72])|(with_reducible refine And.intro ?_ ?_)|(with_reducible intro _)|((try rw[qad]);omega)
   exact⟨i+1,by omega,by omega,rfl,by rw[hst]⟩
  ·have hst:qbh (List.replicate c.vars.toNat false) ((qbg c).take i)=qeS c:=by rw[hn0,List.take_of_length_le (by rw[hrd];simp;omega)]
   rw[hst]
   simp only[go_sem,seval,Try.results72]
   repeat' first|assumption|(simp (disch:=first|assumption|omega|(simp;done)|(simp;omega)) only[qaa,qac,List.take_of_length_le,qab,qae,qaf];try simp only[go_sem,seval,Try.results72])|(with_reducible refine And.intro ?_ ?_)|(with_reducible intro _)|((try rw[qad]);omega)
   have hne0:=qh7 c
   have hlu:qcM c=mapD c c.gates.length (qeS c) []:=rfl
   refine qao (E:=Try.envf 0) Try.tok (σ:=Nat×List Bool×List Lut) (fun s=>[(0,.d (dC c)),(1,.ptr 0 0),(3,.d (.lst 1 (qcX c (qbq c)))),(5,.d (dI c.first)),(6,.sl 1 0 1 0 c.vars.toNat),(9,.d (dLus s.2.2)),(10,.d (dI (c.first+(s.1:Int)-1)))])
    (fun s=>[.box [.d (dI c.inputs),.d (dIs c.next),.d (dPs c.gates),.d (dIs c.outs)],.row 0 1 true (s.2.1.map D.bool)])
    (fun s=>s.1≤c.gates.length∧s.2.1.length=c.vars.toNat∧s.2.2.length+s.1≤c.gates.length∧mapD c s.1 s.2.1 s.2.2=qcM c) (fun s=>s.1) [] [] 1000 1000 ?_ ?_
   ·simp only[go_sem,seval]
    refine⟨(c.gates.length,qeS c,[]),⟨by simp,hne0,by simp,hlu.symm⟩,?_⟩
    simp;omega
   ·rintro⟨j,need,out⟩ ⟨hj,hnl,hol,hinv⟩
    simp only at hj hnl hol hinv
    cases j with
    | zero=>
     simp only[go_sem,seval,Try.results72]
     repeat' first|assumption|(simp (disch:=first|assumption|omega|(simp;done)|(simp;omega)) only[qaa,qac,List.take_of_length_le,qab,qae,qaf];try simp only[go_sem,seval,Try.results72])|(with_reducible refine And.intro ?_ ?_)|(with_reducible intro _)|((try rw[qad]);omega)
     rw[←hinv];rfl
    | succ m=>
     have hbo:=qcP hc (i:=m) (by omega)
     have hbl:=qkw c
     have ev:(c.first+((m+1:Nat):Int)-1)=c.first+(m:Int):=by omega
     have ev2:(c.first+(m:Int)).toNat=c.first.toNat+m:=by omega
     have hbg : ∀ z,(qcX c (qbq c)).getD (c.first.toNat+m) z=dIs ((qbq c).getD (c.first.toNat+m) []):=fun z=>qkA (by omega) (by omega)
     have hstep:mapD c (m+1) need out=if need.getD (c.first.toNat+m) false=true then
       mapD c m (qbh need ((qbq c).getD (c.first.toNat+m) [])) (⟨c.first+(m:Int),(qbq c).getD (c.first.toNat+m) [],qga c (c.first+(m:Int)) ((qbq c).getD (c.first.toNat+m) [])⟩::out)
      else mapD c m need out:=rfl
     have htb:=Try.c_l5Table c hc ((qbq c).getD (c.first.toNat+m) []) hbo.2.1 (c.first+(m:Int)) (by omega) (by omega)
     have hbD:(qcX c (qbq c)).length=c.first.toNat+c.gates.length:=by rw[qcW (by omega)];exact hbl
     rw[ev]
     generalize hL:(qbq c).getD (c.first.toNat+m) []=L at *
     by_cases hnd:need.getD (c.first.toNat+m) false=true
     ·rw[if_pos hnd] at hstep
      simp only[go_sem,seval,Try.results72,ev2,hnd,hbg]
      repeat' first|assumption|(simp (disch:=first|assumption|omega|(simp;done)|(simp;omega)) only[qaa,qac,List.take_of_length_le,qab,qae,qaf];try simp only[go_sem,seval,Try.results72,ev2,hnd,hbg])|(with_reducible refine And.intro ?_ ?_)|(with_reducible intro _)|((try rw[qad]);omega)
      refine qao (E:=Try.envf 0) Try.tok (σ:=Nat) (fun k=>[(0,.d (dC c)),(1,.ptr 0 0),(3,.d (.lst 1 (qcX c (qbq c)))),(5,.d (dI c.first)),(6,.sl 1 0 1 0 c.vars.toNat),(9,.d (dLus out)),(10,.d (dI (c.first+(m:Int)))),(11,.d (dI k))])
       (fun k=>[.box [.d (dI c.inputs),.d (dIs c.next),.d (dPs c.gates),.d (dIs c.outs)],.row 0 1 true ((qbh need (L.take k)).map D.bool)])
       (fun k=>k≤L.length) (fun k=>L.length-k) [] [] 1000 1000 ?_ ?_
      ·simp only[go_sem,seval]
       exact⟨0,by omega,rfl,rfl⟩
      ·intro k hk
       have hsl:=qcj (L.take k) need
       by_cases hkt:k<L.length
       ·have hst:qbh need (L.take (k+1))=(qbh need (L.take k)).set (L.getD k 0).toNat true:=qaC (f:=fun(n:List Bool) (v:Int)=>n.set v.toNat true) (b:=need) (0:Int) hkt
        have hz:=hbo.2.2 _ (qal hkt:L.getD k 0∈L)
        simp only[go_sem,seval,Try.results72,ev2,hbg]
        repeat' first|assumption|(simp (disch:=first|assumption|omega|(simp;done)|(simp;omega)) only[qaa,qac,List.take_of_length_le,qab,qae,qaf];try simp only[go_sem,seval,Try.results72,ev2,hbg])|(with_reducible refine And.intro ?_ ?_)|(with_reducible intro _)|((try rw[qad]);omega)
        exact⟨k+1,by omega,by omega,rfl,hst.symm⟩
       ·have hst:qbh need (L.take k)=qbh need L:=by rw[List.take_of_length_le (by omega)]
        rw[hst]
        rw[hst] at hsl
        simp only[go_sem,seval,Try.results72,ev2,hbg]
        repeat' first|assumption|(simp (disch:=first|assumption|omega|(simp;done)|(simp;omega)) only[qaa,qac,List.take_of_length_le,qab,qae,qaf];try simp only[go_sem,seval,Try.results72,ev2,hbg])|(with_reducible refine And.intro ?_ ?_)|(with_reducible intro _)|((try rw[qad]);omega)
        refine qdp (E:=Try.envf 0) Try.tok Try.follows 1000 1000 [] (.fst 0 (.fst 2 (.fst 3 (.fst 4 (.fst 8 (.fst 9 (.fst 10 (.fst 11 (.fst 16 (.fst 5 (.fst 7 (.fst 12 (.one 1 (.one 6 (.one 13 (.fst 14 (.one 15 (.one 17 (.fst 18 (.done)))))))))))))))))))) (by kernel_rfl) ?_
        simp only[go_sem,seval,Try.results72,ev2,hbg]
        repeat' first|assumption|(simp (disch:=first|assumption|omega|(simp;done)|(simp;omega)) only[qaa,qac,List.take_of_length_le,qab,qae,qaf];try simp only[go_sem,seval,Try.results72,ev2,hbg])|(with_reducible refine And.intro ?_ ?_)|(with_reducible intro _)|(refine qai htb ?_;simp only[go_sem,seval,Try.results72,ev2,hbg])|((try rw[qad]);omega)
        exact⟨(m,qbh need L,⟨c.first+(m:Int),L,qga c (c.first+(m:Int)) L⟩::out),⟨by simp only;omega,hsl.trans hnl,by simp only[List.length_cons];omega,by rw[←hinv,hstep]⟩,by simp only;omega,⟨rfl,by simp only⟩,rfl⟩
     ·rw[if_neg hnd] at hstep
      rw[Bool.not_eq_true] at hnd
      simp only[go_sem,seval,Try.results72,ev2,hnd,hbg]
      repeat' first|assumption|(simp (disch:=first|assumption|omega|(simp;done)|(simp;omega)) only[qaa,qac,List.take_of_length_le,qab,qae,qaf];try simp only[go_sem,seval,Try.results72,ev2,hnd,hbg])|(with_reducible refine And.intro ?_ ?_)|(with_reducible intro _)|((try rw[qad]);omega)
      exact⟨(m,need,out),⟨by simp only;omega,hnl,by simp only;omega,by rw[←hinv,hstep]⟩,by simp only;omega,⟨rfl,by simp only⟩,rfl⟩
end Go.Proofs

set_option maxRecDepth 20000
set_option linter.unusedVariables false
set_option linter.unusedSimpArgs false
namespace Go.Proofs
open Go Go.VL
structure RevTo (l m:List Lut) (i:Nat):Prop where
 len:m.length=l.length
 get : ∀ p,p<l.length→m.getD p lu0=if p<i∨l.length≤p+i then l.getD (l.length-1-p) lu0 else l.getD p lu0
theorem RevTo.start (l:List Lut):RevTo l l 0:=⟨rfl,fun p hp=>by rw[if_neg (by omega)]⟩
theorem qkD {m:List Lut}{a p:Nat}{x:Lut}(h:a<m.length):(m.set a x).getD p lu0=if p=a then x else m.getD p lu0:=by
 by_cases e:p=a
 ·subst e;simp[List.getD,h]
 ·simp[List.getD,List.getElem?_set,show ¬ a=p by omega,e]
theorem RevTo.step {l m:List Lut}{i:Nat}(h:RevTo l m i) (hi:i+i+1<l.length):RevTo l ((m.set i (m.getD (l.length-1-i) lu0)).set (l.length-1-i) (m.getD i lu0)) (i+1):=by
 have hl:=h.len
 refine⟨by simp[hl],fun p hp=>?_⟩
 rw[qkD (by simp;omega),qkD (by omega)]
 have g1:=h.get p hp
 have g2:=h.get i (by omega)
 have g3:=h.get (l.length-1-i) (by omega)
 rw[if_neg (by omega)] at g2 g3
 rw[g1,g2,g3]
 by_cases e1:p=l.length-1-i
 ·subst e1
  rw[if_pos rfl,if_pos (by omega),show l.length-1-(l.length-1-i)=i by omega]
 ·rw[if_neg e1]
  by_cases e2:p=i
  ·subst e2
   rw[if_pos rfl,if_pos (by omega)]
  ·rw[if_neg e2]
   by_cases e3:p<i∨l.length≤p+i
   ·rw[if_pos e3,if_pos (by omega)]
   ·rw[if_neg e3,if_neg (by omega)]
theorem RevTo.done {l m:List Lut}{i:Nat}(h:RevTo l m i) (hi:l.length≤i+i+1):m=l.reverse:=by
 refine qei lu0 (by simp[h.len]) fun p hp=>?_
 have hl:=h.len
 have e:l.reverse.getD p lu0=l.getD (l.length-1-p) lu0:=by simp[List.getD,show p<l.length by omega,show l.length-1-p<l.length by omega]
 rw[e,h.get p (by omega)]
 split
 ·rfl
 ·rw[show l.length-1-p=p by omega]
theorem Try.c_ReverseL (g:Nat) (l:List Lut) (hl:l.length≤1000000):ICall Try.prog 77 [.sl 0 g 3 0 l.length] [.row g 3 false (l.map fun x=>dLu x)] (fun _ H'=>H'=[.row g 3 false (l.reverse.map fun x=>dLu x)]):=by
 refine qaF (E:=Try.env 1) Try.tok rfl 1000 Try.func77 rfl rfl Try.ntmps77 (by simp) ?_
 simp only[go_sem,seval,Try.results77]
 repeat' first|assumption|(simp (disch:=first|assumption|omega|(simp;done)|(simp;omega)) only[qaa,qac,List.take_of_length_le,qab,qag];try simp only[go_sem,seval,Try.results77])|(with_reducible refine And.intro ?_ ?_)|(with_reducible intro _)|((try rw[qad]);omega)
 refine qaH (E:=Try.env 1) Try.tok (σ:=Nat×List Lut) (fun s=>[(3,.d (dI ((l.length:Int)-1-(s.1:Int)))),(2,.d (dI s.1)),(0,.sl 0 g 3 0 l.length)]) (fun s=>[.row g 3 false (s.2.map fun x=>dLu x)])
  (fun s=>s.1≤l.length∧RevTo l s.2 s.1) (fun s=>l.length-s.1) [] 1000 1000 ?_ ?_ ?_
 ·simp only[go_sem,seval]
 ·simp only[go_sem,seval]
  exact⟨(0,l),⟨Nat.zero_le _,RevTo.start l⟩,⟨by simp,rfl⟩,rfl⟩
 ·rintro⟨i,m⟩ ⟨hi,hm⟩
  simp only at hi hm
  have hml:=hm.len
  by_cases hlt:i+i+1<l.length
  ·have ej:((l.length:Int)-1-(i:Int)).toNat=l.length-1-i:=by omega
   simp only[go_sem,seval,Try.results77,ej]
   repeat' first|assumption|(simp (disch:=first|assumption|omega|(simp;done)|(simp;omega)) only[qaa,qac,List.take_of_length_le,qab,qag];try simp only[go_sem,seval,Try.results77,ej])|(with_reducible refine And.intro ?_ ?_)|(with_reducible intro _)|((try rw[qad]);omega)
   refine qaQ (E:=Try.env 1) Try.tok Try.follows 1000 1000 [13,15] (.fst 0 (.fst 1 (.fst 2 (.fst 3 (.fst 4 (.fst 5 (.fst 6 (.fst 8 (.fst 9 (.fst 10 (.fst 7 (.fst 11 (.fst 12 (.one 13 (.fst 14 (.one 15 (.done))))))))))))))))) (by kernel_rfl) ?_
   simp only[go_sem,seval,Try.results77,ej]
   repeat' first|assumption|(simp (disch:=first|assumption|omega|(simp;done)|(simp;omega)) only[qaa,qac,List.take_of_length_le,qab,qag];try simp only[go_sem,seval,Try.results77,ej])|(with_reducible refine And.intro ?_ ?_)|(with_reducible intro _)|((try rw[qad]);omega)
   refine⟨(i+1,_),⟨by simp only;omega,hm.step hlt⟩,by simp only;omega,⟨by simp only;omega,rfl⟩,?_⟩
   rw[List.map_set,List.map_set]
  ·simp only[go_sem,seval,Try.results77]
   repeat' first|assumption|(simp (disch:=first|assumption|omega|(simp;done)|(simp;omega)) only[qaa,qac,List.take_of_length_le,qab,qag];try simp only[go_sem,seval,Try.results77])|(with_reducible refine And.intro ?_ ?_)|(with_reducible intro _)|((try rw[qad]);omega)
   exact qbB (by rw[hm.done (by omega)])
theorem Try.c_CloneI (l:List Int) (hl:l.length≤1048576):Pure Try.prog 75 [dIs l] (dIs l):=by
 refine qiF (T:=Try.tyT) Try.tok Try.func75 rfl rfl (by simp[Try.ntmps75]) ?_
 rw[Try.ntmps75]
 refine qjE (E:=Try.env 0) (ks:=[]) (qiO (qrD Try.tok rfl rfl trivial (qn2 (qjE (qjE (qiO (qrD Try.tok rfl rfl ?_ (qqc Try.tok rfl rfl ?_ rfl fun b hb=>qqd Try.tok 1000 ?_))))))))
 ·simp only[go_sem,seval]
 ·simp only[go_sem,seval]
 ·simp only[go_sem,seval,Try.results75]
  exact⟨hb,fun h=>by omega⟩
theorem qlt {c:Circ}(hb : ∀ z∈qbg c,0≤z):qbh (List.replicate c.vars.toNat false) (c.roots.map (· / 2))=qeS c:=by
 have hm : ∀ z:Int,z∈c.roots.map (· / 2)↔z∈qbg c:=fun z=>by simp[Circ.roots,qbg,or_and_right,exists_or,or_comm]
 refine qei false (by rw[qeS,qcj,qcj]) fun j hj=>?_
 rw[qeS,qdX _ _ _ (fun v hv=>hb v ((hm v).1 hv)),qdX _ _ _ hb]
 simp only[hm]
end Go.Proofs

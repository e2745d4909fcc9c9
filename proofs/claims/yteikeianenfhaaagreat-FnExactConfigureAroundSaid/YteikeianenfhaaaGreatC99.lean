/- Contracts, plain definitions and lemmas. Conditions: none; lemmas. -/
import Derived.Test.YteikeianenfhaaaGreatC97
import Derived.Test.YteikeianenfhaaaGreatC71
set_option maxRecDepth 20000
set_option linter.unusedSimpArgs false
set_option linter.unusedVariables false
namespace Go.Proofs
open Go Go.VL
structure RevTo (l m:List Lut) (i:Nat):Prop where
 len:m.length=l.length
 get : ∀ p,p<l.length->m.getD p lu0=if p<i∨l.length<=p+i then l.getD (l.length-1-p) lu0 else l.getD p lu0
theorem RevTo.start (l:List Lut):RevTo l l 0:=⟨rfl,fun p hp=>by rw[if_neg (by omega)]⟩
theorem qlh {m:List Lut}{a p:Nat}{x:Lut}(h:a<m.length):(m.set a x).getD p lu0=if p=a then x else m.getD p lu0:=by
 by_cases e:p=a
 ·subst e;simp[List.getD,h]
 ·simp[List.getD,List.getElem?_set,show ¬ a=p by omega,e]
theorem RevTo.step {l m:List Lut}{i:Nat}(h:RevTo l m i) (hi:i+i+1<l.length):RevTo l ((m.set i (m.getD (l.length-1-i) lu0)).set (l.length-1-i) (m.getD i lu0)) (i+1):=by
 have hl:=h.len;refine⟨by simp[hl],fun p hp=>?_⟩;rw[qlh (by simp;omega),qlh (by omega)];have g1:=h.get p hp;have g2:=h.get i (by omega);have g3:=h.get (l.length-1-i) (by omega);rw[if_neg (by omega)] at g2 g3;rw[g1,g2,g3];by_cases e1:p=l.length-1-i
 ·subst e1;rw[if_pos rfl,if_pos (by omega),show l.length-1-(l.length-1-i)=i by omega]
 ·rw[if_neg e1];by_cases e2:p=i
  ·subst e2;rw[if_pos rfl,if_pos (by omega)]
  ·rw[if_neg e2];by_cases e3:p<i∨l.length<=p+i
   ·rw[if_pos e3,if_pos (by omega)]
   ·rw[if_neg e3,if_neg (by omega)]
theorem RevTo.done {l m:List Lut}{i:Nat}(h:RevTo l m i) (hi:l.length<=i+i+1):m=l.reverse:=by
 refine qbz lu0 (by simp[h.len]) fun p hp=>?_
 have hl:=h.len;have e:l.reverse.getD p lu0=l.getD (l.length-1-p) lu0:=by simp[List.getD,show p<l.length by omega,show l.length-1-p<l.length by omega]
 rw[e,h.get p (by omega)];split
 ·rfl
 ·rw[show l.length-1-p=p by omega]
theorem Tryz.c_ReverseL (g:Nat) (l:List Lut) (hl:l.length<=1000000):ICall Tryz.prog 175 [.sl 0 g 3 0 l.length] [.row g 3 false (l.map fun x=>dLu x)] (fun _ H'=>H'=[.row g 3 false (l.reverse.map fun x=>dLu x)]):=by
 refine qaO (E:=Tryz.env 1) Tryz.tok rfl 1000 Tryz.func175 rfl rfl Tryz.ntmps175 (by simp) ?_;simp only[go_sem,seval]
 repeat' first|assumption|(simp (disch:=first|assumption|omega|(simp;done)|(simp;omega)) only[qaa,qac,yaa,qab,qah];try simp only[go_sem,seval])|(with_reducible first|refine And.intro ?_ ?_|intro _)|((try rw[qad]);omega)
 refine qaF (E:=Tryz.env 1) Tryz.tok (σ:=Nat×List Lut) (fun s=>[(3,.d (dI ((l.length:Int)-1-(s.1:Int)))),(2,.d (dI s.1)),(0,.sl 0 g 3 0 l.length)]) (fun s=>[.row g 3 false (s.2.map fun x=>dLu x)])
  (fun s=>s.1<=l.length/\RevTo l s.2 s.1) (fun s=>l.length-s.1) [] 1000 1000 ?_ ?_ ?_
 ·simp only[go_sem,seval]
 ·simp only[go_sem,seval];exact⟨(0,l),⟨yaU _,RevTo.start l⟩,⟨by simp,rfl⟩,rfl⟩
 ·rintro⟨i,m⟩ ⟨hi,hm⟩;simp only at hi hm;have hml:=hm.len;by_cases hlt:i+i+1<l.length
  ·have ej:((l.length:Int)-1-(i:Int)).toNat=l.length-1-i:=by omega
   simp only[go_sem,seval,ej]
   repeat' first|assumption|(simp (disch:=first|assumption|omega|(simp;done)|(simp;omega)) only[qaa,qac,yaa,qab,qah];try simp only[go_sem,seval,ej])|(with_reducible first|refine And.intro ?_ ?_|intro _)|((try rw[qad]);omega)
   refine qaL (E:=Tryz.env 1) Tryz.tok Tryz.follows 1000 1000 [13,15] (.fst 0 (.fst 1 (.fst 2 (.fst 3 (.fst 4 (.fst 5 (.fst 6 (.fst 8 (.fst 9 (.fst 10 (.fst 7 (.fst 11 (.fst 12 (.one 13 (.fst 14 (.one 15 (.done))))))))))))))))) (by kernel_rfl) ?_;simp only[go_sem,seval,ej]
   repeat' first|assumption|(simp (disch:=first|assumption|omega|(simp;done)|(simp;omega)) only[qaa,qac,yaa,qab,qah];try simp only[go_sem,seval,ej])|(with_reducible first|refine And.intro ?_ ?_|intro _)|((try rw[qad]);omega)
   refine⟨(i+1,_),⟨by simp only;omega,hm.step hlt⟩,by simp only;omega,⟨by simp only;omega,rfl⟩,?_⟩;rw[ybm,ybm]
  ·simp only[go_sem,seval]
   repeat' first|assumption|(simp (disch:=first|assumption|omega|(simp;done)|(simp;omega)) only[qaa,qac,yaa,qab,qah];try simp only[go_sem,seval])|(with_reducible first|refine And.intro ?_ ?_|intro _)|((try rw[qad]);omega)
   exact qci (by rw[hm.done (by omega)])
theorem Tryz.c_CloneJ (l:List Int) (hl:l.length<=1048576):Pure Tryz.prog 173 [dIs l] (dIs l):=by
 refine qje (T:=Tryz.tyT) Tryz.tok Tryz.func173 rfl rfl (by simp[Tryz.ntmps173]) ?_;rw[Tryz.ntmps173];refine qkb (E:=Tryz.env 0) (ks:=[]) (qjn (qse Tryz.tok rfl rfl trivial (qo1 (qkb (qkb (qjn (qse Tryz.tok rfl rfl ?_ (qqZ Tryz.tok rfl rfl ?_ rfl fun b hb=>qq0 Tryz.tok 1000 ?_))))))))
 ·simp only[go_sem,seval]
 ·simp only[go_sem,seval]
 ·simp only[go_sem,seval];exact⟨hb,fun h=>by omega⟩
theorem qml {c:Circ}(hb : ∀ z∈qbq c,0<=z):qbp (List.replicate c.vars.toNat false) (c.roots.map (· / 2))=qe7 c:=by
 have hm : ∀ z:Int,z∈c.roots.map (· / 2)↔z∈qbq c:=fun z=>by simp[Circ.roots,qbq,or_and_right,exists_or,or_comm]
 refine qbz false (by rw[qe7,qcm,qcm]) fun j hj=>?_
 rw[qe7,qeg _ _ _ (fun v hv=>hb v ((hm v).1 hv)),qeg _ _ _ hb];simp only[hm]

theorem Tryz.c_MapLuts (c:Circ) (hc:c.Valid):PureF Tryz.prog 101 [dC c] (dLus (qdq c)):=by
 have hf:=hc.first_bd;have hi0:=hc.i0;have hi1:=hc.i1;have hlo:=hc.lo;have hln:=hc.ln;have hlg:=hc.lg;have hfst:=Tryz.c_firstGate c (by omega);have hvs:=Tryz.c_vars c (by omega);have hcv:=Tryz.c_CircuitValid c;have hbe:=Tryz.c_bestCuts c hc;have hro:=Tryz.c_roots c (by omega);have hvv:c.vars=c.first+(c.gates.length:Int):=rfl
 have hrv:=qfP hc;have hn0:=qml (c:=c) (fun z hz=>(hrv z hz).1);have hr2 : ∀ z∈c.roots,0<=z/2/\z/2<c.vars:=fun z hz=>hrv _ (by
  simp only[qbq,List.mem_map,yas];exact⟨z,by simpa [Circ.roots,or_comm] using hz,rfl⟩)
 have hrl:c.roots.length<=2000000:=by unfold Circ.roots;simp;omega
 refine qcG (E:=Tryz.env 0) Tryz.tok rfl 1000 Tryz.func101 rfl rfl Tryz.ntmps101 (by simp) fun ok=>?_
 simp only[go_sem,seval] at ok;simp only[go_sem,seval]
 repeat' first|assumption|(simp (disch:=first|assumption|omega|(simp;done)|(simp;omega)) only[qaa,qac,yaa,qab,qae,qaf,qah];try simp only[go_sem,seval])|(with_reducible first|refine And.intro ?_ ?_|intro _)|(refine qaj hfst ?_;simp only[go_sem,seval])|(refine qaj hcv ?_;simp only[go_sem,seval])|(refine qaj hvs ?_;simp only[go_sem,seval])|(refine qaj hro ?_;simp only[go_sem,seval])|((try rw[qad]);omega)
 ·rename_i h9;exact absurd hc h9
 refine qaB hbe [0] (by simp only[go_sem,seval]) ?_;rintro r0 H1 ⟨rfl,rfl⟩;simp only[go_sem,seval]
 repeat' first|assumption|(simp (disch:=first|assumption|omega|(simp;done)|(simp;omega)) only[qaa,qac,yaa,qab,qae,qaf,qah];try simp only[go_sem,seval])|(with_reducible first|refine And.intro ?_ ?_|intro _)|(refine qaj hvs ?_;simp only[go_sem,seval])|(refine qaj hro ?_;simp only[go_sem,seval])|((try rw[qad]);omega)
 have hrd:(c.roots.map (· / 2)).length=c.roots.length:=by simp
 generalize hroots:c.roots=roots at *
 refine qap (E:=Tryz.env 0) Tryz.tok (σ:=Nat) (fun i=>[(23,.d (dI i)),(22,.d (dI roots.length)),(21,.d (dIs roots)),(5,.sl 1 0 1 0 c.vars.toNat),(3,.d (.lst 1 (qdf c (qbr c)))),(1,.ptr 0 0)])
  (fun i=>[.box [.d (dI c.inputs),.d (dIs c.next),.d (dPs c.gates),.d (dIs c.outs)],.row 0 1 true ((qbp (List.replicate c.vars.toNat false) ((roots.map (· / 2)).take i)).map D.bool)])
  (fun i=>i<=roots.length) (fun i=>roots.length-i) [] [] 1000 1000 ?_ ?_
 ·simp only[go_sem,seval];refine⟨0,by omega,?_⟩;simp[qbp]
 ·intro i hi;have hsl:=qcm ((roots.map (· / 2)).take i) (List.replicate c.vars.toNat false);rw[yaG] at hsl;by_cases hlt:i<roots.length
  ·have hrg:(roots.map (· / 2)).getD i 0=roots.getD i 0/2:=by simp[List.getD,hlt]
   have hbd:=hr2 _ (qal hlt:roots.getD i 0∈roots);have hst:qbp (List.replicate c.vars.toNat false) ((roots.map (· / 2)).take (i+1))=(qbp (List.replicate c.vars.toNat false) ((roots.map (· / 2)).take i)).set (roots.getD i 0/2).toNat true:=by
    rw[<-hrg];exact qaC (f:=fun(n:List Bool) (v:Int)=>n.set v.toNat true) (b:=List.replicate c.vars.toNat false) (0:Int) (by rw[hrd];exact hlt)
   simp only[go_sem,seval]
   repeat' first|assumption|(simp (disch:=first|assumption|omega|(simp;done)|(simp;omega)) only[qaa,qac,yaa,qab,qae,qaf,qah];try simp only[go_sem,seval])|(with_reducible first|refine And.intro ?_ ?_|intro _)|((try rw[qad]);omega)
   exact⟨i+1,by omega,by omega,rfl,by rw[hst]⟩
  ·have hst:qbp (List.replicate c.vars.toNat false) ((roots.map (· / 2)).take i)=qe7 c:=by rw[<-hn0,yaa (by rw[hrd];omega)]
   rw[hst];simp only[go_sem,seval]
   repeat' first|assumption|(simp (disch:=first|assumption|omega|(simp;done)|(simp;omega)) only[qaa,qac,yaa,qab,qae,qaf,qah];try simp only[go_sem,seval])|(with_reducible first|refine And.intro ?_ ?_|intro _)|(refine qaj hvs ?_;simp only[go_sem,seval])|((try rw[qad]);omega)
   have hne0:=qiy c;have hlu:qdq c=mapD c c.gates.length (qe7 c) []:=rfl;refine qap (E:=Tryz.env 0) Tryz.tok (σ:=Nat×List Bool×List Lut) (fun s=>[(9,.d (dI (c.first+(s.1:Int)-1))),(8,.sl 2 s.2.2.length 3 0 s.2.2.length),(5,.sl 1 0 1 0 c.vars.toNat),(3,.d (.lst 1 (qdf c (qbr c)))),(1,.ptr 0 0)])
    (fun s=>[.box [.d (dI c.inputs),.d (dIs c.next),.d (dPs c.gates),.d (dIs c.outs)],.row 0 1 true (s.2.1.map D.bool),.row s.2.2.length 3 false (s.2.2.reverse.map fun x=>dLu x)])
    (fun s=>s.1<=c.gates.length/\s.2.1.length=c.vars.toNat/\s.2.2.length+s.1<=c.gates.length/\mapD c s.1 s.2.1 s.2.2=qdq c) (fun s=>s.1) [] [(8,3,false)] 1000 1000 ?_ ?_
   ·simp only[go_sem,seval];refine⟨(c.gates.length,qe7 c,[]),⟨by simp,hne0,by simp,hlu.symm⟩,?_⟩;simp;omega
   ·rintro⟨j,need,out⟩ ⟨hj,hnl,hol,hinv⟩;simp only at hj hnl hol hinv;cases j with
    | zero=>
     simp only[go_sem,seval]
     repeat' first|assumption|(simp (disch:=first|assumption|omega|(simp;done)|(simp;omega)) only[qaa,qac,yaa,qab,qae,qaf,qah];try simp only[go_sem,seval])|(with_reducible first|refine And.intro ?_ ?_|intro _)|(refine qaj hfst ?_;simp only[go_sem,seval])|((try rw[qad]);omega)
     have hrl9:out.length=out.reverse.length:=by simp
     rw[hrl9];refine qaB (Tryz.c_ReverseL out.reverse.length out.reverse (by simp;omega)) [2] (by simp only[go_sem,seval]) ?_
     ·rintro r0 H1 rfl;rw[List.reverse_reverse];have hmd:mapD c 0 need out=out:=rfl;rw[<-hinv,hmd];simp only[go_sem,seval]
      repeat' first|assumption|(simp (disch:=first|assumption|omega|(simp;done)|(simp;omega)) only[qaa,qac,yaa,qab,qae,qaf,qah];try simp only[go_sem,seval])|(with_reducible first|refine And.intro ?_ ?_|intro _)|((try rw[qad]);omega)
    | succ m=>
     have hbo:=qcI hc (i:=m) (by omega);have hbl:=qla c;have ev:(c.first+((m+1:Nat):Int)-1)=c.first+(m:Int):=by omega
     have ev2:(c.first+(m:Int)).toNat=c.first.toNat+m:=by omega
     have hbg : ∀ z,(qdf c (qbr c)).getD (c.first.toNat+m) z=dIs ((qbr c).getD (c.first.toNat+m) []):=fun z=>qld (by omega) (by omega)
     have hstep:mapD c (m+1) need out=if need.getD (c.first.toNat+m) false=true then
       mapD c m (qbp need ((qbr c).getD (c.first.toNat+m) [])) (⟨c.first+(m:Int),(qbr c).getD (c.first.toNat+m) [],qge c (c.first+(m:Int)) ((qbr c).getD (c.first.toNat+m) [])⟩::out)
      else mapD c m need out:=rfl
     have htb:=Tryz.c_coneTable c hc (c.first+(m:Int)) (by omega) (by omega) ((qbr c).getD (c.first.toNat+m) []) hbo.2.1 hbo.1 (fun z hz=>by have:=hbo.2.2 z hz;omega);have hcl:=Tryz.c_CloneJ ((qbr c).getD (c.first.toNat+m) []) (by have:=hbo.2.1;omega);have hbD:(qdf c (qbr c)).length=c.first.toNat+c.gates.length:=by rw[qdb (by omega)];exact hbl
     rw[ev];generalize hL:(qbr c).getD (c.first.toNat+m) []=L at *
     by_cases hnd:need.getD (c.first.toNat+m) false=true
     ·rw[if_pos hnd] at hstep;simp only[go_sem,seval,ev2,hnd,hbg]
      repeat' first|assumption|(simp (disch:=first|assumption|omega|(simp;done)|(simp;omega)) only[qaa,qac,yaa,qab,qae,qaf,qah];try simp only[go_sem,seval,ev2,hnd,hbg])|(with_reducible first|refine And.intro ?_ ?_|intro _)|(refine qaj hfst ?_;simp only[go_sem,seval,ev2,hnd,hbg])|((try rw[qad]);omega)
      refine qap (E:=Tryz.env 0) Tryz.tok (σ:=Nat) (fun k=>[(49,.d (dI k)),(48,.d (dI L.length)),(47,.d (dIs L)),(9,.d (dI (c.first+(m:Int)))),(8,.sl 2 out.length 3 0 out.length),(5,.sl 1 0 1 0 c.vars.toNat),(3,.d (.lst 1 (qdf c (qbr c)))),(1,.ptr 0 0)])
       (fun k=>[.box [.d (dI c.inputs),.d (dIs c.next),.d (dPs c.gates),.d (dIs c.outs)],.row 0 1 true ((qbp need (L.take k)).map D.bool),.row out.length 3 false (out.reverse.map fun x=>dLu x)])
       (fun k=>k<=L.length) (fun k=>L.length-k) [] [] 1000 1000 ?_ ?_
      ·simp only[go_sem,seval];exact⟨0,by omega,rfl,rfl⟩
      ·intro k hk;have hsl:=qcm (L.take k) need;by_cases hkt:k<L.length
       ·have hst:qbp need (L.take (k+1))=(qbp need (L.take k)).set (L.getD k 0).toNat true:=qaC (f:=fun(n:List Bool) (v:Int)=>n.set v.toNat true) (b:=need) (0:Int) hkt;have hz:=hbo.2.2 _ (qal hkt:L.getD k 0∈L);simp only[go_sem,seval,ev2,hbg]
        repeat' first|assumption|(simp (disch:=first|assumption|omega|(simp;done)|(simp;omega)) only[qaa,qac,yaa,qab,qae,qaf,qah];try simp only[go_sem,seval,ev2,hbg])|(with_reducible first|refine And.intro ?_ ?_|intro _)|((try rw[qad]);omega)
        exact⟨k+1,by omega,by omega,rfl,hst.symm⟩
       ·have hst:qbp need (L.take k)=qbp need L:=by rw[yaa (by omega)]
        rw[hst];rw[hst] at hsl;simp only[go_sem,seval,ev2,hbg]
        repeat' first|assumption|(simp (disch:=first|assumption|omega|(simp;done)|(simp;omega)) only[qaa,qac,yaa,qab,qae,qaf,qah];try simp only[go_sem,seval,ev2,hbg])|(with_reducible first|refine And.intro ?_ ?_|intro _)|((try rw[qad]);omega)
        refine qdH (E:=Tryz.env 0) Tryz.tok Tryz.follows 1000 1000 [] (.fst 0 (.fst 1 (.fst 2 (.fst 3 (.fst 4 (.fst 7 (.fst 8 (.fst 9 (.fst 10 (.fst 5 (.fst 11 (.one 6 (.one 12 (.fst 13 (.one 14 (.one 15 (.fst 16 (.done)))))))))))))))))) (by kernel_rfl) ?_;simp only[go_sem,seval,ev2,hbg]
        repeat' first|assumption|(simp (disch:=first|assumption|omega|(simp;done)|(simp;omega)) only[qaa,qac,yaa,qab,qae,qaf,qah];try simp only[go_sem,seval,ev2,hbg])|(with_reducible first|refine And.intro ?_ ?_|intro _)|(refine qaj htb ?_;simp only[go_sem,seval,ev2,hbg])|(refine qaj hcl ?_;simp only[go_sem,seval,ev2,hbg])|((try rw[qad]);omega)
        ·simp
        ·exact⟨(m,qbp need L,⟨c.first+(m:Int),L,qge c (c.first+(m:Int)) L⟩::out),⟨by simp only;omega,hsl.trans hnl,by simp only[yae];omega,by rw[<-hinv,hstep]⟩,by simp only;omega,⟨rfl,by simp⟩,rfl,by simp,by simp⟩
     ·rw[if_neg hnd] at hstep;rw[Bool.not_eq_true] at hnd;simp only[go_sem,seval,ev2,hnd,hbg]
      repeat' first|assumption|(simp (disch:=first|assumption|omega|(simp;done)|(simp;omega)) only[qaa,qac,yaa,qab,qae,qaf,qah];try simp only[go_sem,seval,ev2,hnd,hbg])|(with_reducible first|refine And.intro ?_ ?_|intro _)|(refine qaj hfst ?_;simp only[go_sem,seval,ev2,hnd,hbg])|((try rw[qad]);omega)
      exact⟨(m,need,out),⟨by simp only;omega,hnl,by simp only;omega,by rw[<-hinv,hstep]⟩,by simp only;omega,⟨rfl,rfl⟩,rfl,rfl,rfl⟩
end Go.Proofs

/- Contracts: latches on which an output depends. Conditions: none; lemmas. -/
import Derived.Test.YtanhandhedpfpaaO6
import Derived.Test.YtanhandhedpfpaaC37
set_option maxRecDepth 20000
set_option linter.unusedVariables false
set_option linter.unusedSimpArgs false
namespace Go.Proofs
open Go Go.VL
theorem Try.c_isLatch (c:Circ) (h : -1000≤c.inputs∧c.inputs≤1000) (v:Int):Pure Try.prog 19 [pC c,dI v] (.bool (decide (c.inputs<v)&&decide (v<c.first))):=by
 have hf:=Try.c_firstGate c h
 refine qau (E:=Try.env 0) Try.tok rfl 1000 Try.func19 rfl rfl Try.ntmps19 (by simp) fun ok=>?_
 simp only[go_sem,seval] at ok
 simp only[go_sem,seval,Try.results19]
 repeat' first|assumption|(simp (disch:=first|assumption|omega|(simp;done)|(simp;omega)) only[qae,qah,List.take_of_length_le,qag];try simp only[go_sem,seval,Try.results19])|(with_reducible first|apply And.intro|intro _)|(refine qbM (fun _=>hf) ?_;simp only[go_sem,seval,Try.results19])|(refine qai ?_;simp only[go_sem,seval,Try.results19])|exact lexT|((try rw[qaa]);omega)
def visN (c:Circ):Nat→List Bool→Int→List Bool
 | 0,m,_=>m
 | f+1,m,v=>
  if m.getD v.toNat false=true then m
  else if c.first≤v then visN c f (visN c f (m.set v.toNat true) ((c.gates.getD (v-c.first).toNat (0,0)).1/2)) ((c.gates.getD (v-c.first).toNat (0,0)).2/2)
  else if c.inputs<v then visN c f (m.set v.toNat true) (c.next.getD (v-1-c.inputs).toNat 0/2)
  else m.set v.toNat true
def unm (m:List Bool):Nat:=m.countP fun b=>!b
theorem qhI {m:List Bool}{i:Nat}(hi:i<m.length) (h:m.getD i false=false):unm (m.set i true)+1=unm m:=by
 have e:m[i]=false:=by simpa [List.getD,hi] using h
 have hp:0<unm m:=List.countP_pos_iff.2 ⟨m[i],List.getElem_mem _,by simp[e]⟩
 unfold unm at *
 rw[List.countP_set hi]
 simp[e]
 omega
theorem qd0 (c:Circ) : ∀ (f:Nat) (m:List Bool) (v:Int),(visN c f m v).length=m.length
 | 0,_,_=>rfl
 | f+1,m,v=>by
  unfold visN
  split
  ·rfl
  ·split
   ·rw[qd0 c f,qd0 c f,List.length_set]
   ·split
    ·rw[qd0 c f,List.length_set]
    ·rw[List.length_set]
theorem qeF (c:Circ) : ∀ (f:Nat) (m:List Bool) (v:Int),unm (visN c f m v)≤unm m
 | 0,_,_=>Nat.le_refl _
 | f+1,m,v=>by
  have hs:unm (m.set v.toNat true)≤unm m:=by
   by_cases hi:v.toNat<m.length
   ·cases h:m.getD v.toNat false with
    | false=>have:=qhI hi h;omega
    | true=>
     have e:m[v.toNat]=true:=by simpa [List.getD,hi] using h
     rw[←e,List.set_getElem_self]
     exact Nat.le_refl _
   ·rw[List.set_eq_of_length_le (by omega)];exact Nat.le_refl _
  unfold visN
  split
  ·exact Nat.le_refl _
  ·split
   ·exact Nat.le_trans (qeF c f _ _) (Nat.le_trans (qeF c f _ _) hs)
   ·split
    ·exact Nat.le_trans (qeF c f _ _) hs
    ·exact hs
abbrev visH (k:Nat) (c:Circ) (g:Nat) (m:List Bool):List R:=[.row g 1 true (m.map D.bool),.box [.sl 0 g 1 0 c.vars.toNat],.box [.d (pC c)],.box [.fn k [.ptr 1 0,.ptr 2 0,.ptr 3 0]]]
theorem qbN {k:Nat}:renI (rho [0,1,2,3] 4) (.fn k [.ptr 1 0,.ptr 2 0,.ptr 3 0])=.fn k [.ptr 1 0,.ptr 2 0,.ptr 3 0]:=rfl
theorem qbO {k:Nat}:renI (rho [0,1,2,3] 5) (.fn k [.ptr 1 0,.ptr 2 0,.ptr 3 0])=.fn k [.ptr 1 0,.ptr 2 0,.ptr 3 0]:=rfl
theorem Try.c_visit (c:Circ) (hv:c.Valid) (g:Nat) : ∀ (f:Nat) (m:List Bool) (v:Int),m.length=c.vars.toNat→unm m≤f→0≤v→v<c.vars→
  ICall Try.prog 31 [.d (dI v),.ptr 1 0,.ptr 2 0,.ptr 3 0] (visH 31 c g m) (fun _ H'=>H'=visH 31 c g (visN c f m v)):=by
 intro f
 have hfb:=hv.first_bd
 have hvb:=hv.vars_bd
 have hi0:=hv.i0;have hi1:=hv.i1;have hln:=hv.ln;have hlg:=hv.lg
 have hva:c.vars=c.first+c.gates.length:=rfl
 have hfi:c.first=1+c.inputs+c.next.length:=rfl
 have hf:=Try.c_firstGate c (by omega)
 have hil:=Try.c_isLatch c (by omega)
 induction f with
 | zero=>
  intro m v hl hu h0 h1
  have hm:m.getD v.toNat false=true:=by
   cases h:m.getD v.toNat false with
   | true=>rfl
   | false=>have:=qhI (by omega) h;omega
  refine qcY (E:=Try.env 4) Try.tok rfl 1000 Try.func31 rfl rfl Try.ntmps31 (by simp) ?_
  simp only[go_sem,seval,Try.results31,hm]
  repeat' first|assumption|(simp (disch:=first|assumption|omega|(simp;done)|(simp;omega)) only[qae,qah,List.take_of_length_le,qag];try simp only[go_sem,seval,Try.results31,hm])|(with_reducible first|apply And.intro|intro _)|(refine qai ?_;simp only[go_sem,seval,Try.results31,hm])|exact lexT|((try rw[qaa]);omega)
  exact qcj rfl
 | succ f ih=>
  intro m v hl hu h0 h1
  have ht0:Try.tyT 0=none:=rfl
  refine qcY (E:=Try.env 4) Try.tok rfl 1000 Try.func31 rfl rfl Try.ntmps31 (by simp) ?_
  cases hm:m.getD v.toNat false with
  | true=>
   simp only[go_sem,seval,Try.results31,hm]
   repeat' first|assumption|(simp (disch:=first|assumption|omega|(simp;done)|(simp;omega)) only[qae,qah,List.take_of_length_le,qag];try simp only[go_sem,seval,Try.results31,hm])|(with_reducible first|apply And.intro|intro _)|(refine qai ?_;simp only[go_sem,seval,Try.results31,hm])|exact lexT|((try rw[qaa]);omega)
   exact qcj (by rw[visN,if_pos hm])
  | false=>
   have hus:=qhI (by omega) hm
   have hvs:visN c (f+1) m v=if c.first≤v then visN c f (visN c f (m.set v.toNat true) ((c.gates.getD (v-c.first).toNat (0,0)).1/2)) ((c.gates.getD (v-c.first).toNat (0,0)).2/2)
     else if c.inputs<v then visN c f (m.set v.toNat true) (c.next.getD (v-1-c.inputs).toNat 0/2)
     else m.set v.toNat true:=by rw[visN,if_neg (by rw[hm];simp)]
   have hml:(m.set v.toNat true).length=c.vars.toNat:=by rw[List.length_set];exact hl
   generalize hM9:m.set v.toNat true=M at *
   by_cases hga:c.first≤v
   ·rw[if_pos hga] at hvs
    simp only[go_sem,seval,Try.results31,hm,hM9,ht0]
    repeat' first|assumption|(simp (disch:=first|assumption|omega|(simp;done)|(simp;omega)) only[qae,qah,List.take_of_length_le,qag];try simp only[go_sem,seval,Try.results31,hm,hM9,ht0])|(with_reducible first|apply And.intro|intro _)|(refine qad hf ?_;simp only[go_sem,seval,Try.results31,hm,hM9,ht0])|(refine qad (hil v) ?_;simp only[go_sem,seval,Try.results31,hm,hM9,ht0])|(refine qai ?_;simp only[go_sem,seval,Try.results31,hm,hM9,ht0])|exact lexT|((try rw[qaa]);omega)
    have hgt:=hv.g (v-c.first).toNat (by omega)
    unfold qbc at hgt
    generalize hq9:c.gates.getD (v-c.first).toNat (0,0)=q at *
    obtain⟨qa,qb⟩:=q
    simp only at hgt hvs
    have i1:=ih M (qa/2) hml (by omega) (by omega) (by omega)
    have i2:=ih (visN c f M (qa/2)) (qb/2) (by rw[qd0];exact hml) (by have:=qeF c f M (qa/2);omega) (by omega) (by omega)
    refine qax (E:=Try.env 4) Try.tok Try.follows 1000 1000 [11] (fsts [4,0,1,2,3,5] (.two 6 (fsts [7,8] (.two 9 (.one 10 (.one 11 .done)) 10 (.one 9 (.one 11 .done)))) 10 (.one 6 (fsts [7,8] (.one 9 (.one 11 .done)))))) (by kernel_rfl) ?_
    simp only[go_sem,seval,Try.results31,hm,hM9,ht0,hq9]
    repeat' first|assumption|(simp (disch:=first|assumption|omega|(simp;done)|(simp;omega)) only[qae,qah,List.take_of_length_le,qag];try simp only[go_sem,seval,Try.results31,hm,hM9,ht0,hq9])|(with_reducible first|apply And.intro|intro _)|(refine qad hf ?_;simp only[go_sem,seval,Try.results31,hm,hM9,ht0,hq9])|(refine qad (hil v) ?_;simp only[go_sem,seval,Try.results31,hm,hM9,ht0,hq9])|(refine qai ?_;simp only[go_sem,seval,Try.results31,hm,hM9,ht0,hq9])|exact lexT|((try rw[qaa]);omega)
    all_goals
     refine qbk i1 [0,1,2,3] (by simp only[visH];simp only[go_sem,seval];rfl) ?_
     rintro r0 H1 rfl
     simp only[visH]
     simp only[go_sem,seval,Try.results31,ht0,qbN,qbO]
     repeat' first|assumption|(simp (disch:=first|assumption|omega|(simp;done)|(simp;omega)) only[qae,qah,List.take_of_length_le,qag];try simp only[go_sem,seval,Try.results31,ht0,qbN,qbO])|(with_reducible first|apply And.intro|intro _)|(refine qai ?_;simp only[go_sem,seval,Try.results31,ht0,qbN,qbO])|exact lexT|((try rw[qaa]);omega)
     refine qbk i2 [0,1,2,3] (by simp only[visH];simp only[go_sem,seval];rfl) ?_
     rintro r0 H1 rfl
     simp only[visH]
     simp only[go_sem,seval,Try.results31,ht0,qbN,qbO]
     repeat' first|assumption|(simp (disch:=first|assumption|omega|(simp;done)|(simp;omega)) only[qae,qah,List.take_of_length_le,qag];try simp only[go_sem,seval,Try.results31,ht0,qbN,qbO])|(with_reducible first|apply And.intro|intro _)|(refine qai ?_;simp only[go_sem,seval,Try.results31,ht0,qbN,qbO])|exact lexT|((try rw[qaa]);omega)
    all_goals
     refine ql5 (r0:=.tup []) (H1:=visH 31 c g (visN c (f+1) m v)) ?_ rfl
     simp only[visH,hvs]
     simp only[go_sem,seval]
   ·rw[if_neg hga] at hvs
    by_cases hla:c.inputs<v
    ·rw[if_pos hla] at hvs
     simp only[go_sem,seval,Try.results31,hm,hM9,ht0]
     repeat' first|assumption|(simp (disch:=first|assumption|omega|(simp;done)|(simp;omega)) only[qae,qah,List.take_of_length_le,qag];try simp only[go_sem,seval,Try.results31,hm,hM9,ht0])|(with_reducible first|apply And.intro|intro _)|(refine qad hf ?_;simp only[go_sem,seval,Try.results31,hm,hM9,ht0])|(refine qad (hil v) ?_;simp only[go_sem,seval,Try.results31,hm,hM9,ht0])|(refine qai ?_;simp only[go_sem,seval,Try.results31,hm,hM9,ht0])|exact lexT|((try rw[qaa]);omega)
     have hgt:=hv.n _ (qat (l:=c.next) (i:=(v-1-c.inputs).toNat) (z:=0) (by omega))
     unfold qbc at hgt
     generalize hq9:c.next.getD (v-1-c.inputs).toNat 0=q at *
     have i1:=ih M (q/2) hml (by omega) (by omega) (by omega)
     refine qax (E:=Try.env 4) Try.tok Try.follows 1000 1000 [15] (fsts [5,6,0,1,2,3,4,7,8,9,10,11,12,13,14] (.one 15 .done)) (by kernel_rfl) ?_
     simp only[go_sem,seval,Try.results31,hm,hM9,ht0,hq9]
     repeat' first|assumption|(simp (disch:=first|assumption|omega|(simp;done)|(simp;omega)) only[qae,qah,List.take_of_length_le,qag];try simp only[go_sem,seval,Try.results31,hm,hM9,ht0,hq9])|(with_reducible first|apply And.intro|intro _)|(refine qad hf ?_;simp only[go_sem,seval,Try.results31,hm,hM9,ht0,hq9])|(refine qad (hil v) ?_;simp only[go_sem,seval,Try.results31,hm,hM9,ht0,hq9])|(refine qai ?_;simp only[go_sem,seval,Try.results31,hm,hM9,ht0,hq9])|exact lexT|((try rw[qaa]);omega)
     refine qbk i1 [0,1,2,3] (by simp only[visH];simp only[go_sem,seval];rfl) ?_
     rintro r0 H1 rfl
     simp only[visH]
     simp only[go_sem,seval,Try.results31,ht0,qbN,qbO]
     repeat' first|assumption|(simp (disch:=first|assumption|omega|(simp;done)|(simp;omega)) only[qae,qah,List.take_of_length_le,qag];try simp only[go_sem,seval,Try.results31,ht0,qbN,qbO])|(with_reducible first|apply And.intro|intro _)|(refine qai ?_;simp only[go_sem,seval,Try.results31,ht0,qbN,qbO])|exact lexT|((try rw[qaa]);omega)
     exact qcj (by rw[hvs])
    ·rw[if_neg hla] at hvs
     simp only[go_sem,seval,Try.results31,hm,hM9,ht0]
     repeat' first|assumption|(simp (disch:=first|assumption|omega|(simp;done)|(simp;omega)) only[qae,qah,List.take_of_length_le,qag];try simp only[go_sem,seval,Try.results31,hm,hM9,ht0])|(with_reducible first|apply And.intro|intro _)|(refine qad hf ?_;simp only[go_sem,seval,Try.results31,hm,hM9,ht0])|(refine qad (hil v) ?_;simp only[go_sem,seval,Try.results31,hm,hM9,ht0])|(refine qai ?_;simp only[go_sem,seval,Try.results31,hm,hM9,ht0])|exact lexT|((try rw[qaa]);omega)
     exact qcj (by rw[hvs];rfl)
def qfA (c:Circ) (j:Nat):List Bool:=(c.outs.take j).foldl (fun m l=>visN c c.vars.toNat m (l/2)) (List.replicate c.vars.toNat false)
def qft (c:Circ):List Bool:=qfA c c.outs.length
theorem qfZ (c:Circ) {j:Nat}(h:j<c.outs.length):qfA c (j+1)=visN c c.vars.toNat (qfA c j) (c.outs.getD j 0/2):=by
 rw[qfA,List.take_succ_eq_append_getElem h,List.foldl_append]
 simp[qfA,List.getD,h]
theorem qfu (c:Circ) : ∀ j,j≤c.outs.length→(qfA c j).length=c.vars.toNat
 | 0,_=>by simp[qfA]
 | j+1,h=>by rw[qfZ c (by omega),qd0];exact qfu c j (by omega)
theorem qkv (c:Circ):(qft c).length=c.vars.toNat:=qfu c _ (Nat.le_refl _)
theorem Try.c_neededLatches (c:Circ) (hv:c.Valid):Pure Try.prog 17 [pC c] (dBs (qft c)):=by
 have hfb:=hv.first_bd
 have hvb:=hv.vars_bd
 have hi0:=hv.i0;have hi1:=hv.i1;have hln:=hv.ln;have hlg:=hv.lg;have hlo:=hv.lo
 have ht0:Try.tyT 0=none:=rfl
 have hvr:=Try.c_vars c (by omega)
 refine qau (E:=Try.env 0) Try.tok rfl 1000 Try.func17 rfl rfl Try.ntmps17 (by simp) fun ok=>?_
 simp only[go_sem,seval] at ok
 simp only[go_sem,seval,Try.results17,ht0]
 repeat' first|assumption|(simp (disch:=first|assumption|omega|(simp;done)|(simp;omega)) only[qae,qah,List.take_of_length_le,qag];try simp only[go_sem,seval,Try.results17,ht0])|(with_reducible first|apply And.intro|intro _)|(refine qad hvr ?_;simp only[go_sem,seval,Try.results17,ht0])|(refine qai ?_;simp only[go_sem,seval,Try.results17,ht0])|exact lexT|((try rw[qaa]);omega)
 refine qcz (E:=Try.env 0) Try.tok (σ:=Nat) (fun j=>[(4,.ptr 3 0),(3,.ptr 2 0),(14,.d (dIs c.outs)),(15,.d (dI c.outs.length)),(16,.d (dI j))])
  (fun j=>[.box [.d (pC c)],.row 0 1 true ((qfA c j).map D.bool),.box [.sl 1 0 1 0 c.vars.toNat],.box [.fn 31 [.ptr 2 0,.ptr 0 0,.ptr 3 0]]])
  (fun j=>j≤c.outs.length) (fun j=>c.outs.length-j) [] [] 1000 1000 ?_ ?_
 ·simp only[go_sem,seval]
  refine⟨0,by omega,?_⟩
  (repeat' with_reducible apply And.intro) <;> first|rfl|trivial|omega
 ·intro j hj
  have hnl:=qfu c j hj
  by_cases hlt:j<c.outs.length
  ·have hx:=hv.o _ (qat (l:=c.outs) (z:=0) hlt)
   unfold qbc at hx
   have hns:=qfZ c hlt
   have hcl:unm (qfA c j)≤c.vars.toNat:=by rw[←hnl];exact List.countP_le_length
   have hvi:=Try.c_visit c hv 0 c.vars.toNat (qfA c j) (c.outs.getD j 0/2) hnl hcl (by omega) (by omega)
   simp only[go_sem,seval,Try.results17,ht0]
   repeat' first|assumption|(simp (disch:=first|assumption|omega|(simp;done)|(simp;omega)) only[qae,qah,List.take_of_length_le,qag];try simp only[go_sem,seval,Try.results17,ht0])|(with_reducible first|apply And.intro|intro _)|(refine qai ?_;simp only[go_sem,seval,Try.results17,ht0])|exact lexT|((try rw[qaa]);omega)
   refine qbk hvi [1,2,0,3] (by simp only[visH];simp only[go_sem,seval];rfl) ?_
   rintro r0 H1 rfl
   simp only[visH]
   simp only[go_sem,seval,Try.results17,ht0]
   repeat' first|assumption|(simp (disch:=first|assumption|omega|(simp;done)|(simp;omega)) only[qae,qah,List.take_of_length_le,qag];try simp only[go_sem,seval,Try.results17,ht0])|(with_reducible first|apply And.intro|intro _)|(refine qai ?_;simp only[go_sem,seval,Try.results17,ht0])|exact lexT|((try rw[qaa]);omega)
   refine⟨j+1,by omega,by omega,?_⟩
   rw[hns]
   (repeat' with_reducible apply And.intro) <;> first|rfl|trivial|omega
  ·obtain rfl:j=c.outs.length:=by omega
   simp only[go_sem,seval,Try.results17,ht0]
   repeat' first|assumption|(simp (disch:=first|assumption|omega|(simp;done)|(simp;omega)) only[qae,qah,List.take_of_length_le,qag];try simp only[go_sem,seval,Try.results17,ht0])|(with_reducible first|apply And.intro|intro _)|(refine qai ?_;simp only[go_sem,seval,Try.results17,ht0])|exact lexT|((try rw[qaa]);omega)
   rfl
end Go.Proofs

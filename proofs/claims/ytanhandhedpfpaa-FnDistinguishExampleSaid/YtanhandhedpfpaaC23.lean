/- Contracts, plain definitions and lemmas. Conditions: none; lemmas. -/
import Derived.Test.YtanhandhedpfpaaC8
import Derived.Test.YtanhandhedpfpaaVM8
import Derived.Test.YtanhandhedpfpaaTy
import Derived.Test.YtanhandhedpfpaaProg
import Derived.Test.YtanhandhedpfpaaC7
set_option maxRecDepth 20000
set_option linter.unusedVariables false
set_option linter.unusedSimpArgs false
namespace Go.Proofs
open Go Go.VL
structure AdS where
 b:Bld
 carry:Int
 outs:List Int
def bN1 (b:Bld):List R:=[.row b.gates.length 1 true (b.levels.map (D.int .i64)),.map (qa7 b.first 0 b.gates),.box [.d (dI b.first),.sl 4 b.gates.length 2 0 b.gates.length,.sl 1 b.gates.length 1 0 (b.first+b.gates.length),.map 2],.row b.gates.length 2 true (b.gates.map dP)]
structure AdOk (n i:Nat) (s:AdS):Prop where
 ok:s.b.Ok
 fst:s.b.first=1+2*n
 len:s.b.gates.length≤9*i
 c:0≤s.carry∧s.carry<2*((s.b.first+s.b.gates.length:Nat):Int)
 o:s.outs.length=i
def Bld.lit (b:Bld) (x:Int):Prop:=0≤x∧x<2*((b.first+b.gates.length:Nat):Int)
def cFst (c:Circ):Nat:=c.inputs.toNat+c.next.length+1
def andR (c:Circ) (a b:Int):Circ×Int:=(⟨c.inputs,c.next,(andG (cFst c) c.gates a b).1,c.outs⟩,(andG (cFst c) c.gates a b).2)
structure Mk (c:Circ):Prop where
 i:0≤c.inputs∧c.inputs≤1000
 n:c.next.length≤1000
end Go.Proofs

set_option maxRecDepth 20000
set_option linter.unusedVariables false
set_option linter.unusedSimpArgs false
namespace Go.Proofs
open Go Go.VL
def tern (x:Int):Prop:=0≤x∧x≤2
instance (x:Int):Decidable (tern x):=by unfold tern;infer_instance
def ternL (l:List Int):Prop:=∀ x∈l,tern x
noncomputable instance (l:List Int):Decidable (ternL l):=Classical.propDecidable _
theorem ternL.get {l:List Int}(h:ternL l) (i:Nat):tern (l.getD i 0):=by
 by_cases hi:i<l.length
 ·exact h _ (qat hi)
 ·rw[List.getD_eq_getElem?_getD,List.getElem?_eq_none (by omega)]
  exact⟨by simp,by simp⟩
def evOk (c:Circ) (st ins:List Int):Prop:=c.Valid∧st.length=c.next.length∧(ins.length:Int)=c.inputs∧ternL st∧ternL ins
noncomputable instance (c:Circ) (st ins:List Int):Decidable (evOk c st ins):=Classical.propDecidable _
end Go.Proofs

set_option maxRecDepth 20000
set_option linter.unusedVariables false
set_option linter.unusedSimpArgs false
namespace Go.Proofs
open Go Go.VL
@[go_sem] theorem two_get {k:IntKind}{a b z:Int}{m:Nat}:[D.int k a,D.int k b].getD m (D.int k z)=D.int k ([a,b].getD m z):=by
 rcases m with _|_|m <;> rfl
end Go.Proofs

set_option maxRecDepth 20000
set_option linter.unusedVariables false
set_option linter.unusedSimpArgs false
namespace Go.Proofs
open Go Go.VL
def qkd (c:Circ):Prop:=c.Valid∧0<c.next.length∧c.inputs≤2∧c.outs.length<3∧c.gates.length+3*c.next.length≤14
noncomputable instance (c:Circ):Decidable (qkd c):=Classical.propDecidable _
def cmap (f:Int→Int) (c:Circ):Circ:=⟨c.inputs,c.next.map f,c.gates.map (fun p=>(f p.1,f p.2)),c.outs.map f⟩
theorem qbu {α β : Type}(f : α→β) {l:List α}{i:Nat}(z : α) (h:i<l.length):(l.take (i+1)).map f=(l.take i).map f ++ [f (l.getD i z)]:=by
 rw[List.take_succ_eq_append_getElem h,List.map_append]
 simp only[List.map_cons,List.map_nil,List.getD,List.getElem?_eq_getElem h,Option.getD_some]
@[go_sem] theorem views_ds {H:List R}{ds:List D}:qcT H (ds.map .d)=some (True,ds):=by
 induction ds with
 | nil=>rfl
 | cons x r ih=>
  rw[List.map_cons,qiC,ih]
  simp[go_sem]
theorem Try.c_replaced (c:Circ) (g:Nat) (ds:List D) (h:Int→Int) (hg:(Try.env 0).pf g=.own) (hl:c.next.length≤1000000∧c.gates.length≤1000000∧c.outs.length≤1000000)
  (hn : ∀ l∈c.next,Pure Try.prog g (dI l::ds) (dI (h l))) (ho : ∀ l∈c.outs,Pure Try.prog g (dI l::ds) (dI (h l)))
  (hga : ∀ p∈c.gates,Pure Try.prog g (dI p.1::ds) (dI (h p.1))∧Pure Try.prog g (dI p.2::ds) (dI (h p.2))) :
  Pure Try.prog 37 [pC c,.fn g ds] (dC (cmap h c)):=by
 refine qau (E:=Try.env 0) Try.tok rfl 1000 Try.func37 rfl rfl Try.ntmps37 (by simp) fun ok=>?_
 simp only[go_sem,seval] at ok
 simp only[go_sem,seval,Try.results37]
 refine qdd (E:=Try.env 0) Try.tok (σ:=Nat) (fun i=>[(0,.d (pC c)),(1,.d (.fn g ds)),(4,.ptr 0 0),(5,.ptr 1 0),(20,.d (dIs c.next)),(21,.d (dI c.next.length)),(22,.d (dI i))])
  (fun i=>[.box [.d (dI 0),.d .nil,.d .nil,.d .nil],.box [.d (dI c.inputs),.sl 2 i 1 0 i,.d .nil,.d .nil],.row i 1 true (((c.next.take i).map h).map (D.int .i64))])
  (fun i=>i≤c.next.length) (fun i=>c.next.length-i) [(1,1,1,true)] [] 1000 1000 ?_ ?_ ?_ ?_
 ·simp only[go_sem,seval]
 ·simp only[go_sem,seval]
 ·simp only[go_sem,seval]
  exact⟨0,by omega,rfl,by simp⟩
 ·intro i hi
  by_cases hlt:i<c.next.length
  ·have hx:=hn _ (qat (z:=0) hlt)
   have hli:(c.next.take i).length=i:=by simp;omega
   simp only[go_sem,seval,Try.results37]
   repeat' first|assumption|(simp (disch:=first|assumption|omega|(simp;done)|(simp;omega)) only[List.take_of_length_le];try simp only[go_sem,seval,Try.results37])|(with_reducible first|apply And.intro|intro _)|(refine qai ?_;simp only[go_sem,seval,Try.results37])|exact lexT|((try rw[qaa]);omega)
   refine qax (E:=Try.env 0) Try.tok Try.follows 1000 1000 [6,8] (fsts [0,2,3,1] (.one 4 (.one 5 (.one 6 (.fst 7 (.one 8 .done)))))) (by kernel_rfl) ?_
   simp only[go_sem,seval,Try.results37,hg]
   refine qad hx ?_
   simp only[go_sem,seval,Try.results37,hg]
   repeat' first|assumption|(simp (disch:=first|assumption|omega|(simp;done)|(simp;omega)) only[List.take_of_length_le];try simp only[go_sem,seval,Try.results37])|(with_reducible first|apply And.intro|intro _)|(refine qai ?_;simp only[go_sem,seval,Try.results37])|exact lexT|((try rw[qaa]);omega)
   exact⟨i+1,by omega,by omega,rfl,rfl,rfl,(qbu h 0 hlt).symm⟩
  ·simp only[go_sem,seval,Try.results37]
   repeat' first|assumption|(simp (disch:=first|assumption|omega|(simp;done)|(simp;omega)) only[List.take_of_length_le];try simp only[go_sem,seval,Try.results37])|(with_reducible first|apply And.intro|intro _)|(refine qai ?_;simp only[go_sem,seval,Try.results37])|exact lexT|((try rw[qaa]);omega)
   refine qdd (E:=Try.env 0) Try.tok (σ:=Nat) (fun j=>[(0,.d (pC c)),(1,.d (.fn g ds)),(4,.ptr 0 0),(5,.ptr 1 0),(38,.d (dPs c.gates)),(39,.d (dI c.gates.length)),(40,.d (dI j))])
    (fun j=>[.box [.d (dI 0),.d .nil,.d .nil,.d .nil],.box [.d (dI c.inputs),.sl 2 i 1 0 i,.sl 3 j 2 0 j,.d .nil],.row i 1 true ((c.next.map h).map (D.int .i64)),.row j 2 true (((c.gates.take j).map (fun p=>(h p.1,h p.2))).map dP)])
    (fun j=>j≤c.gates.length) (fun j=>c.gates.length-j) [(1,2,2,true)] [] 1000 1000 ?_ ?_ ?_ ?_
   ·simp only[go_sem,seval]
   ·simp only[go_sem,seval]
   ·simp only[go_sem,seval]
    exact⟨0,by omega,rfl,by simp⟩
   ·intro j hj
    by_cases hlt:j<c.gates.length
    ·obtain⟨hx1,hx2⟩:=hga _ (qat (z:=(0,0)) hlt)
     have hli:(c.gates.take j).length=j:=by simp;omega
     simp only[go_sem,seval,Try.results37]
     repeat' first|assumption|(simp (disch:=first|assumption|omega|(simp;done)|(simp;omega)) only[List.take_of_length_le];try simp only[go_sem,seval,Try.results37])|(with_reducible first|apply And.intro|intro _)|(refine qai ?_;simp only[go_sem,seval,Try.results37])|exact lexT|((try rw[qaa]);omega)
     refine qax (E:=Try.env 0) Try.tok Try.follows 1000 1000 [12,14] (fsts [0,2,3,6,7,1,4,8] (.one 5 (.one 9 (.fst 10 (.one 11 (.one 12 (.fst 13 (.one 14 .done)))))))) (by kernel_rfl) ?_
     simp only[go_sem,seval,Try.results37,hg]
     refine qad hx1 ?_
     simp only[go_sem,seval,Try.results37,hg]
     refine qad hx2 ?_
     simp only[go_sem,seval,Try.results37,hg]
     repeat' first|assumption|(simp (disch:=first|assumption|omega|(simp;done)|(simp;omega)) only[List.take_of_length_le];try simp only[go_sem,seval,Try.results37])|(with_reducible first|apply And.intro|intro _)|(refine qai ?_;simp only[go_sem,seval,Try.results37])|exact lexT|((try rw[qaa]);omega)
     exact⟨j+1,by omega,by omega,rfl,rfl,rfl,(qbu (fun p:Int×Int=>(h p.1,h p.2)) (0,0) hlt).symm⟩
    ·simp only[go_sem,seval,Try.results37]
     repeat' first|assumption|(simp (disch:=first|assumption|omega|(simp;done)|(simp;omega)) only[List.take_of_length_le];try simp only[go_sem,seval,Try.results37])|(with_reducible first|apply And.intro|intro _)|(refine qai ?_;simp only[go_sem,seval,Try.results37])|exact lexT|((try rw[qaa]);omega)
     refine qdd (E:=Try.env 0) Try.tok (σ:=Nat) (fun m=>[(0,.d (pC c)),(1,.d (.fn g ds)),(4,.ptr 0 0),(5,.ptr 1 0),(62,.d (dIs c.outs)),(63,.d (dI c.outs.length)),(64,.d (dI m))])
      (fun m=>[.box [.d (dI 0),.d .nil,.d .nil,.d .nil],.box [.d (dI c.inputs),.sl 2 i 1 0 i,.sl 3 j 2 0 j,.sl 4 m 1 0 m],.row i 1 true ((c.next.map h).map (D.int .i64)),.row j 2 true ((c.gates.map (fun p=>(h p.1,h p.2))).map dP),.row m 1 true (((c.outs.take m).map h).map (D.int .i64))])
      (fun m=>m≤c.outs.length) (fun m=>c.outs.length-m) [(1,3,1,true)] [] 1000 1000 ?_ ?_ ?_ ?_
     ·simp only[go_sem,seval]
     ·simp only[go_sem,seval]
     ·simp only[go_sem,seval]
      exact⟨0,by omega,rfl,by simp⟩
     ·intro m hm
      by_cases hlt:m<c.outs.length
      ·have hx:=ho _ (qat (z:=0) hlt)
       have hli:(c.outs.take m).length=m:=by simp;omega
       simp only[go_sem,seval,Try.results37]
       repeat' first|assumption|(simp (disch:=first|assumption|omega|(simp;done)|(simp;omega)) only[List.take_of_length_le];try simp only[go_sem,seval,Try.results37])|(with_reducible first|apply And.intro|intro _)|(refine qai ?_;simp only[go_sem,seval,Try.results37])|exact lexT|((try rw[qaa]);omega)
       refine qax (E:=Try.env 0) Try.tok Try.follows 1000 1000 [6,8] (fsts [0,2,3,1] (.one 4 (.one 5 (.one 6 (.fst 7 (.one 8 .done)))))) (by kernel_rfl) ?_
       simp only[go_sem,seval,Try.results37,hg]
       refine qad hx ?_
       simp only[go_sem,seval,Try.results37,hg]
       repeat' first|assumption|(simp (disch:=first|assumption|omega|(simp;done)|(simp;omega)) only[List.take_of_length_le];try simp only[go_sem,seval,Try.results37])|(with_reducible first|apply And.intro|intro _)|(refine qai ?_;simp only[go_sem,seval,Try.results37])|exact lexT|((try rw[qaa]);omega)
       exact⟨m+1,by omega,by omega,rfl,rfl,rfl,(qbu h 0 hlt).symm⟩
      ·simp only[go_sem,seval,Try.results37]
       repeat' first|assumption|(simp (disch:=first|assumption|omega|(simp;done)|(simp;omega)) only[List.take_of_length_le];try simp only[go_sem,seval,Try.results37])|(with_reducible first|apply And.intro|intro _)|(refine qai ?_;simp only[go_sem,seval,Try.results37])|exact lexT|((try rw[qaa]);omega)
       all_goals rfl
end Go.Proofs

set_option maxRecDepth 20000
set_option linter.unusedVariables false
set_option linter.unusedSimpArgs false
namespace Go.Proofs
open Go Go.VL
def qiO (c:Circ) (st:List Bool):Prop:=qkd c∧st.length=c.next.length
noncomputable instance (c:Circ) (st:List Bool):Decidable (qiO c st):=Classical.propDecidable _
end Go.Proofs

set_option maxRecDepth 20000
set_option linter.unusedVariables false
set_option linter.unusedSimpArgs false
namespace Go.Proofs
open Go Go.VL
def numN (l:List Bool):Nat→Int
 | 0=>0
 | i+1=>numN l i+if l.getD i false then 2 ^ i else 0
theorem qhG (l:List Bool) : ∀ i,0≤numN l i∧numN l i<2 ^ i
 | 0=>by simp[numN]
 | i+1=>by
  have:=qhG l i
  have h2:(2:Int) ^ (i+1)=2*2 ^ i:=by rw[Int.pow_succ];omega
  simp only[numN]
  split <;> omega
end Go.Proofs

set_option maxRecDepth 20000
set_option linter.unusedVariables false
set_option linter.unusedSimpArgs false
namespace Go.Proofs
open Go Go.VL
structure CnS where
 b:Bld
 next:List Int
 outs:List Int
 en:Int
def qke (i:Nat) (s:CnS):CnS:=
 let p:=s.b.xor (2*(2+i)) s.en
 let q:=p.1.and (2*(2+i)) s.en
 ⟨q.1,s.next ++ [p.2],s.outs ++ [2*(2+(i:Int))],q.2⟩
def cnSt (n:Nat):Nat→CnS
 | 0=>⟨Bld.new (1+1+n),[],[],2⟩
 | i+1=>qke i (cnSt n i)
def cnC (n:Int):Circ:=if n<1∨3<n then Circ.zero else⟨1,(cnSt n.toNat n.toNat).next,(cnSt n.toNat n.toNat).b.gates,(cnSt n.toNat n.toNat).outs⟩
structure CnOk (n i:Nat) (s:CnS):Prop where
 ok:s.b.Ok
 fst:s.b.first=2+n
 len:s.b.gates.length≤4*i
 e:s.b.lit s.en
 nx:s.next.length=i
 o:s.outs.length=i
theorem qic {n i:Nat}{s:CnS}(h:CnOk n i s) (hi:i<n) (hn:n≤3) : ∃ b1 z1 b2 z2,s.b.xor (2*(2+(i:Int))) s.en=(b1,z1)∧b1.and (2*(2+(i:Int))) s.en=(b2,z2)∧
  qke i s=⟨b2,s.next ++ [z1],s.outs ++ [2*(2+(i:Int))],z2⟩∧
  (b1.Ok∧b1.first=s.b.first∧s.b.gates.length≤b1.gates.length∧b1.gates.length≤s.b.gates.length+3)∧
  (b2.Ok∧b2.first=s.b.first∧b1.gates.length≤b2.gates.length∧b2.gates.length≤s.b.gates.length+4∧b2.lit z2):=by
 obtain⟨ok,fst,len,c,nx,o⟩:=h
 unfold Bld.lit at c
 have h1:=Bld.xor_ok ok (x:=2*(2+i)) (y:=s.en) (by omega) (by omega) c
 unfold qke
 simp only
 generalize s.b.xor (2*(2+(i:Int))) s.en=p at *
 obtain⟨b1,z1⟩:=p
 simp only at h1 ⊢
 have h2:=Bld.and_ok h1.1 (2*(2+(i:Int))) s.en (by omega)
 have r2:=Bld.and_res h1.1 (x:=2*(2+(i:Int))) (y:=s.en) (by omega) (by omega)
 generalize e2:b1.and (2*(2+(i:Int))) s.en=p at *
 obtain⟨b2,z2⟩:=p
 simp only at h2 r2 ⊢
 exact⟨b1,z1,b2,z2,rfl,e2,rfl,⟨h1.1,by omega,by omega,by omega⟩,⟨h2.1,by omega,by omega,by omega,r2⟩⟩
theorem qkf {n:Nat}(hn:1≤n∧n≤3) : ∀ i,i≤n→CnOk n i (cnSt n i)
 | 0,_=>⟨Bld.new_ok (by omega),by simp[cnSt,Bld.new],by simp[cnSt,Bld.new],by simp[cnSt,Bld.new,Bld.lit];omega,rfl,rfl⟩
 | i+1,hi=>by
  have h:=qkf hn i (by omega)
  obtain⟨b1,z1,b2,z2,e1,e2,e3,k1,k2⟩:=qic h (by omega) (by omega)
  obtain⟨ok,fst,len,c,nx,o⟩:=h
  rw[cnSt,e3]
  exact⟨k2.1,by simp only;omega,by simp only;omega,k2.2.2.2.2,by simp[nx],by simp[o]⟩
theorem Try.c_Counter (n:Int):Pure Try.prog 4 [dI n] (dC (cnC n)):=by
 refine qau (E:=Try.env 0) Try.tok rfl 1000 Try.func4 rfl rfl Try.ntmps4 (by simp) fun ok=>?_
 simp only[go_sem,seval] at ok
 by_cases h:n<1∨3<n
 ·have e:cnC n=Circ.zero:=by rw[cnC,if_pos h]
  rw[e]
  simp only[go_sem,seval,Try.results4]
  repeat' first|assumption|(simp (disch:=first|assumption|omega|(simp;done)|(simp;omega)) only[];try simp only[go_sem,seval,Try.results4])|(with_reducible first|apply And.intro|intro _)|(refine qai ?_;simp only[go_sem,seval,Try.results4])|exact lexT|((try rw[qaa]);omega)
  all_goals simp[Circ.zero]
 have e:cnC n=⟨1,(cnSt n.toNat n.toNat).next,(cnSt n.toNat n.toNat).b.gates,(cnSt n.toNat n.toNat).outs⟩:=by rw[cnC,if_neg h]
 rw[e]
 simp only[go_sem,seval,Try.results4]
 repeat' first|assumption|(simp (disch:=first|assumption|omega|(simp;done)|(simp;omega)) only[];try simp only[go_sem,seval,Try.results4])|(with_reducible first|apply And.intro|intro _)|(refine qai ?_;simp only[go_sem,seval,Try.results4])|exact lexT|((try rw[qaa]);omega)
 have c0:=Try.c_newBuilder 1 n.toNat (by omega)
 have e0:((n.toNat:Nat):Int)=n:=by omega
 rw[e0] at c0
 refine qbr c0 [] (by simp only[go_sem,seval]) ?_
 simp only[go_sem,seval,Try.results4,bN]
 repeat' first|assumption|(simp (disch:=first|assumption|omega|(simp;done)|(simp;omega)) only[];try simp only[go_sem,seval,Try.results4])|(with_reducible first|apply And.intro|intro _)|(refine qai ?_;simp only[go_sem,seval,Try.results4])|exact lexT|((try rw[qaa]);omega)
 refine qdd (E:=Try.env 0) Try.tok (σ:=Nat) (fun i=>[(0,.d (dI n)),(2,.ptr 0 0),(3,.ptr 3 0),(4,.d (dI (cnSt n.toNat i).en)),(5,.ptr 5 0),(18,.d (dI n)),(19,.d (dI i))])
  (fun i=>.box [.d (dI 0),.d .nil,.d .nil,.d .nil]::(bN1 (cnSt n.toNat i).b ++ [.box [.d (dI 1),.sl 6 i 1 0 i,.d .nil,.sl 7 i 1 0 i],.row i 1 true ((cnSt n.toNat i).next.map (D.int .i64)),.row i 1 true ((cnSt n.toNat i).outs.map (D.int .i64))])) (fun i=>i≤n.toNat) (fun i=>n.toNat-i) [(5,1,1,true),(5,3,1,true)] [] 1000 1000 ?_ ?_ ?_ ?_
 ·simp only[go_sem,seval]
 ·simp only[go_sem,seval]
 ·simp only[go_sem,seval,Try.results4,bN1]
  refine⟨0,by omega,?_⟩
  simp only[go_sem,seval,Try.results4,bN1,cnSt,Nat.add_zero]
 ·intro i hi
  have ho:=qkf (n:=n.toNat) (by omega) i hi
  have hnl:=ho.nx
  have hol:=ho.o
  by_cases hlt:i<n.toNat
  ·obtain⟨b1,z1,b2,z2,e1,e2,e3,k1,k2⟩:=qic ho (by omega) (by omega)
   have hstep:cnSt n.toNat (i+1)=⟨b2,(cnSt n.toNat i).next ++ [z1],(cnSt n.toNat i).outs ++ [2*(2+(i:Int))],z2⟩:=by rw[cnSt,e3]
   obtain⟨ok1,fst1,len1,cc,_,_⟩:=ho
   have g1:=Try.c_xor (cnSt n.toNat i).b ok1 (by omega) (2*(2+(i:Int))) (cnSt n.toNat i).en (by omega) cc
   rw[e1] at g1
   unfold Bld.lit at cc
   have g2:=Try.c_and b1 k1.1 (2*(2+(i:Int))) (cnSt n.toNat i).en (by omega) (by omega)
   rw[e2] at g2
   simp only[go_sem,seval,Try.results4,bN1]
   repeat' first|assumption|(simp (disch:=first|assumption|omega|(simp;done)|(simp;omega)) only[];try simp only[go_sem,seval,Try.results4])|(with_reducible first|apply And.intro|intro _)|(refine qai ?_;simp only[go_sem,seval,Try.results4])|exact lexT|((try rw[qaa]);omega)
   refine qax (E:=Try.env 0) Try.tok Try.follows 1000 1000 [5,7,9] (fsts [0,2,3,4] (.two 1 (.one 5 (.one 6 (.one 7 (.fst 8 (.one 9 .done))))) 5 (.two 1 (.one 6 (.one 7 (.fst 8 (.one 9 .done)))) 6 (.one 1 (.one 7 (.fst 8 (.one 9 .done))))))) (by kernel_rfl) ?_
   simp only[go_sem,seval,Try.results4,bN1]
   repeat' first|assumption|(simp (disch:=first|assumption|omega|(simp;done)|(simp;omega)) only[];try simp only[go_sem,seval,Try.results4])|(with_reducible first|apply And.intro|intro _)|(refine qai ?_;simp only[go_sem,seval,Try.results4])|exact lexT|((try rw[qaa]);omega)
   all_goals repeat' first|assumption|(simp (disch:=first|assumption|omega|(simp;done)|(simp;omega)) only[];try simp only[go_sem,seval,Try.results4,bH])|(with_reducible first|apply And.intro|intro _)|(refine qbr g1 [3,4,1,2] (by simp only[bH];simp only[go_sem,seval]) ?_;simp only[go_sem,seval,Try.results4,bH])|(refine qbr g2 [3,4,1,2] (by simp only[bH];simp only[go_sem,seval]) ?_;simp only[go_sem,seval,Try.results4,bH])|(refine qai ?_;simp only[go_sem,seval,Try.results4,bH])|exact lexT|((try rw[qaa]);omega)
   all_goals
    refine⟨i+1,by omega,by omega,?_⟩
    rw[hstep]
    simp
  ·obtain rfl:i=n.toNat:=by omega
   simp only[go_sem,seval,Try.results4,bN1]
   repeat' first|assumption|(simp (disch:=first|assumption|omega|(simp;done)|(simp;omega)) only[];try simp only[go_sem,seval,Try.results4])|(with_reducible first|apply And.intro|intro _)|(refine qai ?_;simp only[go_sem,seval,Try.results4])|exact lexT|((try rw[qaa]);omega)
end Go.Proofs

set_option maxRecDepth 20000
set_option linter.unusedVariables false
set_option linter.unusedSimpArgs false
namespace Go.Proofs
open Go Go.VL
def lmap (m:List Int) (l:Int):Int:=if l%2=1 then flip (m.getD (l/2).toNat 0) else m.getD (l/2).toNat 0
def mrk (first:Int) (u:List Bool) (r:Int):List Bool:=if first≤r/2 then u.set (r/2-first).toNat true else u
def mrkN (first:Int) (l:List Int) (u:List Bool):Nat→List Bool
 | 0=>u
 | i+1=>mrk first (mrkN first l u i) (l.getD i 0)
def usdI (c:Circ) (u:List Bool) (i:Nat):Nat→List Bool
 | 0=>u
 | 1=>if u.getD i false then mrk c.first u (c.gates.getD i (0,0)).1 else u
 | _=>if u.getD i false then mrk c.first (mrk c.first u (c.gates.getD i (0,0)).1) (c.gates.getD i (0,0)).2 else u
def usdN (c:Circ):Nat→List Bool
 | 0=>mrkN c.first (c.outs++c.next) (List.replicate c.gates.length false) (c.outs++c.next).length
 | k+1=>usdI c (usdN c k) (c.gates.length-1-k) 2
end Go.Proofs

set_option maxRecDepth 20000
set_option linter.unusedVariables false
set_option linter.unusedSimpArgs false
namespace Go.Proofs
open Go Go.VL
structure BdS where
 gates:List (Int×Int)
 m:List Int
def bdStep (c:Circ) (u:List Bool) (share:Bool) (i:Nat) (s:BdS):BdS:=
 if u.getD i false then
  if share then⟨(andR ⟨c.inputs,c.next,s.gates,[]⟩ (lmap s.m (c.gates.getD i (0,0)).1) (lmap s.m (c.gates.getD i (0,0)).2)).1.gates,s.m ++ [(andR ⟨c.inputs,c.next,s.gates,[]⟩ (lmap s.m (c.gates.getD i (0,0)).1) (lmap s.m (c.gates.getD i (0,0)).2)).2]⟩
  else⟨s.gates ++ [(lmap s.m (c.gates.getD i (0,0)).1,lmap s.m (c.gates.getD i (0,0)).2)],s.m ++ [2*((cFst c:Int)+(s.gates.length:Int))]⟩
 else⟨s.gates,s.m ++ [0]⟩
def bdSt (c:Circ) (u:List Bool) (share:Bool):Nat→BdS
 | 0=>⟨[],(List.range (cFst c)).map fun(v:Nat)=>2*(v:Int)⟩
 | i+1=>bdStep c u share i (bdSt c u share i)
def bdEnd (c:Circ) (share:Bool):BdS:=bdSt c (usdN c c.gates.length) share c.gates.length
def built (c:Circ) (share:Bool):Circ:=⟨c.inputs,c.next.map (lmap (bdEnd c share).m),(bdEnd c share).gates,c.outs.map (lmap (bdEnd c share).m)⟩
structure BdOk (c:Circ) (i:Nat) (s:BdS):Prop where
 ml:s.m.length=cFst c+i
 mb : ∀ x∈s.m,0≤x∧x<2*((cFst c:Int)+(s.gates.length:Int))
 gl:s.gates.length≤i
theorem qgr {m:List Int}{n:Int}(hm : ∀ x∈m,0≤x∧x<2*n) {l:Int}(h:0≤l∧l<2*m.length):0≤lmap m l∧lmap m l<2*n:=by
 have hx:=hm _ (qat (l:=m) (i:=(l/2).toNat) (z:=0) (by omega))
 unfold lmap
 split
 ·exact qcA hx
 ·exact hx
end Go.Proofs

set_option maxRecDepth 20000
set_option linter.unusedVariables false
set_option linter.unusedSimpArgs false
namespace Go.Proofs
open Go Go.VL
def optC (c:Circ):Circ:=built (built c true) false
theorem qkg (n:Int) (h:1≤n∧n≤3):(cnC n).Valid∧(built (cnC n) true).Valid:=by
 obtain rfl|rfl|rfl:n=1∨n=2∨n=3:=by omega
 ·exact⟨by constructor <;> decide +kernel,by constructor <;> decide +kernel⟩
 ·exact⟨by constructor <;> decide +kernel,by constructor <;> decide +kernel⟩
 ·exact⟨by constructor <;> decide +kernel,by constructor <;> decide +kernel⟩
end Go.Proofs

set_option maxRecDepth 20000
set_option linter.unusedVariables false
set_option linter.unusedSimpArgs false
namespace Go.Proofs
open Go Go.VL
theorem range_map_get {α : Type}{f:Nat→α}{n j:Nat}{z : α}(h:j<n):((List.range n).map f).getD j z=f j:=by simp[List.getD,h]
end Go.Proofs

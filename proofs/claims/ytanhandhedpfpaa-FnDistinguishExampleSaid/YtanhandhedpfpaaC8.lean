/- Contracts, plain definitions and lemmas. Conditions: none; lemmas. -/
import Derived.Test.YtanhandhedpfpaaC7
import Derived.Test.YtanhandhedpfpaaVM8
set_option maxRecDepth 20000
set_option linter.unusedVariables false
set_option linter.unusedSimpArgs false
namespace Go.Proofs
open Go Go.VL
def flip (x:Int):Int:=if x%2=0 then x+1 else x-1
theorem qmm : ∀ m:Nat,m ^^^ 1=if m%2=0 then m+1 else m-1:=by
 intro m
 have h:=Nat.div_add_mod m 2
 have hm:m%2<2:=Nat.mod_lt _ (by omega)
 apply Nat.eq_of_testBit_eq
 intro i
 rw[Nat.testBit_xor]
 cases i with
 | zero=>
  simp only[Nat.testBit_zero]
  rcases Nat.mod_two_eq_zero_or_one m with h2|h2
  ·rw[if_pos h2,show(m+1)%2=1 by omega,h2];rfl
  ·rw[if_neg (by omega),show(m-1)%2=0 by omega,h2];rfl
 | succ i=>
  have e1:Nat.testBit 1 (i+1)=false:=by simp[Nat.testBit_succ]
  rw[e1,Bool.xor_false,Nat.testBit_succ,Nat.testBit_succ]
  congr 1
  split <;> omega
theorem xor1 {x:Int}(h:0≤x):((x.toNat ^^^ (1:Int).toNat:Nat):Int)=flip x:=by
 rw[show(1:Int).toNat=1 from rfl,qmm,flip]
 split <;> split <;> omega
theorem qcA {x n:Int}(h:0≤x∧x<2*n):0≤flip x∧flip x<2*n:=by unfold flip;split <;> omega
def idx2 (l:List (Int×Int)) (p:Int×Int):Nat:=l.findIdx (fun q=>decide (q=p))
theorem qhF {l:List (Int×Int)}{p:Int×Int}(h:p∈l):idx2 l p<l.length:=List.findIdx_lt_length_of_exists ⟨p,h,by simp⟩
structure Bld where
 first:Nat
 gates:List (Int×Int)
 levels:List Int
def lo2 (x y:Int):Int:=if x > y then y else x
def hi2 (x y:Int):Int:=if x > y then x else y
def andG (first:Nat) (gates:List (Int×Int)) (x y:Int):List (Int×Int)×Int:=
 if lo2 x y=0∨lo2 x y=flip (hi2 x y) then(gates,0)
 else if lo2 x y=1∨lo2 x y=hi2 x y then(gates,hi2 x y)
 else if(lo2 x y,hi2 x y)∈gates then(gates,2*((first:Int)+(idx2 gates (lo2 x y,hi2 x y):Nat)))
 else(gates ++ [(lo2 x y,hi2 x y)],2*((first:Int)+(gates.length:Nat)))
def Bld.and (b:Bld) (x y:Int):Bld×Int:=
 (⟨b.first,(andG b.first b.gates x y).1,if(andG b.first b.gates x y).1.length=b.gates.length then b.levels else b.levels ++ [1+max (b.levels.getD (lo2 x y/2).toNat 0) (b.levels.getD (hi2 x y/2).toNat 0)]⟩,(andG b.first b.gates x y).2)
structure Bld.Ok (b:Bld):Prop where
 fst:1≤b.first
 len:b.levels.length=b.first+b.gates.length
 lev : ∀ l∈b.levels,0≤l∧l<b.levels.length
 lim:b.first+b.gates.length≤1000000
def qa7 (first:Nat):Nat→List (Int×Int)→List (D×D)
 | _,[]=>[]
 | i,g::r=>(dP g,dI (2*((first:Int)+(i:Int))))::qa7 first (i+1) r
theorem qdk (first:Nat) (g:Int×Int) : ∀ (l:List (Int×Int)) (i:Nat),qa7 first i (l ++ [g])=qa7 first i l ++ [(dP g,dI (2*((first:Int)+((i+l.length:Nat):Int))))]
 | [],i=>by simp[qa7]
 | x::r,i=>by
  simp only[List.cons_append,qa7,qdk first g r (i+1),List.length_cons]
  congr 5
  omega
theorem qfo (first:Nat) (p:Int×Int) : ∀ (l:List (Int×Int)) (i:Nat),qbg (qa7 first i l) (dP p)=if p∈l then some (dI (2*((first:Int)+((i+idx2 l p:Nat):Int)))) else none
 | [],i=>rfl
 | x::r,i=>by
  have ih:=qfo first p r (i+1)
  simp only[qa7,qbg,ih]
  obtain⟨p1,p2⟩:=p
  obtain⟨x1,x2⟩:=x
  simp only[dP,qgZ]
  by_cases h:p1=x1∧p2=x2
  ·obtain⟨rfl,rfl⟩:=h
   simp[idx2,List.findIdx_cons]
  ·have h' : ¬ (x1,x2)=(p1,p2):=fun e=>h (by simp at e;exact⟨e.1.symm,e.2.symm⟩)
   have h2 : ¬ (p1,p2)=(x1,x2):=fun e=>h' e.symm
   simp only[decide_eq_true_eq,h,if_false,List.mem_cons,h2,false_or]
   split
   ·congr 4
    simp only[idx2,List.findIdx_cons,h',decide_false,cond_false]
    omega
   ·rfl
theorem qfX (first:Nat) {fs:List (Nat×Nat)}(hf:fs.length=2) : ∀ (l:List (Int×Int)) (i:Nat),qaJ (.struct fs) (qa7 first i l)
 | [],i=>trivial
 | x::r,i=>⟨⟨by simp[hf],rfl,rfl,trivial⟩,qfX first hf r (i+1)⟩
theorem qfp {first:Nat}{gates:List (Int×Int)}{p:Int×Int}(h:qbg (qa7 first 0 gates) (.agg [dI p.1,dI p.2])=none) :
  updD (qa7 first 0 gates) (.agg [dI p.1,dI p.2]) (dI (2*((first:Int)+(gates.length:Nat))))=qa7 first 0 (gates ++ [p]):=by
 rw[qeE h,qdk]
 simp[dP]
def bH (b:Bld):List R:=[.box [.d (dI b.first),.sl 1 b.gates.length 2 0 b.gates.length,.sl 2 b.gates.length 1 0 (b.first+b.gates.length),.map 3],.row b.gates.length 2 true (b.gates.map dP),.row b.gates.length 1 true (b.levels.map (D.int .i64)),.map (qa7 b.first 0 b.gates)]
def Bld.new (n:Nat):Bld:=⟨n,[],List.replicate n 0⟩
theorem Bld.and_cases (b:Bld) (x y:Int):((lo2 x y=0∨lo2 x y=flip (hi2 x y))∧b.and x y=(b,0))∨
  (¬ (lo2 x y=0∨lo2 x y=flip (hi2 x y))∧(lo2 x y=1∨lo2 x y=hi2 x y)∧b.and x y=(b,hi2 x y))∨
  (¬ (lo2 x y=0∨lo2 x y=flip (hi2 x y))∧¬ (lo2 x y=1∨lo2 x y=hi2 x y)∧(lo2 x y,hi2 x y)∈b.gates∧b.and x y=(b,2*((b.first:Int)+(idx2 b.gates (lo2 x y,hi2 x y):Nat))))∨
  (¬ (lo2 x y=0∨lo2 x y=flip (hi2 x y))∧¬ (lo2 x y=1∨lo2 x y=hi2 x y)∧(lo2 x y,hi2 x y)∉b.gates∧
   b.and x y=(⟨b.first,b.gates ++ [(lo2 x y,hi2 x y)],b.levels ++ [1+max (b.levels.getD (lo2 x y/2).toNat 0) (b.levels.getD (hi2 x y/2).toNat 0)]⟩,2*((b.first:Int)+(b.gates.length:Nat)))):=by
 unfold Bld.and andG
 by_cases h1:lo2 x y=0∨lo2 x y=flip (hi2 x y)
 ·left;simp only[if_pos h1,if_true];exact⟨h1,trivial⟩
 ·right
  by_cases h2:lo2 x y=1∨lo2 x y=hi2 x y
  ·left;simp only[if_neg h1,if_pos h2,if_true];exact⟨h1,h2,trivial⟩
  ·right
   by_cases h3:(lo2 x y,hi2 x y)∈b.gates
   ·left;simp only[if_neg h1,if_neg h2,if_pos h3,if_true];exact⟨h1,h2,h3,trivial⟩
   ·right;simp only[if_neg h1,if_neg h2,if_neg h3,List.length_append,List.length_singleton]
    exact⟨h1,h2,h3,by rw[if_neg (by omega)]⟩
theorem Bld.lev_bd (b:Bld) (hb:b.Ok) (x y:Int):0≤max (b.levels.getD (x/2).toNat 0) (b.levels.getD (y/2).toNat 0)∧max (b.levels.getD (x/2).toNat 0) (b.levels.getD (y/2).toNat 0)≤1000000:=by
 have hg : ∀ k,0≤b.levels.getD k 0∧b.levels.getD k 0≤1000000:=by
  intro k
  have:=hb.len
  have:=hb.lim
  by_cases hk:k<b.levels.length
  ·have:=hb.lev _ (qat (z:=0) hk)
   omega
  ·rw[List.getD_eq_getElem?_getD,List.getElem?_eq_none (by omega)]
   simp
 have h1:=hg (x/2).toNat
 have h2:=hg (y/2).toNat
 omega
theorem Bld.and_ok {b:Bld}(hb:b.Ok) (x y:Int) (hl:b.first+b.gates.length+1≤1000000):(b.and x y).1.Ok∧b.gates.length≤(b.and x y).1.gates.length∧(b.and x y).1.gates.length≤b.gates.length+1∧(b.and x y).1.first=b.first:=by
 rcases b.and_cases x y with⟨_,h⟩|⟨_,_,h⟩|⟨_,_,_,h⟩|⟨_,_,_,h⟩
 ·rw[h];exact⟨hb,by simp,by simp,rfl⟩
 ·rw[h];exact⟨hb,by simp,by simp,rfl⟩
 ·rw[h];exact⟨hb,by simp,by simp,rfl⟩
 ·rw[h]
  refine⟨⟨hb.fst,by simp[hb.len];omega,?_,by simp;omega⟩,by simp,by simp,rfl⟩
  have hg : ∀ k,0≤b.levels.getD k 0∧(b.levels.getD k 0<b.levels.length∨b.levels.getD k 0=0):=by
   intro k
   by_cases hk:k<b.levels.length
   ·have:=hb.lev _ (qat (z:=0) hk)
    exact⟨this.1,.inl this.2⟩
   ·rw[List.getD_eq_getElem?_getD,List.getElem?_eq_none (by omega)]
    exact⟨by simp,.inr rfl⟩
  intro l hl
  simp only[List.mem_append,List.mem_singleton] at hl
  simp only[List.length_append,List.length_singleton]
  have:=hb.len
  have:=hb.fst
  rcases hl with hl|rfl
  ·have:=hb.lev l hl;omega
  ·have h1:=hg (lo2 x y/2).toNat
   have h2:=hg (hi2 x y/2).toNat
   omega
def bN (b:Bld):List R:=[.row b.gates.length 1 true (b.levels.map (D.int .i64)),.map (qa7 b.first 0 b.gates),.box [.d (dI b.first),.sl 3 b.gates.length 2 0 b.gates.length,.sl 0 b.gates.length 1 0 (b.first+b.gates.length),.map 1],.row b.gates.length 2 true (b.gates.map dP)]
theorem Bld.new_ok {n:Nat}(h:1≤n∧n≤100000):(Bld.new n).Ok:=by
 refine⟨h.1,by simp[Bld.new],?_,by simp[Bld.new];omega⟩
 intro l hl
 simp only[Bld.new,List.mem_replicate] at hl
 simp only[Bld.new,List.length_replicate]
 omega
theorem Try.c_newBuilder (i l:Nat) (h:i+l≤1000):Proc Try.prog 10 [.d (dI i),.d (dI l)] [] (.ptr 2 0) (bN (Bld.new (1+i+l))):=by
 refine qcY (E:=Try.env 0) Try.tok rfl 1000 Try.func10 rfl rfl Try.ntmps10 (by simp) ?_
 simp only[go_sem,seval,Try.results10]
 have e:(1+(i:Int)+(l:Int)).toNat=1+i+l:=by omega
 refine⟨by rw[qaa];omega,by rw[qaa];omega,⟨by omega,by omega⟩,qj6 [(2,1,2,true)] (by simp only[go_sem,seval]) (qcj ⟨rfl,?_⟩)⟩
 have e2:((1+i+l:Nat):Int)=1+(i:Int)+(l:Int):=by omega
 rw[e]
 simp only[go_sem,seval,Try.results10,e2,bN,Bld.new,qa7,List.length_nil,List.length_replicate,Nat.add_zero]
theorem Try.c_and (b:Bld) (hb:b.Ok) (x y:Int) (hx:0≤x∧x<2*((b.first+b.gates.length:Nat):Int)) (hy:0≤y∧y<2*((b.first+b.gates.length:Nat):Int)) :
  Proc Try.prog 12 [.ptr 0 0,.d (dI x),.d (dI y)] (bH b) (.d (dI (b.and x y).2)) (bH (b.and x y).1):=by
 refine qhA (E:=Try.env 4) Try.tok rfl 1000 Try.func12 rfl rfl Try.ntmps12 (by simp) ?_
 have hks:qaJ (.struct [(0,3),(1,3)]) (qa7 b.first 0 b.gates):=qfX b.first rfl b.gates 0
 have hlim:=hb.lim
 have hll:=hb.len
 have hx1:((x.toNat ^^^ 1:Nat):Int)=flip x:=xor1 hx.1
 have hy1:((y.toNat ^^^ 1:Nat):Int)=flip y:=xor1 hy.1
 have hf : ∀ p:Int×Int,qbg (qa7 b.first 0 b.gates) (.agg [dI p.1,dI p.2])=if p∈b.gates then some (dI (2*((b.first:Int)+(idx2 b.gates p:Nat)))) else none:=by
  intro p
  have:=qfo b.first p b.gates 0
  simpa [dP] using this
 have hfx:=hf (x,y)
 have hfy:=hf (y,x)
 have hix:=qhF (l:=b.gates) (p:=(x,y))
 have hiy:=qhF (l:=b.gates) (p:=(y,x))
 unfold bH
 by_cases hxy:y<x
 ·have e1:lo2 x y=y:=if_pos hxy
  have e2:hi2 x y=x:=if_pos hxy
  have hc:=b.and_cases x y
  rw[e1,e2] at hc
  rcases hc with⟨hc,hq⟩|⟨hc,hc2,hq⟩|⟨hc,hc2,hc3,hq⟩|⟨hc,hc2,hc3,hq⟩
  ·rw[hq];simp only[go_sem,seval,Try.results12,hxy,hx1,hy1]
   repeat' first|assumption|(simp (disch:=first|assumption|omega|(simp;done)|(simp;omega)) only[];try simp only[go_sem,seval,Try.results12,hx1,hy1])|(with_reducible first|apply And.intro|intro _)|(refine qai ?_;simp only[go_sem,seval,Try.results12,hx1,hy1])|exact lexT|((try rw[qaa]);omega)
  ·rw[hq];simp only[go_sem,seval,Try.results12,hxy,hx1,hy1]
   repeat' first|assumption|(simp (disch:=first|assumption|omega|(simp;done)|(simp;omega)) only[];try simp only[go_sem,seval,Try.results12,hx1,hy1])|(with_reducible first|apply And.intro|intro _)|(refine qai ?_;simp only[go_sem,seval,Try.results12,hx1,hy1])|exact lexT|((try rw[qaa]);omega)
  ·rw[hq,if_pos hc3] at *;simp only[go_sem,seval,Try.results12,hxy,hx1,hy1,hfy]
   repeat' first|assumption|(simp (disch:=first|assumption|omega|(simp;done)|(simp;omega)) only[];try simp only[go_sem,seval,Try.results12,hx1,hy1,hfy])|(with_reducible first|apply And.intro|intro _)|(refine qai ?_;simp only[go_sem,seval,Try.results12,hx1,hy1,hfy])|exact lexT|((try rw[qaa]);omega)
  ·rw[hq,if_neg hc3] at *
   have hup:=qfp hfy
   have hlv:=b.lev_bd hb y x
   simp only[go_sem,seval,Try.results12,hxy,hx1,hy1,hfy]
   repeat' first|assumption|(simp (disch:=first|assumption|omega|(simp;done)|(simp;omega)) only[];try simp only[go_sem,seval,Try.results12,hx1,hy1,hfy])|(with_reducible first|apply And.intro|intro _)|(refine qai ?_;simp only[go_sem,seval,Try.results12,hx1,hy1,hfy])|exact lexT|((try rw[qaa]);omega)
   refine qax (E:=Try.env 4) Try.tok Try.follows 1000 1000 [6] (fsts [0,1,2,5,3,4] (.one 6 .done)) (by kernel_rfl) ?_
   simp only[go_sem,seval,Try.results12,hup]
   repeat' first|assumption|(simp (disch:=first|assumption|omega|(simp;done)|(simp;omega)) only[];try simp only[go_sem,seval,Try.results12,hup])|(with_reducible first|apply And.intro|intro _)|(refine qai ?_;simp only[go_sem,seval,Try.results12,hup])|exact lexT|((try rw[qaa]);omega)
   refine qax (E:=Try.env 4) Try.tok Try.follows 1000 1000 [7,10] (fsts [0,1,2,3,4,5] (.one 6 (.one 7 (fsts [8,9] (.one 10 .done))))) (by kernel_rfl) ?_
   simp only[go_sem,seval,Try.results12,hup]
   repeat' first|assumption|(simp (disch:=first|assumption|omega|(simp;done)|(simp;omega)) only[];try simp only[go_sem,seval,Try.results12,hup])|(with_reducible first|apply And.intro|intro _)|(refine qai ?_;simp only[go_sem,seval,Try.results12,hup])|exact lexT|((try rw[qaa]);omega)
   refine qax (E:=Try.env 4) Try.tok Try.follows 1000 1000 [24,27] (fsts [0,1,2,3,5,6,7,9,10,13,14,15,17,18,4,8,11,12,16,19,20,21,22] (.one 23 (.one 24 (fsts [25,26] (.one 27 .done))))) (by kernel_rfl) ?_
   simp only[go_sem,seval,Try.results12,hup]
   repeat' first|assumption|(simp (disch:=first|assumption|omega|(simp;done)|(simp;omega)) only[];try simp only[go_sem,seval,Try.results12,hup])|(with_reducible first|apply And.intro|intro _)|(refine qai ?_;simp only[go_sem,seval,Try.results12,hup])|exact lexT|((try rw[qaa]);omega)
   rw[Nat.add_assoc]
 ·have e1:lo2 x y=x:=if_neg hxy
  have e2:hi2 x y=y:=if_neg hxy
  have hc:=b.and_cases x y
  rw[e1,e2] at hc
  rcases hc with⟨hc,hq⟩|⟨hc,hc2,hq⟩|⟨hc,hc2,hc3,hq⟩|⟨hc,hc2,hc3,hq⟩
  ·rw[hq];simp only[go_sem,seval,Try.results12,hxy,hx1,hy1]
   repeat' first|assumption|(simp (disch:=first|assumption|omega|(simp;done)|(simp;omega)) only[];try simp only[go_sem,seval,Try.results12,hx1,hy1])|(with_reducible first|apply And.intro|intro _)|(refine qai ?_;simp only[go_sem,seval,Try.results12,hx1,hy1])|exact lexT|((try rw[qaa]);omega)
  ·rw[hq];simp only[go_sem,seval,Try.results12,hxy,hx1,hy1]
   repeat' first|assumption|(simp (disch:=first|assumption|omega|(simp;done)|(simp;omega)) only[];try simp only[go_sem,seval,Try.results12,hx1,hy1])|(with_reducible first|apply And.intro|intro _)|(refine qai ?_;simp only[go_sem,seval,Try.results12,hx1,hy1])|exact lexT|((try rw[qaa]);omega)
  ·rw[hq,if_pos hc3] at *;simp only[go_sem,seval,Try.results12,hxy,hx1,hy1,hfx]
   repeat' first|assumption|(simp (disch:=first|assumption|omega|(simp;done)|(simp;omega)) only[];try simp only[go_sem,seval,Try.results12,hx1,hy1,hfx])|(with_reducible first|apply And.intro|intro _)|(refine qai ?_;simp only[go_sem,seval,Try.results12,hx1,hy1,hfx])|exact lexT|((try rw[qaa]);omega)
  ·rw[hq,if_neg hc3] at *
   have hup:=qfp hfx
   have hlv:=b.lev_bd hb x y
   simp only[go_sem,seval,Try.results12,hxy,hx1,hy1,hfx]
   repeat' first|assumption|(simp (disch:=first|assumption|omega|(simp;done)|(simp;omega)) only[];try simp only[go_sem,seval,Try.results12,hx1,hy1,hfx])|(with_reducible first|apply And.intro|intro _)|(refine qai ?_;simp only[go_sem,seval,Try.results12,hx1,hy1,hfx])|exact lexT|((try rw[qaa]);omega)
   refine qax (E:=Try.env 4) Try.tok Try.follows 1000 1000 [6] (fsts [0,1,2,5,3,4] (.one 6 .done)) (by kernel_rfl) ?_
   simp only[go_sem,seval,Try.results12,hup]
   repeat' first|assumption|(simp (disch:=first|assumption|omega|(simp;done)|(simp;omega)) only[];try simp only[go_sem,seval,Try.results12,hup])|(with_reducible first|apply And.intro|intro _)|(refine qai ?_;simp only[go_sem,seval,Try.results12,hup])|exact lexT|((try rw[qaa]);omega)
   refine qax (E:=Try.env 4) Try.tok Try.follows 1000 1000 [7,10] (fsts [0,1,2,3,4,5] (.one 6 (.one 7 (fsts [8,9] (.one 10 .done))))) (by kernel_rfl) ?_
   simp only[go_sem,seval,Try.results12,hup]
   repeat' first|assumption|(simp (disch:=first|assumption|omega|(simp;done)|(simp;omega)) only[];try simp only[go_sem,seval,Try.results12,hup])|(with_reducible first|apply And.intro|intro _)|(refine qai ?_;simp only[go_sem,seval,Try.results12,hup])|exact lexT|((try rw[qaa]);omega)
   refine qax (E:=Try.env 4) Try.tok Try.follows 1000 1000 [24,27] (fsts [0,1,2,3,5,6,7,9,10,13,14,15,17,18,4,8,11,12,16,19,20,21,22] (.one 23 (.one 24 (fsts [25,26] (.one 27 .done))))) (by kernel_rfl) ?_
   simp only[go_sem,seval,Try.results12,hup]
   repeat' first|assumption|(simp (disch:=first|assumption|omega|(simp;done)|(simp;omega)) only[];try simp only[go_sem,seval,Try.results12,hup])|(with_reducible first|apply And.intro|intro _)|(refine qai ?_;simp only[go_sem,seval,Try.results12,hup])|exact lexT|((try rw[qaa]);omega)
   rw[Nat.add_assoc]
def Bld.xor (b:Bld) (x y:Int):Bld×Int:=
 let p:=b.and x y
 let q:=p.1.and (flip x) (flip y)
 q.1.and (flip p.2) (flip q.2)
theorem Bld.and_res {b:Bld}(hb:b.Ok) {x y:Int}(hx:0≤x∧x<2*((b.first+b.gates.length:Nat):Int)) (hy:0≤y∧y<2*((b.first+b.gates.length:Nat):Int)) :
  0≤(b.and x y).2∧(b.and x y).2<2*(((b.and x y).1.first+(b.and x y).1.gates.length:Nat):Int):=by
 have:=hb.fst
 have hh:0≤hi2 x y∧hi2 x y<2*((b.first+b.gates.length:Nat):Int):=by unfold hi2;split <;> assumption
 rcases b.and_cases x y with⟨_,h⟩|⟨_,_,h⟩|⟨_,_,h3,h⟩|⟨_,_,_,h⟩
 ·rw[h];simp only;omega
 ·rw[h];simp only;omega
 ·rw[h]
  have:=qhF h3
  simp only;omega
 ·rw[h];simp only[List.length_append,List.length_singleton];omega
theorem Try.c_xor (b:Bld) (hb:b.Ok) (hl:b.first+b.gates.length+3≤1000000) (x y:Int) (hx:0≤x∧x<2*((b.first+b.gates.length:Nat):Int)) (hy:0≤y∧y<2*((b.first+b.gates.length:Nat):Int)) :
  Proc Try.prog 11 [.ptr 0 0,.d (dI x),.d (dI y)] (bH b) (.d (dI (b.xor x y).2)) (bH (b.xor x y).1):=by
 refine qhA (E:=Try.env 4) Try.tok rfl 1000 Try.func11 rfl rfl Try.ntmps11 (by simp) ?_
 have hx1:((x.toNat ^^^ 1:Nat):Int)=flip x:=xor1 hx.1
 have hy1:((y.toNat ^^^ 1:Nat):Int)=flip y:=xor1 hy.1
 have h1:=b.and_ok hb x y (by omega)
 have r1:=b.and_res hb hx hy
 have c1:=Try.c_and b hb x y hx hy
 unfold Bld.xor
 simp only
 generalize b.and x y=p at *
 obtain⟨b1,z1⟩:=p
 simp only at h1 r1 c1 ⊢
 have fx:=qcA (n:=((b1.first+b1.gates.length:Nat):Int)) (x:=x) (by omega)
 have fy:=qcA (n:=((b1.first+b1.gates.length:Nat):Int)) (x:=y) (by omega)
 have h2:=b1.and_ok h1.1 (flip x) (flip y) (by omega)
 have r2:=b1.and_res h1.1 fx fy
 have c2:=Try.c_and b1 h1.1 (flip x) (flip y) fx fy
 generalize b1.and (flip x) (flip y)=p at *
 obtain⟨b2,z2⟩:=p
 simp only at h2 r2 c2 ⊢
 have fz1:=qcA (n:=((b2.first+b2.gates.length:Nat):Int)) (x:=z1) (by omega)
 have fz2:=qcA (n:=((b2.first+b2.gates.length:Nat):Int)) (x:=z2) (by omega)
 have c3:=Try.c_and b2 h2.1 (flip z1) (flip z2) fz1 fz2
 have hz1:((z1.toNat ^^^ 1:Nat):Int)=flip z1:=xor1 r1.1
 have hz2:((z2.toNat ^^^ 1:Nat):Int)=flip z2:=xor1 r2.1
 simp only[go_sem,seval,Try.results11]
 refine qbr c1 [0,1,2,3] (by simp only[bH];simp only[go_sem,seval]) ?_
 simp only[go_sem,seval,Try.results11,hx1,hy1,bH]
 refine⟨hx.1,hy.1,qbr c2 [0,1,2,3] (by simp only[bH];simp only[go_sem,seval]) ?_⟩
 simp only[go_sem,seval,Try.results11,hz1,hz2,bH]
 refine⟨r1.1,r2.1,qbr c3 [0,1,2,3] (by simp only[bH];simp only[go_sem,seval]) ?_⟩
 simp only[go_sem,seval,Try.results11,hz1,hz2,bH]
theorem Bld.xor_ok {b:Bld}(hb:b.Ok) {x y:Int}(hl:b.first+b.gates.length+3≤1000000) (hx:0≤x∧x<2*((b.first+b.gates.length:Nat):Int)) (hy:0≤y∧y<2*((b.first+b.gates.length:Nat):Int)) :
  (b.xor x y).1.Ok∧b.gates.length≤(b.xor x y).1.gates.length∧(b.xor x y).1.gates.length≤b.gates.length+3∧(b.xor x y).1.first=b.first∧0≤(b.xor x y).2∧(b.xor x y).2<2*(((b.xor x y).1.first+(b.xor x y).1.gates.length:Nat):Int):=by
 have h1:=b.and_ok hb x y (by omega)
 have r1:=b.and_res hb hx hy
 unfold Bld.xor
 simp only
 generalize b.and x y=p at *
 obtain⟨b1,z1⟩:=p
 simp only at h1 r1 ⊢
 have fx:=qcA (n:=((b1.first+b1.gates.length:Nat):Int)) (x:=x) (by omega)
 have fy:=qcA (n:=((b1.first+b1.gates.length:Nat):Int)) (x:=y) (by omega)
 have h2:=b1.and_ok h1.1 (flip x) (flip y) (by omega)
 have r2:=b1.and_res h1.1 fx fy
 generalize b1.and (flip x) (flip y)=p at *
 obtain⟨b2,z2⟩:=p
 simp only at h2 r2 ⊢
 have fz1:=qcA (n:=((b2.first+b2.gates.length:Nat):Int)) (x:=z1) (by omega)
 have fz2:=qcA (n:=((b2.first+b2.gates.length:Nat):Int)) (x:=z2) (by omega)
 have h3:=b2.and_ok h2.1 (flip z1) (flip z2) (by omega)
 have r3:=b2.and_res h2.1 fz1 fz2
 exact⟨h3.1,by omega,by omega,by omega,r3⟩
end Go.Proofs

set_option maxRecDepth 20000
set_option linter.unusedVariables false
set_option linter.unusedSimpArgs false
namespace Go.Proofs
open Go Go.VL
theorem Try.c_litValue (v:List Bool) (l:Int) (h:0≤l∧l<2*v.length):Pure Try.prog 36 [dBs v,dI l] (.bool (litV v l)):=by
 refine qau (E:=Try.env 0) Try.tok rfl 1000 Try.func36 rfl rfl Try.ntmps36 (by simp) fun ok=>?_
 simp only[go_sem,seval] at ok
 simp only[go_sem,seval,Try.results36]
 repeat' first|assumption|(simp (disch:=first|assumption|omega|(simp;done)|(simp;omega)) only[qae,List.take_of_length_le];try simp only[go_sem,seval,Try.results36])|(with_reducible first|apply And.intro|intro _)|(refine qai ?_;simp only[go_sem,seval,Try.results36])|exact lexT|((try rw[qaa]);omega)
 simp only[land1 h.1]
 rfl
theorem Try.c_litValues (v:List Bool) (ls:List Int) (h : ∀ l∈ls,0≤l∧l<2*v.length) (hl:ls.length≤1000000):Pure Try.prog 28 [dBs v,dIs ls] (dBs (qb7 v ls)):=by
 refine qau (E:=Try.env 0) Try.tok rfl 1000 Try.func28 rfl rfl Try.ntmps28 (by simp) fun ok=>?_
 simp only[go_sem,seval] at ok
 simp only[go_sem,seval,Try.results28]
 repeat' first|assumption|(simp (disch:=first|assumption|omega|(simp;done)|(simp;omega)) only[qae,List.take_of_length_le];try simp only[go_sem,seval,Try.results28])|(with_reducible first|apply And.intro|intro _)|(refine qai ?_;simp only[go_sem,seval,Try.results28])|exact lexT|((try rw[qaa]);omega)
 refine qbb (E:=Try.env 0) Try.tok (σ:=Nat) (fun i=>[(0,.d (dBs v)),(5,.sl 0 i 1 0 i),(11,.d (dIs ls)),(12,.d (dI ls.length)),(13,.d (dI i))]) (fun i=>[.row i 1 true ((qb7 v (ls.take i)).map D.bool)]) (fun i=>i≤ls.length) (fun i=>ls.length-i) [] 1000 1000 ?_ ?_ ?_
 ·simp only[go_sem,seval]
 ·simp only[go_sem,seval]
  exact⟨0,by simp[qb7]⟩
 ·intro i hi
  simp only[go_sem,seval,Try.results28]
  have hl2:(qb7 v (ls.take i)).length=i:=by simp[qb7];omega
  by_cases hlt:i<ls.length
  ·have hx:=h (ls.getD i 0) (qat hlt)
   repeat' first|assumption|(simp (disch:=first|assumption|omega|(simp;done)|(simp;omega)) only[qae,List.take_of_length_le];try simp only[go_sem,seval,Try.results28])|(with_reducible first|apply And.intro|intro _)|(refine qad (Try.c_litValue v _ hx) ?_;simp only[go_sem,seval,Try.results28])|(refine qai ?_;simp only[go_sem,seval,Try.results28])|exact lexT|((try rw[qaa]);omega)
   refine⟨i+1,by omega,by omega,rfl,rfl,?_⟩
   rw[List.take_succ_eq_append_getElem hlt]
   simp only[qb7,List.map_append,List.map_cons,List.map_nil,List.getD,List.getElem?_eq_getElem hlt,Option.getD_some]
  ·have:=qdW (v:=v) (ls:=ls)
   repeat' first|assumption|(simp (disch:=first|assumption|omega|(simp;done)|(simp;omega)) only[qae,List.take_of_length_le];try simp only[go_sem,seval,Try.results28])|(with_reducible first|apply And.intro|intro _)|(refine qai ?_;simp only[go_sem,seval,Try.results28])|exact lexT|((try rw[qaa]);omega)
theorem Try.c_evaluate (c:Circ) (hv:c.Valid) (st ins:List Bool) (h1:st.length=c.next.length) (h2:(ins.length:Int)=c.inputs) (b:Bool) :
  Pure Try.prog 25 [pC c,dBs st,dBs ins,dI (-1),dB b] (dBs (values c st ins)):=by
 refine qau (E:=Try.env 0) Try.tok rfl 1000 Try.func25 rfl rfl Try.ntmps25 (by simp) fun ok=>?_
 simp only[go_sem,seval] at ok
 simp only[go_sem,seval,Try.results25]
 have hb:=hv.vars_bd
 have hf:=hv.first_bd
 have hi0:=hv.i0
 have hi1:=hv.i1
 have hvv:c.vars=1+(ins.length:Int)+st.length+c.gates.length:=by rw[h2,h1];rfl
 have e0:(1+c.inputs).toNat=1+ins.length:=by omega
 have e1:c.vars.toNat=1+ins.length+st.length+c.gates.length:=by omega
 repeat' first|assumption|(simp (disch:=first|assumption|omega|(simp;done)|(simp;omega)) only[qae,List.take_of_length_le];try simp only[go_sem,seval,Try.results25])|(with_reducible first|apply And.intro|intro _)|(refine qad (Try.c_vars c (by omega)) ?_;simp only[go_sem,seval,Try.results25])|(refine qai ?_;simp only[go_sem,seval,Try.results25])|exact lexT|((try rw[qaa]);omega)
 ·rw[qiI (by simp;omega)];simp;omega
 rw[e0,e1,qiJ false ins st _ (by omega),show 1+ins.length+st.length+c.gates.length-(1+ins.length+st.length)=c.gates.length by omega]
 refine qbb (E:=Try.env 0) Try.tok (σ:=Nat) (fun i=>[(0,.d (pC c)),(3,.d (dI (-1))),(11,.sl 0 0 1 0 (1+ins.length+st.length+c.gates.length)),(40,.d (dPs c.gates)),(41,.d (dI c.gates.length)),(42,.d (dI i))]) (fun i=>[.row 0 1 true ((qdD c st ins i++List.replicate (c.gates.length-i) false).map D.bool)]) (fun i=>i≤c.gates.length) (fun i=>c.gates.length-i) [] 1000 1000 ?_ ?_ ?_
 ·simp only[go_sem,seval]
 ·simp only[go_sem,seval]
  exact⟨0,by simp[qiK]⟩
 ·intro i hi
  have hln:=qfk c st ins i
  by_cases hlt:i<c.gates.length
  ·obtain⟨g1,g2⟩:=hv.g i hlt
   unfold qbc at g1 g2
   have hfe:c.first=1+ins.length+st.length:=by rw[Circ.first];omega
   have q1:litV (qdD c st ins i++List.replicate (c.gates.length-i) false) (c.gates.getD i (0,0)).1=litV (qdD c st ins i) (c.gates.getD i (0,0)).1:=qh6 g1.1 (by omega)
   have q2:litV (qdD c st ins i++List.replicate (c.gates.length-i) false) (c.gates.getD i (0,0)).2=litV (qdD c st ins i) (c.gates.getD i (0,0)).2:=qh6 g2.1 (by omega)
   have hlen:(qdD c st ins i++List.replicate (c.gates.length-i) false).length=1+ins.length+st.length+c.gates.length:=by simp;omega
   simp only[go_sem,seval,Try.results25]
   repeat' first|assumption|(simp (disch:=first|assumption|omega|(simp;done)|(simp;omega)) only[qae,List.take_of_length_le];try simp only[go_sem,seval,Try.results25])|(with_reducible first|apply And.intro|intro _)|(refine qad (Try.c_firstGate c (by omega)) ?_;simp only[go_sem,seval,Try.results25])|(refine qad (Try.c_litValue _ _ (by rw[hlen];omega)) ?_;simp only[go_sem,seval,Try.results25])|(refine qbM (fun _=>Try.c_litValue _ _ (by rw[hlen];omega)) ?_;simp only[go_sem,seval,Try.results25])|(refine qai ?_;simp only[go_sem,seval,Try.results25])|exact lexT|((try rw[qaa]);omega)
   refine⟨i+1,by omega,by omega,rfl,?_⟩
   rw[q1,q2,show(c.first+(i:Int)).toNat=(qdD c st ins i).length by omega,qck rfl (by omega),Nat.sub_sub]
   rfl
  ·simp only[go_sem,seval,Try.results25]
   repeat' first|assumption|(simp (disch:=first|assumption|omega|(simp;done)|(simp;omega)) only[qae,List.take_of_length_le];try simp only[go_sem,seval,Try.results25])|(with_reducible first|apply And.intro|intro _)|(refine qai ?_;simp only[go_sem,seval,Try.results25])|exact lexT|((try rw[qaa]);omega)
   rw[values,show i=c.gates.length by omega,Nat.sub_self]
   simp
end Go.Proofs

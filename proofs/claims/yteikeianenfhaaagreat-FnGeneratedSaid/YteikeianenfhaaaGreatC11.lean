/- Contracts, plain definitions and lemmas. Conditions: none; lemmas. -/
import Derived.Test.YteikeianenfhaaaGreatC7
import Derived.Test.YteikeianenfhaaaGreatVM8
set_option maxRecDepth 20000
set_option linter.unusedSimpArgs false
set_option linter.unusedVariables false
set_option maxHeartbeats 2000000
namespace Go.Proofs
open Go Go.VL Tryz
def flip (x:Int):Int:=if x%2=0 then x+1 else x-1
theorem qs2 : ∀ m:Nat,m ^^^ 1=if m%2=0 then m+1 else m-1:=by
 intro m;have h:=Nat.div_add_mod m 2;have hm:m%2<2:=Nat.mod_lt _ (by omega);apply Nat.eq_of_testBit_eq;intro i;rw[Nat.testBit_xor];cases i with
 | zero=>
  simp only[Nat.testBit_zero];rcases Nat.mod_two_eq_zero_or_one m with h2|h2
  ·rw[if_pos h2,show(m+1)%2=1 by omega,h2];rfl
  ·rw[if_neg (by omega),show(m-1)%2=0 by omega,h2];rfl
 | succ i=>
  have e1:Nat.testBit 1 (i+1)=false:=by simp[Nat.testBit_succ]
  rw[e1,Bool.xor_false,Nat.testBit_succ,Nat.testBit_succ];congr 1;split <;> omega
theorem xor1 {x:Int}(h:0<=x):((x.toNat ^^^ (1:Int).toNat:Nat):Int)=flip x:=by
 rw[show(1:Int).toNat=1 from rfl,qs2,flip];split <;> split <;> omega
theorem qcB {x n:Int}(h:0<=x/\x<2*n):0<=flip x/\flip x<2*n:=by unfold flip;split <;> omega
def idx2 (l:List (Int×Int)) (p:Int×Int):Nat:=l.findIdx (fun q=>decide (q=p))
theorem qix {l:List (Int×Int)}{p:Int×Int}(h:p∈l):idx2 l p<l.length:=List.findIdx_lt_length_of_exists ⟨p,h,by simp⟩
structure Bld where
 first:Nat
 gates:List (Int×Int)
 levels:List Int
def lo2 (x y:Int):Int:=if x > y then y else x
def hi2 (x y:Int):Int:=if x > y then x else y
def andG (first:Nat) (gates:List (Int×Int)) (x y:Int):List (Int×Int)×Int:=
 if lo2 x y=0∨lo2 x y=flip (hi2 x y) then(gates,0)
 else if lo2 x y=1∨lo2 x y=hi2 x y then(gates,hi2 x y)
 else if(lo2 x y,hi2 x y)∈gates then(gates,2*((first:Int)+(idx2 gates (lo2 x y,hi2 x y):Nat)))
 else(gates ++ [(lo2 x y,hi2 x y)],2*((first:Int)+(gates.length:Nat)))
def Bld.and (b:Bld) (x y:Int):Bld×Int:=
 (⟨b.first,(andG b.first b.gates x y).1,if(andG b.first b.gates x y).1.length=b.gates.length then b.levels else b.levels ++ [1+max (b.levels.getD (lo2 x y/2).toNat 0) (b.levels.getD (hi2 x y/2).toNat 0)]⟩,(andG b.first b.gates x y).2)
structure Bld.Ok (b:Bld):Prop where
 fst:1<=b.first
 len:b.levels.length=b.first+b.gates.length
 lev : ∀ l∈b.levels,0<=l/\l<b.levels.length
 lim:b.first+b.gates.length<=1000000
def qb9 (first:Nat):Nat->List (Int×Int)->List (D×D)
 | _,[]=>[]
 | i,g::r=>(dP g,dI (2*((first:Int)+(i:Int))))::qb9 first (i+1) r
theorem qfE (first:Nat) (g:Int×Int) : ∀ (l:List (Int×Int)) (i:Nat),qb9 first i (l ++ [g])=qb9 first i l ++ [(dP g,dI (2*((first:Int)+((i+l.length:Nat):Int))))]
 | [],i=>by simp[qb9]
 | x::r,i=>by
  simp only[ybk,qb9,qfE first g r (i+1),yau];congr 5;omega
theorem qiy (first:Nat) (p:Int×Int) : ∀ (l:List (Int×Int)) (i:Nat),qcc (qb9 first i l) (dP p)=if p∈l then some (dI (2*((first:Int)+((i+idx2 l p:Nat):Int)))) else none
 | [],i=>rfl
 | x::r,i=>by
  have ih:=qiy first p r (i+1)
  simp only[qb9,qcc,ih];obtain⟨p1,p2⟩:=p;obtain⟨x1,x2⟩:=x;simp only[dP,qeY];by_cases h:p1=x1/\p2=x2
  ·obtain⟨rfl,rfl⟩:=h;simp[idx2,List.findIdx_cons]
  ·have h' : ¬ (x1,x2)=(p1,p2):=fun e=>h (by simp at e;exact⟨e.1.symm,e.2.symm⟩)
   have h2 : ¬ (p1,p2)=(x1,x2):=fun e=>h' e.symm
   simp only[decide_eq_true_eq,h,if_false,yaA,h2,false_or];split
   ·congr 4;simp only[idx2,List.findIdx_cons,h',decide_false,cond_false];omega
   ·rfl
theorem qjH (first:Nat) {fs:List (Nat×Nat)}(hf:fs.length=2) : ∀ (l:List (Int×Int)) (i:Nat),qba (.struct fs) (qb9 first i l)
 | [],i=>trivial
 | x::r,i=>⟨⟨by simp[hf],rfl,rfl,trivial⟩,qjH first hf r (i+1)⟩
theorem qiz {first:Nat}{gates:List (Int×Int)}{p:Int×Int}(h:qcc (qb9 first 0 gates) (.agg [dI p.1,dI p.2])=none) :
  updD (qb9 first 0 gates) (.agg [dI p.1,dI p.2]) (dI (2*((first:Int)+(gates.length:Nat))))=qb9 first 0 (gates ++ [p]):=by
 rw[qnC h,qfE];simp[dP]
def bH (b:Bld):List R:=[.box [.d (dI b.first),.sl 1 b.gates.length 2 0 b.gates.length,.sl 2 b.gates.length 1 0 (b.first+b.gates.length),.map 3],.row b.gates.length 2 true (b.gates.map dP),.row b.gates.length 1 true (b.levels.map (D.int .i64)),.map (qb9 b.first 0 b.gates)]
def Bld.new (n:Nat):Bld:=⟨n,[],List.replicate n 0⟩
theorem Bld.and_cases (b:Bld) (x y:Int):((lo2 x y=0∨lo2 x y=flip (hi2 x y))/\b.and x y=(b,0))∨
  (¬ (lo2 x y=0∨lo2 x y=flip (hi2 x y))/\(lo2 x y=1∨lo2 x y=hi2 x y)/\b.and x y=(b,hi2 x y))∨
  (¬ (lo2 x y=0∨lo2 x y=flip (hi2 x y))/\¬ (lo2 x y=1∨lo2 x y=hi2 x y)/\(lo2 x y,hi2 x y)∈b.gates/\b.and x y=(b,2*((b.first:Int)+(idx2 b.gates (lo2 x y,hi2 x y):Nat))))∨
  (¬ (lo2 x y=0∨lo2 x y=flip (hi2 x y))/\¬ (lo2 x y=1∨lo2 x y=hi2 x y)/\(lo2 x y,hi2 x y)∉b.gates/\
   b.and x y=(⟨b.first,b.gates ++ [(lo2 x y,hi2 x y)],b.levels ++ [1+max (b.levels.getD (lo2 x y/2).toNat 0) (b.levels.getD (hi2 x y/2).toNat 0)]⟩,2*((b.first:Int)+(b.gates.length:Nat)))):=by
 unfold Bld.and andG;by_cases h1:lo2 x y=0∨lo2 x y=flip (hi2 x y)
 ·left;simp only[if_pos h1,if_true];exact⟨h1,trivial⟩
 ·right;by_cases h2:lo2 x y=1∨lo2 x y=hi2 x y
  ·left;simp only[if_neg h1,if_pos h2,if_true];exact⟨h1,h2,trivial⟩
  ·right;by_cases h3:(lo2 x y,hi2 x y)∈b.gates
   ·left;simp only[if_neg h1,if_neg h2,if_pos h3,if_true];exact⟨h1,h2,h3,trivial⟩
   ·right;simp only[if_neg h1,if_neg h2,if_neg h3,yae,yaK];exact⟨h1,h2,h3,by rw[if_neg (by omega)]⟩
theorem Bld.lev_bd (b:Bld) (hb:b.Ok) (x y:Int):0<=max (b.levels.getD (x/2).toNat 0) (b.levels.getD (y/2).toNat 0)/\max (b.levels.getD (x/2).toNat 0) (b.levels.getD (y/2).toNat 0)<=1000000:=by
 have hg : ∀ k,0<=b.levels.getD k 0/\b.levels.getD k 0<=1000000:=by
  intro k;have:=hb.len;have:=hb.lim;by_cases hk:k<b.levels.length
  ·have:=hb.lev _ (qac (z:=0) hk);omega
  ·rw[List.getD_eq_getElem?_getD,List.getElem?_eq_none (by omega)];simp
 have h1:=hg (x/2).toNat;have h2:=hg (y/2).toNat;omega
theorem Bld.and_ok {b:Bld}(hb:b.Ok) (x y:Int) (hl:b.first+b.gates.length+1<=1000000):(b.and x y).1.Ok/\b.gates.length<=(b.and x y).1.gates.length/\(b.and x y).1.gates.length<=b.gates.length+1/\(b.and x y).1.first=b.first:=by
 rcases b.and_cases x y with⟨_,h⟩|⟨_,_,h⟩|⟨_,_,_,h⟩|⟨_,_,_,h⟩
 ·rw[h];exact⟨hb,by simp,by simp,rfl⟩
 ·rw[h];exact⟨hb,by simp,by simp,rfl⟩
 ·rw[h];exact⟨hb,by simp,by simp,rfl⟩
 ·rw[h];refine⟨⟨hb.fst,by simp[hb.len];omega,?_,by simp;omega⟩,by simp,by simp,rfl⟩;have hg : ∀ k,0<=b.levels.getD k 0/\(b.levels.getD k 0<b.levels.length∨b.levels.getD k 0=0):=by
   intro k;by_cases hk:k<b.levels.length
   ·have:=hb.lev _ (qac (z:=0) hk);exact⟨this.1,.inl this.2⟩
   ·rw[List.getD_eq_getElem?_getD,List.getElem?_eq_none (by omega)];exact⟨by simp,.inr rfl⟩
  intro l hl;simp only[yas,yaz] at hl;simp only[yae,yaK];have:=hb.len;have:=hb.fst;rcases hl with hl|rfl
  ·have:=hb.lev l hl;omega
  ·have h1:=hg (lo2 x y/2).toNat;have h2:=hg (hi2 x y/2).toNat;omega
def bN (b:Bld):List R:=[.row b.gates.length 1 true (b.levels.map (D.int .i64)),.map (qb9 b.first 0 b.gates),.box [.d (dI b.first),.sl 3 b.gates.length 2 0 b.gates.length,.sl 0 b.gates.length 1 0 (b.first+b.gates.length),.map 1],.row b.gates.length 2 true (b.gates.map dP)]
theorem Bld.new_ok {n:Nat}(h:1<=n/\n<=100000):(Bld.new n).Ok:=by
 refine⟨h.1,by simp[Bld.new],?_,by simp[Bld.new];omega⟩;intro l hl;simp only[Bld.new,List.mem_replicate] at hl;simp only[Bld.new,yaH];omega
theorem Tryz.c_newBuilder (i l:Nat) (h:i+l<=1000):Proc prog 105 [.d (dI i),.d (dI l)] [] (.ptr 2 0) (bN (Bld.new (1+i+l))):=by
 refine qau (E:=env 0) tok rfl 1000 func105 rfl rfl ntmps105 (by simp) ?_;simp only[go_sem,seval];have e:(1+(i:Int)+(l:Int)).toNat=1+i+l:=by omega
 refine⟨by rw[qaa];omega,by rw[qaa];omega,⟨by omega,by omega⟩,qqc [(2,1,2,true)] (by simp only[go_sem,seval]) (qcz ⟨rfl,?_⟩)⟩;have e2:((1+i+l:Nat):Int)=1+(i:Int)+(l:Int):=by omega
 rw[e];simp only[go_sem,seval,e2,bN,Bld.new,qb9,yaX,yaH,yaP]
theorem Tryz.c_and (b:Bld) (hb:b.Ok) (x y:Int) (hx:0<=x/\x<2*((b.first+b.gates.length:Nat):Int)) (hy:0<=y/\y<2*((b.first+b.gates.length:Nat):Int)) :
  Proc prog 107 [.ptr 0 0,.d (dI x),.d (dI y)] (bH b) (.d (dI (b.and x y).2)) (bH (b.and x y).1):=by
 refine qmL (E:=env 4) tok rfl 1000 func107 rfl rfl ntmps107 (by simp) ?_;have hks:qba (.struct [(0,3),(1,3)]) (qb9 b.first 0 b.gates):=qjH b.first rfl b.gates 0
 have hlim:=hb.lim;have hll:=hb.len;have hx1:((x.toNat ^^^ 1:Nat):Int)=flip x:=xor1 hx.1;have hy1:((y.toNat ^^^ 1:Nat):Int)=flip y:=xor1 hy.1;have hf : ∀ p:Int×Int,qcc (qb9 b.first 0 b.gates) (.agg [dI p.1,dI p.2])=if p∈b.gates then some (dI (2*((b.first:Int)+(idx2 b.gates p:Nat)))) else none:=by
  intro p;have:=qiy b.first p b.gates 0
  simpa [dP] using this
 have hfx:=hf (x,y);have hfy:=hf (y,x);have hix:=qix (l:=b.gates) (p:=(x,y));have hiy:=qix (l:=b.gates) (p:=(y,x));unfold bH;by_cases hxy:y<x
 ·have e1:lo2 x y=y:=if_pos hxy;have e2:hi2 x y=x:=if_pos hxy;have hc:=b.and_cases x y;rw[e1,e2] at hc;rcases hc with⟨hc,hq⟩|⟨hc,hc2,hq⟩|⟨hc,hc2,hc3,hq⟩|⟨hc,hc2,hc3,hq⟩
  ·rw[hq];simp only[go_sem,seval,hxy,hx1,hy1]
   repeat' first|assumption|(simp (disch:=first|assumption|omega|(simp;done)|(simp;omega)) only[];try simp only[go_sem,seval,hx1,hy1])|(with_reducible first|apply And.intro|intro _)|exact lexT|((try rw[qaa]);omega)
  ·rw[hq];simp only[go_sem,seval,hxy,hx1,hy1]
   repeat' first|assumption|(simp (disch:=first|assumption|omega|(simp;done)|(simp;omega)) only[];try simp only[go_sem,seval,hx1,hy1])|(with_reducible first|apply And.intro|intro _)|exact lexT|((try rw[qaa]);omega)
  ·rw[hq,if_pos hc3] at *;simp only[go_sem,seval,hxy,hx1,hy1,hfy]
   repeat' first|assumption|(simp (disch:=first|assumption|omega|(simp;done)|(simp;omega)) only[];try simp only[go_sem,seval,hx1,hy1,hfy])|(with_reducible first|apply And.intro|intro _)|exact lexT|((try rw[qaa]);omega)
  ·rw[hq,if_neg hc3] at *
   have hup:=qiz hfy;have hlv:=b.lev_bd hb y x;simp only[go_sem,seval,hxy,hx1,hy1,hfy]
   repeat' first|assumption|(simp (disch:=first|assumption|omega|(simp;done)|(simp;omega)) only[];try simp only[go_sem,seval,hx1,hy1,hfy])|(with_reducible first|apply And.intro|intro _)|exact lexT|((try rw[qaa]);omega)
   refine qaP (n:=4) [6] (fsts [0,1,2,5,3,4] (.one 6 .done)) ?_;simp only[go_sem,seval,hup]
   repeat' first|assumption|(simp (disch:=first|assumption|omega|(simp;done)|(simp;omega)) only[];try simp only[go_sem,seval,hup])|(with_reducible first|apply And.intro|intro _)|exact lexT|((try rw[qaa]);omega)
   refine qaP (n:=4) [7,10] (fsts [0,1,2,3,4,5] (.one 6 (.one 7 (fsts [8,9] (.one 10 .done))))) ?_;simp only[go_sem,seval,hup]
   repeat' first|assumption|(simp (disch:=first|assumption|omega|(simp;done)|(simp;omega)) only[];try simp only[go_sem,seval,hup])|(with_reducible first|apply And.intro|intro _)|exact lexT|((try rw[qaa]);omega)
   refine qaP (n:=4) [24,27] (fsts [0,1,2,3,5,6,7,9,10,13,14,15,17,18,4,8,11,12,16,19,20,21,22] (.one 23 (.one 24 (fsts [25,26] (.one 27 .done))))) ?_;simp only[go_sem,seval,hup]
   repeat' first|assumption|(simp (disch:=first|assumption|omega|(simp;done)|(simp;omega)) only[];try simp only[go_sem,seval,hup])|(with_reducible first|apply And.intro|intro _)|exact lexT|((try rw[qaa]);omega)
   rw[yaF]
 ·have e1:lo2 x y=x:=if_neg hxy;have e2:hi2 x y=y:=if_neg hxy;have hc:=b.and_cases x y;rw[e1,e2] at hc;rcases hc with⟨hc,hq⟩|⟨hc,hc2,hq⟩|⟨hc,hc2,hc3,hq⟩|⟨hc,hc2,hc3,hq⟩
  ·rw[hq];simp only[go_sem,seval,hxy,hx1,hy1]
   repeat' first|assumption|(simp (disch:=first|assumption|omega|(simp;done)|(simp;omega)) only[];try simp only[go_sem,seval,hx1,hy1])|(with_reducible first|apply And.intro|intro _)|exact lexT|((try rw[qaa]);omega)
  ·rw[hq];simp only[go_sem,seval,hxy,hx1,hy1]
   repeat' first|assumption|(simp (disch:=first|assumption|omega|(simp;done)|(simp;omega)) only[];try simp only[go_sem,seval,hx1,hy1])|(with_reducible first|apply And.intro|intro _)|exact lexT|((try rw[qaa]);omega)
  ·rw[hq,if_pos hc3] at *;simp only[go_sem,seval,hxy,hx1,hy1,hfx]
   repeat' first|assumption|(simp (disch:=first|assumption|omega|(simp;done)|(simp;omega)) only[];try simp only[go_sem,seval,hx1,hy1,hfx])|(with_reducible first|apply And.intro|intro _)|exact lexT|((try rw[qaa]);omega)
  ·rw[hq,if_neg hc3] at *
   have hup:=qiz hfx;have hlv:=b.lev_bd hb x y;simp only[go_sem,seval,hxy,hx1,hy1,hfx]
   repeat' first|assumption|(simp (disch:=first|assumption|omega|(simp;done)|(simp;omega)) only[];try simp only[go_sem,seval,hx1,hy1,hfx])|(with_reducible first|apply And.intro|intro _)|exact lexT|((try rw[qaa]);omega)
   refine qaP (n:=4) [6] (fsts [0,1,2,5,3,4] (.one 6 .done)) ?_;simp only[go_sem,seval,hup]
   repeat' first|assumption|(simp (disch:=first|assumption|omega|(simp;done)|(simp;omega)) only[];try simp only[go_sem,seval,hup])|(with_reducible first|apply And.intro|intro _)|exact lexT|((try rw[qaa]);omega)
   refine qaP (n:=4) [7,10] (fsts [0,1,2,3,4,5] (.one 6 (.one 7 (fsts [8,9] (.one 10 .done))))) ?_;simp only[go_sem,seval,hup]
   repeat' first|assumption|(simp (disch:=first|assumption|omega|(simp;done)|(simp;omega)) only[];try simp only[go_sem,seval,hup])|(with_reducible first|apply And.intro|intro _)|exact lexT|((try rw[qaa]);omega)
   refine qaP (n:=4) [24,27] (fsts [0,1,2,3,5,6,7,9,10,13,14,15,17,18,4,8,11,12,16,19,20,21,22] (.one 23 (.one 24 (fsts [25,26] (.one 27 .done))))) ?_;simp only[go_sem,seval,hup]
   repeat' first|assumption|(simp (disch:=first|assumption|omega|(simp;done)|(simp;omega)) only[];try simp only[go_sem,seval,hup])|(with_reducible first|apply And.intro|intro _)|exact lexT|((try rw[qaa]);omega)
   rw[yaF]
def Bld.xor (b:Bld) (x y:Int):Bld×Int:=
 let p:=b.and x y
 let q:=p.1.and (flip x) (flip y)
 q.1.and (flip p.2) (flip q.2)
theorem Bld.and_res {b:Bld}(hb:b.Ok) {x y:Int}(hx:0<=x/\x<2*((b.first+b.gates.length:Nat):Int)) (hy:0<=y/\y<2*((b.first+b.gates.length:Nat):Int)) :
  0<=(b.and x y).2/\(b.and x y).2<2*(((b.and x y).1.first+(b.and x y).1.gates.length:Nat):Int):=by
 have:=hb.fst;have hh:0<=hi2 x y/\hi2 x y<2*((b.first+b.gates.length:Nat):Int):=by unfold hi2;split <;> assumption
 rcases b.and_cases x y with⟨_,h⟩|⟨_,_,h⟩|⟨_,_,h3,h⟩|⟨_,_,_,h⟩
 ·rw[h];simp only;omega
 ·rw[h];simp only;omega
 ·rw[h];have:=qix h3;simp only;omega
 ·rw[h];simp only[yae,yaK];omega
theorem Tryz.c_xor (b:Bld) (hb:b.Ok) (hl:b.first+b.gates.length+3<=1000000) (x y:Int) (hx:0<=x/\x<2*((b.first+b.gates.length:Nat):Int)) (hy:0<=y/\y<2*((b.first+b.gates.length:Nat):Int)) :
  Proc prog 106 [.ptr 0 0,.d (dI x),.d (dI y)] (bH b) (.d (dI (b.xor x y).2)) (bH (b.xor x y).1):=by
 refine qmL (E:=env 4) tok rfl 1000 func106 rfl rfl ntmps106 (by simp) ?_;have hx1:((x.toNat ^^^ 1:Nat):Int)=flip x:=xor1 hx.1;have hy1:((y.toNat ^^^ 1:Nat):Int)=flip y:=xor1 hy.1;have h1:=b.and_ok hb x y (by omega);have r1:=b.and_res hb hx hy;have c1:=c_and b hb x y hx hy;unfold Bld.xor;simp only;generalize b.and x y=p at *
 obtain⟨b1,z1⟩:=p;simp only at h1 r1 c1 ⊢;have fx:=qcB (n:=((b1.first+b1.gates.length:Nat):Int)) (x:=x) (by omega);have fy:=qcB (n:=((b1.first+b1.gates.length:Nat):Int)) (x:=y) (by omega);have h2:=b1.and_ok h1.1 (flip x) (flip y) (by omega);have r2:=b1.and_res h1.1 fx fy;have c2:=c_and b1 h1.1 (flip x) (flip y) fx fy;generalize b1.and (flip x) (flip y)=p at *
 obtain⟨b2,z2⟩:=p;simp only at h2 r2 c2 ⊢;have fz1:=qcB (n:=((b2.first+b2.gates.length:Nat):Int)) (x:=z1) (by omega);have fz2:=qcB (n:=((b2.first+b2.gates.length:Nat):Int)) (x:=z2) (by omega);have c3:=c_and b2 h2.1 (flip z1) (flip z2) fz1 fz2;have hz1:((z1.toNat ^^^ 1:Nat):Int)=flip z1:=xor1 r1.1;have hz2:((z2.toNat ^^^ 1:Nat):Int)=flip z2:=xor1 r2.1;simp only[go_sem,seval];refine qa4 c1 [0,1,2,3] (by simp only[bH];simp only[go_sem,seval]) ?_;simp only[go_sem,seval,hx1,hy1,bH];refine⟨hx.1,hy.1,qa4 c2 [0,1,2,3] (by simp only[bH];simp only[go_sem,seval]) ?_⟩;simp only[go_sem,seval,hz1,hz2,bH];refine⟨r1.1,r2.1,qa4 c3 [0,1,2,3] (by simp only[bH];simp only[go_sem,seval]) ?_⟩;simp only[go_sem,seval,hz1,hz2,bH]
theorem Bld.xor_ok {b:Bld}(hb:b.Ok) {x y:Int}(hl:b.first+b.gates.length+3<=1000000) (hx:0<=x/\x<2*((b.first+b.gates.length:Nat):Int)) (hy:0<=y/\y<2*((b.first+b.gates.length:Nat):Int)) :
  (b.xor x y).1.Ok/\b.gates.length<=(b.xor x y).1.gates.length/\(b.xor x y).1.gates.length<=b.gates.length+3/\(b.xor x y).1.first=b.first/\0<=(b.xor x y).2/\(b.xor x y).2<2*(((b.xor x y).1.first+(b.xor x y).1.gates.length:Nat):Int):=by
 have h1:=b.and_ok hb x y (by omega);have r1:=b.and_res hb hx hy;unfold Bld.xor;simp only;generalize b.and x y=p at *
 obtain⟨b1,z1⟩:=p;simp only at h1 r1 ⊢;have fx:=qcB (n:=((b1.first+b1.gates.length:Nat):Int)) (x:=x) (by omega);have fy:=qcB (n:=((b1.first+b1.gates.length:Nat):Int)) (x:=y) (by omega);have h2:=b1.and_ok h1.1 (flip x) (flip y) (by omega);have r2:=b1.and_res h1.1 fx fy;generalize b1.and (flip x) (flip y)=p at *
 obtain⟨b2,z2⟩:=p;simp only at h2 r2 ⊢;have fz1:=qcB (n:=((b2.first+b2.gates.length:Nat):Int)) (x:=z1) (by omega);have fz2:=qcB (n:=((b2.first+b2.gates.length:Nat):Int)) (x:=z2) (by omega);have h3:=b2.and_ok h2.1 (flip z1) (flip z2) (by omega);have r3:=b2.and_res h2.1 fz1 fz2;exact⟨h3.1,by omega,by omega,by omega,r3⟩

theorem Tryz.c_litValue (v:List Bool) (l:Int) (h:0<=l/\l<2*v.length):Pure prog 198 [dBs v,dI l] (.bool (litV v l)):=by
 refine qav func198 rfl ntmps198 fun ok=>?_
 simp only[go_sem,seval] at ok
 repeat' first|assumption|(simp (disch:=first|assumption|omega|(simp;done)|(simp;omega)) only[go_sem,seval,qaC,yaa])|(with_reducible first|apply And.intro|intro _)|((try rw[qaa]);omega)
 simp only[land1 h.1];rfl
theorem Tryz.c_litValues (v:List Bool) (ls:List Int) (h : ∀ l∈ls,0<=l/\l<2*v.length) (hl:ls.length<=1000000):Pure prog 146 [dBs v,dIs ls] (dBs (qbs v ls)):=by
 refine qav func146 rfl ntmps146 fun ok=>?_
 simp only[go_sem,seval] at ok
 repeat' first|assumption|(simp (disch:=first|assumption|omega|(simp;done)|(simp;omega)) only[go_sem,seval,qaC,yaa])|(with_reducible first|apply And.intro|intro _)|((try rw[qaa]);omega)
 refine qay (E:=env 0) tok (σ:=Nat) (fun i=>[(0,.d (dBs v)),(5,.sl 0 i 1 0 i),(11,.d (dIs ls)),(12,.d (dI ls.length)),(13,.d (dI i))]) (fun i=>[.row i 1 true ((qbs v (ls.take i)).map D.bool)]) (fun i=>i<=ls.length) (fun i=>ls.length-i) [] 1000 1000 ?_ ?_ ?_
 ·simp only[go_sem,seval]
 ·simp only[go_sem,seval];exact⟨0,by simp[qbs]⟩
 ·intro i hi;simp only[go_sem,seval];have hl2:(qbs v (ls.take i)).length=i:=by simp[qbs];omega
  by_cases hlt:i<ls.length
  ·have hx:=h (ls.getD i 0) (qac hlt)
   repeat' first|assumption|(simp (disch:=first|assumption|omega|(simp;done)|(simp;omega)) only[go_sem,seval,qaC,yaa])|(with_reducible first|apply And.intro|intro _)|(refine qab (c_litValue v _ hx) ?_)|((try rw[qaa]);omega)
   refine⟨i+1,by omega,by omega,rfl,rfl,?_⟩;rw[yal hlt];simp only[qbs,yaE,yaI,List.map_nil,List.getD,List.getElem?_eq_getElem hlt,yaf]
  ·have:=qdV (v:=v) (ls:=ls)
   repeat' first|assumption|(simp (disch:=first|assumption|omega|(simp;done)|(simp;omega)) only[go_sem,seval,qaC,yaa])|(with_reducible first|apply And.intro|intro _)|((try rw[qaa]);omega)
def qql (c:Circ) (rows:List (List Bool)):Prop:=c.Valid/\rows.length<=40/\∀ r∈rows,(r.length:Int)=c.inputs
noncomputable instance (c:Circ) (rows:List (List Bool)):Decidable (qql c rows):=Classical.propDecidable _
theorem Tryz.c_rowsFit (c:Circ) (rows:List (List Bool)):Pure prog 78 [pC c,dBss rows] (.bool (decide (qql c rows))):=by
 refine qav func78 rfl ntmps78 fun ok=>?_
 simp only[go_sem,seval] at ok
 repeat' first|assumption|(simp (disch:=first|assumption|omega|(simp;done)|(simp;omega)) only[go_sem,seval,qaC,yaa])|(with_reducible first|apply And.intro|intro _)|(refine qab (c_CircuitValid c) ?_)|((try rw[qaa]);omega)
 ·rename_i h;simp only[false_eq_decide_iff];rintro⟨h1,h2,h3⟩;rcases h with h|h
  ·exact h h1
  ·omega
 rename_i h;refine qay (E:=env 0) tok (σ:=Nat) (fun i=>[(0,.d (pC c)),(17,.d (dBss rows)),(18,.d (dI rows.length)),(19,.d (dI i))]) (fun _=>[]) (fun i=>i<=rows.length/\∀ j,j<i->((rows.getD j []).length:Int)=c.inputs) (fun i=>rows.length-i) [] 1000 1000 ?_ ?_ ?_
 ·simp only[go_sem,seval]
 ·simp only[go_sem,seval];exact⟨0,⟨by omega,by omega⟩,rfl⟩
 ·rintro i ⟨hi,hinv⟩
  repeat' first|assumption|(simp (disch:=first|assumption|omega|(simp;done)|(simp;omega)) only[go_sem,seval,qaC,yaa])|(with_reducible first|apply And.intro|intro _)|((try rw[qaa]);omega)
  ·rename_i h1 h2;simp only[false_eq_decide_iff];rintro⟨_,_,h3⟩;exact h2 (h3 _ (qac h1))
  ·rename_i h1 h2;refine⟨i+1,⟨by omega,fun j hj=>?_⟩,by omega,rfl⟩;by_cases hji:j=i
   ·subst hji;exact h2
   ·exact hinv j (by omega)
  ·simp only[true_eq_decide_iff];exact⟨h.1,by omega,(qku []).2 fun j hj=>hinv j (by omega)⟩
theorem Tryz.c_evaluate (c:Circ) (hv:c.Valid) (st ins:List Bool) (h1:st.length=c.next.length) (h2:(ins.length:Int)=c.inputs) (b:Bool) :
  Pure prog 197 [pC c,dBs st,dBs ins,dI (-1),dB b] (dBs (values c st ins)):=by
 refine qav func197 rfl ntmps197 fun ok=>?_
 simp only[go_sem,seval] at ok⊢;have hb:=hv.vars_bd;have hf:=hv.first_bd;have hi0:=hv.i0;have hi1:=hv.i1;have hvv:c.vars=1+(ins.length:Int)+st.length+c.gates.length:=by rw[h2,h1];rfl
 have e0:(1+c.inputs).toNat=1+ins.length:=by omega
 have e1:c.vars.toNat=1+ins.length+st.length+c.gates.length:=by omega
 repeat' first|assumption|(simp (disch:=first|assumption|omega|(simp;done)|(simp;omega)) only[go_sem,seval,qaC,yaa])|(with_reducible first|apply And.intro|intro _)|(refine qab (c_vars c (by omega)) ?_)|((try rw[qaa]);omega)
 ·rw[qoJ (by simp;omega)];simp;omega
 rw[e0,e1,qoK false ins st _ (by omega),show 1+ins.length+st.length+c.gates.length-(1+ins.length+st.length)=c.gates.length by omega];refine qay (E:=env 0) tok (σ:=Nat) (fun i=>[(0,.d (pC c)),(3,.d (dI (-1))),(11,.sl 0 0 1 0 (1+ins.length+st.length+c.gates.length)),(40,.d (dPs c.gates)),(41,.d (dI c.gates.length)),(42,.d (dI i))]) (fun i=>[.row 0 1 true ((qcW c st ins i++List.replicate (c.gates.length-i) false).map D.bool)]) (fun i=>i<=c.gates.length) (fun i=>c.gates.length-i) [] 1000 1000 ?_ ?_ ?_
 ·simp only[go_sem,seval]
 ·simp only[go_sem,seval];exact⟨0,by simp[qgT]⟩
 ·intro i hi;have hln:=qe1 c st ins i;by_cases hlt:i<c.gates.length
  ·obtain⟨g1,g2⟩:=hv.g i hlt;unfold qaK at g1 g2;have hfe:c.first=1+ins.length+st.length:=by rw[Circ.first];omega
   have q1:litV (qcW c st ins i++List.replicate (c.gates.length-i) false) (c.gates.getD i (0,0)).1=litV (qcW c st ins i) (c.gates.getD i (0,0)).1:=qkv g1.1 (by omega);have q2:litV (qcW c st ins i++List.replicate (c.gates.length-i) false) (c.gates.getD i (0,0)).2=litV (qcW c st ins i) (c.gates.getD i (0,0)).2:=qkv g2.1 (by omega);have hlen:(qcW c st ins i++List.replicate (c.gates.length-i) false).length=1+ins.length+st.length+c.gates.length:=by simp;omega
   repeat' first|assumption|(simp (disch:=first|assumption|omega|(simp;done)|(simp;omega)) only[go_sem,seval,qaC,yaa])|(with_reducible first|apply And.intro|intro _)|(refine qab (c_firstGate c (by omega)) ?_)|(refine qab (c_litValue _ _ (by rw[hlen];omega)) ?_)|(refine qaR (fun _=>c_litValue _ _ (by rw[hlen];omega)) ?_)|((try rw[qaa]);omega)
   refine⟨i+1,by omega,by omega,rfl,?_⟩;rw[q1,q2,show(c.first+(i:Int)).toNat=(qcW c st ins i).length by omega,qgS rfl (by omega),Nat.sub_sub];rfl
  ·repeat' first|assumption|(simp (disch:=first|assumption|omega|(simp;done)|(simp;omega)) only[go_sem,seval,qaC,yaa])|(with_reducible first|apply And.intro|intro _)|((try rw[qaa]);omega)
   rw[values,show i=c.gates.length by omega,Nat.sub_self];simp
def qbj (c:Circ) (rows:List (List Bool)):Nat->List Bool
 | 0=>List.replicate c.next.length false
 | i+1=>qbs (values c (qbj c rows i) (rows.getD i [])) c.next
def qda (c:Circ) (rows:List (List Bool)) (i:Nat):List Bool:=values c (qbj c rows i) (rows.getD i [])

theorem qqm {P:Nat->Prop}{n i:Nat}(h1:i<n) (h2:P i) (hinv : ∀ j,j<i->P j) : ∃ s',(s'<=n/\∀ j,j<s'->P j)/\n-s'<n-i/\i+1=s':=
 ⟨i+1,⟨by omega,fun j hj=>by
  by_cases h:j=i
  ·subst h;exact h2
  ·exact hinv j (by omega)⟩,by omega,rfl⟩
end Go.Proofs

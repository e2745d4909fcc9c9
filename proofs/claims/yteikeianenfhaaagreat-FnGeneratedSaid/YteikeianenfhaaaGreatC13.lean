/- Contracts, plain definitions and lemmas. Conditions: none; lemmas. -/
import Derived.Test.YteikeianenfhaaaGreatC11
import Derived.Test.YteikeianenfhaaaGreatVM8
set_option maxRecDepth 20000
set_option linter.unusedSimpArgs false
set_option linter.unusedVariables false
set_option maxHeartbeats 2000000
namespace Go.Proofs
open Go Go.VL Tryz
structure AdS where
 b:Bld
 carry:Int
 outs:List Int
def qqn (n i:Nat) (s:AdS):AdS:=
 let p:=s.b.xor (2*(1+i)) (2*(1+n+i))
 let q:=p.1.xor p.2 s.carry
 let g:=q.1.and (2*(1+i)) (2*(1+n+i))
 let h:=g.1.and p.2 s.carry
 let e:=h.1.and (flip g.2) (flip h.2)
 ⟨e.1,flip e.2,s.outs ++ [q.2]⟩
def adSt (n:Nat):Nat->AdS
 | 0=>⟨Bld.new (1+2*n+0),0,[]⟩
 | i+1=>qqn n i (adSt n i)
def qjI (n:Int):Circ:=if n<1∨2<n then Circ.zero else⟨2*n,[],(adSt n.toNat n.toNat).b.gates,(adSt n.toNat n.toNat).outs ++ [(adSt n.toNat n.toNat).carry]⟩
def bN1 (b:Bld):List R:=[.row b.gates.length 1 true (b.levels.map (D.int .i64)),.map (qb9 b.first 0 b.gates),.box [.d (dI b.first),.sl 4 b.gates.length 2 0 b.gates.length,.sl 1 b.gates.length 1 0 (b.first+b.gates.length),.map 2],.row b.gates.length 2 true (b.gates.map dP)]
structure AdOk (n i:Nat) (s:AdS):Prop where
 ok:s.b.Ok
 fst:s.b.first=1+2*n
 len:s.b.gates.length<=9*i
 c:0<=s.carry/\s.carry<2*((s.b.first+s.b.gates.length:Nat):Int)
 o:s.outs.length=i
def Bld.lit (b:Bld) (x:Int):Prop:=0<=x/\x<2*((b.first+b.gates.length:Nat):Int)
theorem qnO {n i:Nat}{s:AdS}(h:AdOk n i s) (hi:i<n) (hn:n<=2) : ∃ b1 z1 b2 z2 b3 z3 b4 z4 b5 z5,s.b.xor (2*(1+(i:Int))) (2*(1+(n:Int)+(i:Int)))=(b1,z1)/\b1.xor z1 s.carry=(b2,z2)/\
  b2.and (2*(1+(i:Int))) (2*(1+(n:Int)+(i:Int)))=(b3,z3)/\b3.and z1 s.carry=(b4,z4)/\b4.and (flip z3) (flip z4)=(b5,z5)/\qqn n i s=⟨b5,flip z5,s.outs ++ [z2]⟩/\
  (b1.Ok/\b1.first=s.b.first/\s.b.gates.length<=b1.gates.length/\b1.gates.length<=s.b.gates.length+3/\0<=z1)/\
  (b2.Ok/\b2.first=s.b.first/\b1.gates.length<=b2.gates.length/\b2.gates.length<=s.b.gates.length+6/\z1<2*((b1.first+b1.gates.length:Nat):Int))/\
  (b3.Ok/\b3.first=s.b.first/\b2.gates.length<=b3.gates.length/\b3.gates.length<=s.b.gates.length+7/\0<=z3/\z3<2*((b3.first+b3.gates.length:Nat):Int))/\
  (b4.Ok/\b4.first=s.b.first/\b3.gates.length<=b4.gates.length/\b4.gates.length<=s.b.gates.length+8/\0<=z4/\z4<2*((b4.first+b4.gates.length:Nat):Int))/\
  (b5.Ok/\b5.first=s.b.first/\b4.gates.length<=b5.gates.length/\b5.gates.length<=s.b.gates.length+9/\0<=z5/\z5<2*((b5.first+b5.gates.length:Nat):Int)):=by
 obtain⟨ok,fst,len,c,o⟩:=h;have h1:=Bld.xor_ok ok (x:=2*(1+i)) (y:=2*(1+n+i)) (by omega) (by omega) (by omega);unfold qqn;simp only;generalize s.b.xor (2*(1+(i:Int))) (2*(1+(n:Int)+(i:Int)))=p at *
 obtain⟨b1,z1⟩:=p;simp only at h1 ⊢;have h2:=Bld.xor_ok h1.1 (x:=z1) (y:=s.carry) (by omega) (by omega) (by omega);generalize e2:b1.xor z1 s.carry=p at *
 obtain⟨b2,z2⟩:=p;simp only at h2 ⊢;have h3:=Bld.and_ok h2.1 (2*(1+(i:Int))) (2*(1+(n:Int)+(i:Int))) (by omega);have r3:=Bld.and_res h2.1 (x:=2*(1+(i:Int))) (y:=2*(1+(n:Int)+(i:Int))) (by omega) (by omega);generalize e3:b2.and (2*(1+(i:Int))) (2*(1+(n:Int)+(i:Int)))=p at *
 obtain⟨b3,z3⟩:=p;simp only at h3 r3 ⊢;have h4:=Bld.and_ok h3.1 z1 s.carry (by omega);have r4:=Bld.and_res h3.1 (x:=z1) (y:=s.carry) (by omega) (by omega);generalize e4:b3.and z1 s.carry=p at *
 obtain⟨b4,z4⟩:=p;simp only at h4 r4 ⊢;have f3:=qcB (n:=((b4.first+b4.gates.length:Nat):Int)) (x:=z3) (by omega);have f4:=qcB (n:=((b4.first+b4.gates.length:Nat):Int)) (x:=z4) (by omega);have h5:=Bld.and_ok h4.1 (flip z3) (flip z4) (by omega);have r5:=Bld.and_res h4.1 f3 f4;generalize e5:b4.and (flip z3) (flip z4)=p at *
 obtain⟨b5,z5⟩:=p;simp only at h5 r5 ⊢;refine⟨b1,z1,b2,z2,b3,z3,b4,z4,b5,z5,rfl,e2,e3,e4,e5,?_,⟨h1.1,by omega,by omega,by omega,by omega⟩,⟨h2.1,by omega,by omega,by omega,by omega⟩,⟨h3.1,by omega,by omega,by omega,r3⟩,⟨h4.1,by omega,by omega,by omega,r4⟩,⟨h5.1,by omega,by omega,by omega,r5⟩⟩;rfl
theorem qqo {n:Nat}(hn:n<=2) : ∀ i,i<=n->AdOk n i (adSt n i)
 | 0,_=>⟨Bld.new_ok (by omega),rfl,by simp[adSt,Bld.new],by simp[adSt,Bld.new];omega,rfl⟩
 | i+1,hi=>by
  have h:=qqo hn i (by omega);obtain⟨b1,z1,b2,z2,b3,z3,b4,z4,b5,z5,e1,e2,e3,e4,e5,e6,k1,k2,k3,k4,k5⟩:=qnO h (by omega) hn;obtain⟨ok,fst,len,c,o⟩:=h;rw[adSt,e6];have f5:=qcB (n:=((b5.first+b5.gates.length:Nat):Int)) (x:=z5) (by omega);exact⟨k5.1,by simp only;omega,by simp only;omega,f5,by simp[o]⟩
theorem Tryz.c_Adder (n:Int):Pure prog 45 [dI n] (dC (qjI n)):=by
 refine qav func45 rfl ntmps45 fun ok=>?_
 simp only[go_sem,seval] at ok⊢;refine⟨fun h=>?_,fun h=>?_⟩
 ·rw[qjI,if_pos (by omega)];simp[Circ.zero]
 repeat' first|assumption|(simp (disch:=first|assumption|omega|(simp;done)|(simp;omega)) only[yaa,qaj];try simp only[go_sem,seval])|(with_reducible first|apply And.intro|intro _)|((try rw[qaa]);omega)
 have c0:=c_newBuilder (2*n.toNat) 0 (by omega);have e0:((2*n.toNat:Nat):Int)=2*n:=by omega
 rw[e0] at c0;refine qa4 c0 [] (by simp only[go_sem,seval]) ?_;simp only[go_sem,seval,bN];refine qay (E:=env 0) tok (σ:=Nat) (fun i=>[(0,.d (dI n)),(2,.ptr 0 0),(3,.ptr 3 0),(4,.d (dI (adSt n.toNat i).carry)),(5,.sl 5 i 1 0 i),(20,.d (dI n)),(21,.d (dI i))])
  (fun i=>.box [.d (dI 0),.d .nil,.d .nil,.d .nil]::(bN1 (adSt n.toNat i).b ++ [.row i 1 true ((adSt n.toNat i).outs.map (D.int .i64))])) (fun i=>i<=n.toNat) (fun i=>n.toNat-i) [(5,1,true)] 1000 1000 ?_ ?_ ?_
 ·simp only[go_sem,seval]
 ·simp only[go_sem,seval,bN1];refine⟨0,by omega,?_⟩;simp only[go_sem,seval,bN1,adSt,yaP]
 ·intro i hi;have ho:=qqo (n:=n.toNat) (by omega) i hi;have hol:=ho.o;simp only[go_sem,seval,bN1]
  repeat' first|assumption|(simp (disch:=first|assumption|omega|(simp;done)|(simp;omega)) only[yaa,qaj];try simp only[go_sem,seval])|(with_reducible first|apply And.intro|intro _)|((try rw[qaa]);omega)
  ·obtain⟨b1,z1,b2,z2,b3,z3,b4,z4,b5,z5,e1,e2,e3,e4,e5,e6,k1,k2,k3,k4,k5⟩:=qnO ho (by omega) (by omega);rw[show((n.toNat:Nat):Int)=n by omega] at e1 e3;have hstep:adSt n.toNat (i+1)=⟨b5,flip z5,(adSt n.toNat i).outs ++ [z2]⟩:=by rw[adSt,e6]
   obtain⟨ok1,fst1,len1,cc,oo⟩:=ho;have g1:=c_xor (adSt n.toNat i).b ok1 (by omega) (2*(1+(i:Int))) (2*(1+n+(i:Int))) (by omega) (by omega);rw[e1] at g1;have g2:=c_xor b1 k1.1 (by omega) z1 (adSt n.toNat i).carry (by omega) (by omega);rw[e2] at g2;have g3:=c_and b2 k2.1 (2*(1+(i:Int))) (2*(1+n+(i:Int))) (by omega) (by omega);rw[e3] at g3;have g4:=c_and b3 k3.1 z1 (adSt n.toNat i).carry (by omega) (by omega);rw[e4] at g4;have f3:=qcB (n:=((b4.first+b4.gates.length:Nat):Int)) (x:=z3) (by omega);have f4:=qcB (n:=((b4.first+b4.gates.length:Nat):Int)) (x:=z4) (by omega);have g5:=c_and b4 k4.1 (flip z3) (flip z4) f3 f4;rw[e5] at g5;have x3:((z3.toNat ^^^ 1:Nat):Int)=flip z3:=xor1 (by omega);have x4:((z4.toNat ^^^ 1:Nat):Int)=flip z4:=xor1 (by omega);have x5:((z5.toNat ^^^ 1:Nat):Int)=flip z5:=xor1 (by omega);refine qa4 g1 [3,4,1,2] (by simp only[bH];simp only[go_sem,seval]) ?_;simp only[go_sem,seval,bH];refine qa4 g2 [3,4,1,2] (by simp only[bH];simp only[go_sem,seval]) ?_;simp only[go_sem,seval,bH]
   repeat' first|assumption|(simp (disch:=first|assumption|omega|(simp;done)|(simp;omega)) only[yaa,qaj];try simp only[go_sem,seval])|(with_reducible first|apply And.intro|intro _)|((try rw[qaa]);omega)
   refine qa4 g3 [3,4,1,2] (by simp only[bH];simp only[go_sem,seval]) ?_;simp only[go_sem,seval,bH,x3]
   repeat' first|assumption|(simp (disch:=first|assumption|omega|(simp;done)|(simp;omega)) only[yaa,qaj];try simp only[go_sem,seval])|(with_reducible first|apply And.intro|intro _)|((try rw[qaa]);omega)
   refine qa4 g4 [3,4,1,2] (by simp only[bH];simp only[go_sem,seval]) ?_;simp only[go_sem,seval,bH,x3,x4]
   repeat' first|assumption|(simp (disch:=first|assumption|omega|(simp;done)|(simp;omega)) only[yaa,qaj];try simp only[go_sem,seval])|(with_reducible first|apply And.intro|intro _)|((try rw[qaa]);omega)
   refine qa4 g5 [3,4,1,2] (by simp only[bH];simp only[go_sem,seval]) ?_;simp only[go_sem,seval,bH,x5]
   repeat' first|assumption|(simp (disch:=first|assumption|omega|(simp;done)|(simp;omega)) only[yaa,qaj];try simp only[go_sem,seval])|(with_reducible first|apply And.intro|intro _)|((try rw[qaa]);omega)
   refine⟨i+1,by omega,by omega,?_⟩;rw[hstep];simp
  ·obtain rfl:i=n.toNat:=by omega
   refine qaP (n:=0) [9,11] (fsts [0,1,2,3,4,6,7] (.two 5 (.one 8 (.one 9 (.fst 10 (.one 11 .done)))) 8 (.two 5 (.one 9 (.fst 10 (.one 11 .done))) 9 (.one 5 (.fst 10 (.one 11 .done)))))) ?_;simp only[go_sem,seval]
   repeat' first|assumption|(simp (disch:=first|assumption|omega|(simp;done)|(simp;omega)) only[yaa,qaj];try simp only[go_sem,seval])|(with_reducible first|apply And.intro|intro _)|((try rw[qaa]);omega)
   all_goals (rw[qjI,if_neg (by omega)])
   rfl
def cFst (c:Circ):Nat:=c.inputs.toNat+c.next.length+1
def andR (c:Circ) (a b:Int):Circ×Int:=(⟨c.inputs,c.next,(andG (cFst c) c.gates a b).1,c.outs⟩,(andG (cFst c) c.gates a b).2)
theorem qoP (c:Circ) (x y:Int):((lo2 x y=0∨lo2 x y=flip (hi2 x y))/\andR c x y=(c,0))∨
  (¬ (lo2 x y=0∨lo2 x y=flip (hi2 x y))/\(lo2 x y=1∨lo2 x y=hi2 x y)/\andR c x y=(c,hi2 x y))∨
  (¬ (lo2 x y=0∨lo2 x y=flip (hi2 x y))/\¬ (lo2 x y=1∨lo2 x y=hi2 x y)/\
   (
    ((lo2 x y,hi2 x y)∈c.gates/\andR c x y=(c,2*((cFst c:Int)+(idx2 c.gates (lo2 x y,hi2 x y):Nat))))∨
    ((lo2 x y,hi2 x y)∉c.gates/\andR c x y=(⟨c.inputs,c.next,c.gates ++ [(lo2 x y,hi2 x y)],c.outs⟩,2*((cFst c:Int)+(c.gates.length:Nat)))))):=by
 unfold andR andG;by_cases h1:lo2 x y=0∨lo2 x y=flip (hi2 x y)
 ·left;simp only[if_pos h1,if_true];exact⟨h1,trivial⟩
 ·right;by_cases h2:lo2 x y=1∨lo2 x y=hi2 x y
  ·left;simp only[if_neg h1,if_pos h2,if_true];exact⟨h1,h2,trivial⟩
  ·right;by_cases h3:(lo2 x y,hi2 x y)∈c.gates
   ·simp only[if_neg h1,if_neg h2,if_pos h3];exact⟨h1,h2,.inl ⟨h3,trivial⟩⟩
   ·simp only[if_neg h1,if_neg h2,if_neg h3];exact⟨h1,h2,.inr ⟨h3,trivial⟩⟩
structure Mk (c:Circ):Prop where
 i:0<=c.inputs/\c.inputs<=1000
 n:c.next.length<=1000
def litR (c:Circ) (x:Int):Prop:=0<=x/\x<2*((cFst c+c.gates.length:Nat):Int)
theorem andR_ok {c:Circ}(h:Mk c) {x y:Int}(hx:litR c x) (hy:litR c y):Mk (andR c x y).1/\cFst (andR c x y).1=cFst c/\c.gates.length<=(andR c x y).1.gates.length/\(andR c x y).1.gates.length<=c.gates.length+1/\litR (andR c x y).1 (andR c x y).2:=by
 have hh:litR c (hi2 x y):=by unfold hi2;split <;> assumption
 have hp:1<=cFst c:=by unfold cFst;omega
 unfold litR at *
 rcases qoP c x y with⟨_,q⟩|⟨_,_,q⟩|⟨_,_,⟨hm,q⟩|⟨_,q⟩⟩
 ·rw[q];exact⟨h,rfl,by simp,by simp,by simp only;omega⟩
 ·rw[q];exact⟨h,rfl,by simp,by simp,by simp only;omega⟩
 ·rw[q];have:=qix hm;exact⟨h,rfl,by simp,by simp,by simp only;omega⟩
 ·rw[q];exact⟨⟨h.i,h.n⟩,rfl,by simp,by simp,by
   simp only[yae,yaK];have e:cFst ⟨c.inputs,c.next,c.gates ++ [(lo2 x y,hi2 x y)],c.outs⟩=cFst c:=rfl;rw[e];omega⟩

def tern (x:Int):Prop:=0<=x/\x<=2
instance (x:Int):Decidable (tern x):=by unfold tern;infer_instance
def ternL (l:List Int):Prop:=∀ x∈l,tern x
noncomputable instance (l:List Int):Decidable (ternL l):=Classical.propDecidable _
theorem ternL.get {l:List Int}(h:ternL l) (i:Nat):tern (l.getD i 0):=by
 by_cases hi:i<l.length
 ·exact h _ (qac hi)
 ·rw[List.getD_eq_getElem?_getD,List.getElem?_eq_none (by omega)];exact⟨by simp,by simp⟩
def evOk (c:Circ) (st ins:List Int):Prop:=c.Valid/\st.length=c.next.length/\(ins.length:Int)=c.inputs/\ternL st/\ternL ins
noncomputable instance (c:Circ) (st ins:List Int):Decidable (evOk c st ins):=Classical.propDecidable _

@[go_sem] theorem two_get {k:IntKind}{a b z:Int}{m:Nat}:[D.int k a,D.int k b].getD m (D.int k z)=D.int k ([a,b].getD m z):=by
 rcases m with _|_|m <;> rfl

def qqp (c:Circ):Prop:=c.Valid/\0<c.next.length/\c.inputs<=2/\c.outs.length<3/\c.gates.length+3*c.next.length<=14
noncomputable instance (c:Circ):Decidable (qqp c):=Classical.propDecidable _
def cmap (f:Int->Int) (c:Circ):Circ:=⟨c.inputs,c.next.map f,c.gates.map (fun p=>(f p.1,f p.2)),c.outs.map f⟩
theorem qep {α β : Type}(f : α->β) {l:List α}{i:Nat}(z : α) (h:i<l.length):(l.take (i+1)).map f=(l.take i).map f ++ [f (l.getD i z)]:=by
 rw[yal h,yaE];simp only[yaI,List.map_nil,List.getD,List.getElem?_eq_getElem h,yaf]
@[go_sem] theorem views_ds {H:List R}{ds:List D}:qeT H (ds.map .d)=some (True,ds):=by
 induction ds with
 | nil=>rfl
 | cons x r ih=>
  rw[yaI,qoD,ih];simp[go_sem]
theorem Tryz.c_replaced (c:Circ) (g:Nat) (ds:List D) (h:Int->Int) (hg:(env 0).pf g=.own) (hl:c.next.length<=1000000/\c.gates.length<=1000000/\c.outs.length<=1000000)
  (hn : ∀ l∈c.next,Pure prog g (dI l::ds) (dI (h l))) (ho : ∀ l∈c.outs,Pure prog g (dI l::ds) (dI (h l)))
  (hga : ∀ p∈c.gates,Pure prog g (dI p.1::ds) (dI (h p.1))/\Pure prog g (dI p.2::ds) (dI (h p.2))) :
  Pure prog 203 [pC c,.fn g ds] (dC (cmap h c)):=by
 refine qav func203 rfl ntmps203 fun ok=>?_
 simp only[go_sem,seval] at ok⊢;refine qdD (E:=env 0) tok (σ:=Nat) (fun i=>[(0,.d (pC c)),(1,.d (.fn g ds)),(4,.ptr 0 0),(5,.ptr 1 0),(20,.d (dIs c.next)),(21,.d (dI c.next.length)),(22,.d (dI i))])
  (fun i=>[.box [.d (dI 0),.d .nil,.d .nil,.d .nil],.box [.d (dI c.inputs),.sl 2 i 1 0 i,.d .nil,.d .nil],.row i 1 true (((c.next.take i).map h).map (D.int .i64))])
  (fun i=>i<=c.next.length) (fun i=>c.next.length-i) [(1,1,1,true)] [] 1000 1000 ?_ ?_ ?_ ?_
 ·simp only[go_sem,seval]
 ·simp only[go_sem,seval]
 ·simp only[go_sem,seval];exact⟨0,by omega,rfl,by simp⟩
 ·intro i hi;by_cases hlt:i<c.next.length
  ·have hx:=hn _ (qac (z:=0) hlt);have hli:(c.next.take i).length=i:=by simp;omega
   repeat' first|assumption|(simp (disch:=first|assumption|omega|(simp;done)|(simp;omega)) only[go_sem,seval,yaa])|(with_reducible first|apply And.intro|intro _)|((try rw[qaa]);omega)
   refine qaP (n:=0) [6,8] (fsts [0,2,3,1] (.one 4 (.one 5 (.one 6 (.fst 7 (.one 8 .done)))))) ?_;simp only[go_sem,seval,hg];refine qab hx ?_;simp only[go_sem,seval,hg]
   repeat' first|assumption|(simp (disch:=first|assumption|omega|(simp;done)|(simp;omega)) only[go_sem,seval,yaa])|(with_reducible first|apply And.intro|intro _)|((try rw[qaa]);omega)
   exact⟨i+1,by omega,by omega,rfl,rfl,rfl,(qep h 0 hlt).symm⟩
  ·repeat' first|assumption|(simp (disch:=first|assumption|omega|(simp;done)|(simp;omega)) only[go_sem,seval,yaa])|(with_reducible first|apply And.intro|intro _)|((try rw[qaa]);omega)
   refine qdD (E:=env 0) tok (σ:=Nat) (fun j=>[(0,.d (pC c)),(1,.d (.fn g ds)),(4,.ptr 0 0),(5,.ptr 1 0),(38,.d (dPs c.gates)),(39,.d (dI c.gates.length)),(40,.d (dI j))])
    (fun j=>[.box [.d (dI 0),.d .nil,.d .nil,.d .nil],.box [.d (dI c.inputs),.sl 2 i 1 0 i,.sl 3 j 2 0 j,.d .nil],.row i 1 true ((c.next.map h).map (D.int .i64)),.row j 2 true (((c.gates.take j).map (fun p=>(h p.1,h p.2))).map dP)])
    (fun j=>j<=c.gates.length) (fun j=>c.gates.length-j) [(1,2,2,true)] [] 1000 1000 ?_ ?_ ?_ ?_
   ·simp only[go_sem,seval]
   ·simp only[go_sem,seval]
   ·simp only[go_sem,seval];exact⟨0,by omega,rfl,by simp⟩
   ·intro j hj;by_cases hlt:j<c.gates.length
    ·obtain⟨hx1,hx2⟩:=hga _ (qac (z:=(0,0)) hlt);have hli:(c.gates.take j).length=j:=by simp;omega
     repeat' first|assumption|(simp (disch:=first|assumption|omega|(simp;done)|(simp;omega)) only[go_sem,seval,yaa])|(with_reducible first|apply And.intro|intro _)|((try rw[qaa]);omega)
     refine qaP (n:=0) [12,14] (fsts [0,2,3,6,7,1,4,8] (.one 5 (.one 9 (.fst 10 (.one 11 (.one 12 (.fst 13 (.one 14 .done)))))))) ?_;simp only[go_sem,seval,hg];refine qab hx1 ?_;simp only[go_sem,seval,hg];refine qab hx2 ?_;simp only[go_sem,seval,hg]
     repeat' first|assumption|(simp (disch:=first|assumption|omega|(simp;done)|(simp;omega)) only[go_sem,seval,yaa])|(with_reducible first|apply And.intro|intro _)|((try rw[qaa]);omega)
     exact⟨j+1,by omega,by omega,rfl,rfl,rfl,(qep (fun p:Int×Int=>(h p.1,h p.2)) (0,0) hlt).symm⟩
    ·repeat' first|assumption|(simp (disch:=first|assumption|omega|(simp;done)|(simp;omega)) only[go_sem,seval,yaa])|(with_reducible first|apply And.intro|intro _)|((try rw[qaa]);omega)
     refine qdD (E:=env 0) tok (σ:=Nat) (fun m=>[(0,.d (pC c)),(1,.d (.fn g ds)),(4,.ptr 0 0),(5,.ptr 1 0),(62,.d (dIs c.outs)),(63,.d (dI c.outs.length)),(64,.d (dI m))])
      (fun m=>[.box [.d (dI 0),.d .nil,.d .nil,.d .nil],.box [.d (dI c.inputs),.sl 2 i 1 0 i,.sl 3 j 2 0 j,.sl 4 m 1 0 m],.row i 1 true ((c.next.map h).map (D.int .i64)),.row j 2 true ((c.gates.map (fun p=>(h p.1,h p.2))).map dP),.row m 1 true (((c.outs.take m).map h).map (D.int .i64))])
      (fun m=>m<=c.outs.length) (fun m=>c.outs.length-m) [(1,3,1,true)] [] 1000 1000 ?_ ?_ ?_ ?_
     ·simp only[go_sem,seval]
     ·simp only[go_sem,seval]
     ·simp only[go_sem,seval];exact⟨0,by omega,rfl,by simp⟩
     ·intro m hm;by_cases hlt:m<c.outs.length
      ·have hx:=ho _ (qac (z:=0) hlt);have hli:(c.outs.take m).length=m:=by simp;omega
       repeat' first|assumption|(simp (disch:=first|assumption|omega|(simp;done)|(simp;omega)) only[go_sem,seval,yaa])|(with_reducible first|apply And.intro|intro _)|((try rw[qaa]);omega)
       refine qaP (n:=0) [6,8] (fsts [0,2,3,1] (.one 4 (.one 5 (.one 6 (.fst 7 (.one 8 .done)))))) ?_;simp only[go_sem,seval,hg];refine qab hx ?_;simp only[go_sem,seval,hg]
       repeat' first|assumption|(simp (disch:=first|assumption|omega|(simp;done)|(simp;omega)) only[go_sem,seval,yaa])|(with_reducible first|apply And.intro|intro _)|((try rw[qaa]);omega)
       exact⟨m+1,by omega,by omega,rfl,rfl,rfl,(qep h 0 hlt).symm⟩
      ·repeat' first|assumption|(simp (disch:=first|assumption|omega|(simp;done)|(simp;omega)) only[go_sem,seval,yaa])|(with_reducible first|apply And.intro|intro _)|((try rw[qaa]);omega)
       all_goals rfl
theorem Tryz.c_EvalVars (c:Circ) (st ins:List Bool) (hv:c.Valid) (h1:st.length=c.next.length) (h2:(ins.length:Int)=c.inputs):Pure prog 145 [dC c,dBs st,dBs ins] (dBs (values c st ins)):=by
 refine qav func145 rfl ntmps145 fun ok=>?_
 simp only[go_sem,seval] at ok
 repeat' first|assumption|(simp (disch:=first|assumption|omega|(simp;done)|(simp;omega)) only[go_sem,seval,yaa])|(with_reducible first|apply And.intro|intro _)|(refine qab (c_CircuitValid c) ?_)|(refine qbr (c_evaluate c hv st ins h1 h2 _) ?_)|((try rw[qaa]);omega)
 rename_i h5;exfalso;rcases h5 with(h5|h5)|h5 <;> exact h5 (by assumption)
theorem Tryz.c_Step (c:Circ) (st ins:List Bool) (hv:c.Valid) (h1:st.length=c.next.length) (h2:(ins.length:Int)=c.inputs):Pure prog 79 [dC c,dBs st,dBs ins] (.agg [dBs (qbs (values c st ins) c.outs),dBs (qbs (values c st ins) c.next)]):=by
 refine qav func79 rfl ntmps79 fun ok=>?_
 simp only[go_sem,seval] at ok⊢;have hb:=hv.vars_bd;have hvl:(values c st ins).length=c.vars.toNat:=by rw[values,qe1];unfold Circ.vars Circ.first;omega
 have hne:values c st ins≠[]:=fun e=>by rw[e] at hvl;simp at hvl;have:=hv.first_bd;omega
 refine qab (c_EvalVars c st ins hv h1 h2) ?_
 repeat' first|assumption|(simp (disch:=first|assumption|omega|(simp;done)|(simp;omega)) only[go_sem,seval,yaa])|(with_reducible first|apply And.intro|intro _)|((try rw[qaa]);omega)
 ·exact .inr (by simpa using hne)
 have hn : ∀ l∈c.next,0<=l/\l<2*((values c st ins).length:Int):=fun l hl=>by have:=hv.n l hl;unfold qaK at this;omega
 have ho : ∀ l∈c.outs,0<=l/\l<2*((values c st ins).length:Int):=fun l hl=>by have:=hv.o l hl;unfold qaK at this;omega
 have hln:=hv.ln;have hlo:=hv.lo;refine qaP (n:=0) [9] (fsts [0,1,4,5,2,6] (.one 3 (.one 7 (.fst 8 (.one 9 .done))))) ?_
 repeat' first|assumption|(simp (disch:=first|assumption|omega|(simp;done)|(simp;omega)) only[go_sem,seval,yaa])|(with_reducible first|apply And.intro|intro _)|(refine qbr (c_litValues _ c.outs ho (by omega)) ?_)|(refine qbr (c_litValues _ c.next hn (by omega)) ?_)|((try rw[qaa]);omega)

def qoQ (c:Circ) (st:List Bool):Prop:=qqp c/\st.length=c.next.length
noncomputable instance (c:Circ) (st:List Bool):Decidable (qoQ c st):=Classical.propDecidable _
theorem Tryz.c_sameBools (a b:List Bool):Pure prog 21 [dBs a,dBs b] (.bool (decide (a=b))):=by
 refine qav func21 rfl ntmps21 fun ok=>?_
 simp only[go_sem,seval] at ok⊢;refine⟨fun h=>?_,fun hlen=>?_⟩
 ·simp only[false_eq_decide_iff];rintro rfl;exact h rfl
 refine qay (E:=env 0) tok (σ:=Nat) (fun i=>[(0,.d (dBs a)),(1,.d (dBs b)),(5,.d (dI i))]) (fun _=>[]) (fun i=>i<=a.length/\∀ j,j<i->a.getD j false=b.getD j false) (fun i=>a.length-i) [] 1000 1000 ?_ ?_ ?_
 ·simp only[go_sem,seval]
 ·simp only[go_sem,seval];exact⟨0,⟨by omega,by omega⟩,rfl⟩
 ·rintro i ⟨hi,hinv⟩
  repeat' first|assumption|(simp (disch:=first|assumption|omega|(simp;done)|(simp;omega)) only[go_sem,seval])|(with_reducible first|apply And.intro|intro _)|exact lexT|((try rw[qaa]);omega)
  ·rename_i h1 h2;simp only[false_eq_decide_iff];rintro rfl;exact h2 rfl
  ·rename_i h1 h2;exact qqm h1 h2 hinv
  ·simp only[true_eq_decide_iff];exact qfe false hlen fun j hj=>hinv j (by omega)

theorem Tryz.shp_ints {f:Nat}(y:D) (h:shp tyT (f+2) 23 y) : ∃ l:List Int,y=dIs l:=
 shp_slice ty23 ty3 (fun y h=>shp_int ty3 h) h
theorem Tryz.shp_Gate {f:Nat}(y:D) (h:shp tyT (f+2) 216 y) : ∃ a:Int×Int,y=dP a:=by
 obtain⟨ys,rfl,k0⟩:=shp_struct ty216 h;obtain⟨y1,r1,rfl,h1,k1⟩:=qho k0;obtain⟨y2,r2,rfl,h2,k2⟩:=qho k1;obtain rfl:=qp8 k2;obtain⟨n,rfl⟩:=shp_int ty3 h1;obtain⟨m,rfl⟩:=shp_int ty3 h2;exact⟨(n,m),rfl⟩
theorem Tryz.shp_Gates {f:Nat}(y:D) (h:shp tyT (f+3) 47 y) : ∃ l:List (Int×Int),y=dPs l:=
 shp_slice ty47 ty216 shp_Gate h
theorem Tryz.shp_Circuit {f:Nat}(y:D) (h:shp tyT (f+4) 49 y) : ∃ c:Circ,y=dC c:=by
 obtain⟨ys,rfl,k0⟩:=shp_struct ty49 h;obtain⟨y1,r1,rfl,h1,k1⟩:=qho k0;obtain⟨y2,r2,rfl,h2,k2⟩:=qho k1;obtain⟨y3,r3,rfl,h3,k3⟩:=qho k2;obtain⟨y4,r4,rfl,h4,k4⟩:=qho k3;obtain rfl:=qp8 k4;obtain⟨n,rfl⟩:=shp_int ty3 h1;obtain⟨a,rfl⟩:=shp_ints _ h2;obtain⟨b,rfl⟩:=shp_Gates _ h3;obtain⟨d,rfl⟩:=shp_ints _ h4;exact⟨⟨n,a,b,d⟩,rfl⟩
end Go.Proofs

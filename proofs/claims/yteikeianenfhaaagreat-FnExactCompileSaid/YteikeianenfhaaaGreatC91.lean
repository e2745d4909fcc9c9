/- Contracts, plain definitions and lemmas. Conditions: none; lemmas. -/
import Derived.Test.YteikeianenfhaaaGreatC32
import Derived.Test.YteikeianenfhaaaGreatC92
set_option maxRecDepth 20000
set_option linter.unusedSimpArgs false
set_option linter.unusedVariables false
set_option maxHeartbeats 2000000
namespace Go.Proofs
set_option linter.defProp false
open Go Go.VL Tryz
variable {l leaves m:List Int}{i x k n j q:Nat}{z:D}{c:ac}
abbrev b9 (l:List (List Int)):D:=.lst 1 (l.map fun x=>ai x)
abbrev tY (l:List (List (List Int))):D:=.lst 1 (l.map fun x=>b9 x)
def cv {l:List (List Int)}(h:i<l.length):(l.map fun x=>ai x).getD i z=ai (l.getD i []):=ck _ _ _ _ _ h
def dw {l:List (List (List Int))}(h:i<l.length):(l.map fun x=>b9 x).getD i z=b9 (l.getD i []):=ck _ _ _ _ _ h
def mz {α β : Type}{f : α->β}{l:List α}(z : α) (h:i<l.length):(l.take (i+1)).map f=(l.take i).map f ++ [f (l.getD i z)]:=by
 rw[m6 h,iz];simp[List.getD,h]
def drop_cons (h:i<l.length):l.drop i=l.getD i 0::l.drop (i+1):=by
 rw[qQ h];simp[List.getD,h]
def Tryz.pe (a b:List Int) (ha:a.length<=100) (hb:b.length<=100):Pure prog 213 [ai a,ai b] (ai (cy a b)):=by
 refine bw func213 rfl ntmps213 fun ok=>?_
 simp only[go_sem,seval] at ok
 repeat' first|assumption|simp (disch:=first|assumption|omega|simp;try omega) only[go_sem,seval,ag,aB,cv,dw]|(with_reducible first|apply aa|intro)|exact ah|(try rw[ae]);omega
 refine ce (E:=env 0) tok (σ:=Nat×Nat×List Int) (fun s=>[(0,.d (ai a)),(1,.d (ai b)),(5,.sl 0 s.2.2.length 1 0 s.2.2.length),(6,.d (dI s.1)),(7,.d (dI s.2.1))]) (fun s=>[.row s.2.2.length 1 true (s.2.2.map (D.int .i64))])
  (fun s=>s.1<=a.length/\s.2.1<=b.length/\s.2.2.length<=s.1+s.2.1/\s.2.2++cy (a.drop s.1) (b.drop s.2.1)=cy a b) (fun s=>(a.length-s.1)+(b.length-s.2.1)) [] 1000 1000 ?_ ?_ ?_
 ·simp only[go_sem,seval]
 ·simp only[go_sem,seval];exact⟨(0,0,[]),⟨kr _,kr _,by simp,by simp⟩,⟨rfl,rfl,rfl⟩,rfl,rfl⟩
 ·rintro⟨i,j,out⟩ ⟨hi,hj,hl,hinv⟩;simp only at hi hj hl hinv;have stepA:i<a.length->(j=b.length∨j<b.length/\a.getD i 0<b.getD j 0)->(out ++ [a.getD i 0])++cy (a.drop (i+1)) (b.drop j)=cy a b:=by
   intro h1 h2;rw[<-hinv,drop_cons h1,fS];rcases h2 with h2|⟨h2,h3⟩
   ·rw[rm (by omega:b.length<=j),yM,yM];rfl
   ·rw[drop_cons h2,Aw h3];rfl
  have gL:j<b.length->(i=a.length∨i<a.length/\b.getD j 0<a.getD i 0)->(out ++ [b.getD j 0])++cy (a.drop i) (b.drop (j+1))=cy a b:=by
   intro h1 h2;rw[<-hinv,drop_cons h1,fS];rcases h2 with h2|⟨h2,h3⟩
   ·rw[rm (by omega:a.length<=i),xM,xM];rfl
   ·rw[drop_cons h2,BA h3];rfl
  have stepC:i<a.length->j<b.length->a.getD i 0=b.getD j 0->(out ++ [a.getD i 0])++cy (a.drop (i+1)) (b.drop (j+1))=cy a b:=by
   intro h1 h2 h3;rw[<-hinv,drop_cons h1,drop_cons h2,<-h3,Ax,fS];rfl
  have fin:i=a.length->j=b.length->out=cy a b:=by
   intro h1 h2;rw[<-hinv,rm (by omega:a.length<=i),rm (by omega:b.length<=j),xM,jN]
  repeat' first|assumption|simp (disch:=first|assumption|omega|simp;try omega) only[go_sem,seval,ag,aB,cv,dw]|(with_reducible first|apply aa|intro)|exact ah|(try rw[ae]);omega
  ·exact⟨(i+1,j,out ++ [a.getD i 0]),⟨by simp only;omega,by simp only;omega,by simp;omega,stepA (by omega) (by omega)⟩,by simp only;omega,⟨by simp,rfl,rfl⟩,by simp,rfl⟩
  ·exact⟨(i,j+1,out ++ [b.getD j 0]),⟨by simp only;omega,by simp only;omega,by simp;omega,gL (by omega) (by omega)⟩,by simp only;omega,⟨by simp,rfl,rfl⟩,by simp,rfl⟩
  ·exact⟨(i+1,j+1,out ++ [a.getD i 0]),⟨by simp only;omega,by simp only;omega,by simp;omega,stepC (by omega) (by omega) (by omega)⟩,by simp only;omega,⟨by simp,rfl,rfl⟩,by simp,rfl⟩
  ·exact fin (by omega) (by omega)
def Tryz.tq (cuts:List (List Int)) (cut:List Int) (h1:cuts.length<=100) (h2:cut.length<=100):Pure prog 214 [b9 cuts,ai cut] (.bool (decide (cut∈cuts))):=by
 refine bw func214 rfl ntmps214 fun ok=>?_
 simp only[go_sem,seval] at ok
 repeat' first|assumption|simp (disch:=first|assumption|omega|simp;try omega) only[go_sem,seval,ag,aB,cv,dw]|(with_reducible first|apply aa|intro)|exact ah|(try rw[ae]);omega
 refine ce (E:=env 0) tok (σ:=Nat) (fun i=>[(0,.d (b9 cuts)),(1,.d (ai cut)),(4,.d (dB false)),(5,.d (dI i))]) (fun _=>[]) (fun i=>i<=cuts.length/\∀ j,j<i->cuts.getD j []≠cut) (fun i=>cuts.length-i) [] 1000 1000 ?_ ?_ ?_
 ·simp only[go_sem,seval]
 ·simp only[go_sem,seval];exact⟨0,⟨by omega,by omega⟩,rfl⟩
 ·rintro i ⟨hi,hinv⟩;by_cases hlt:i<cuts.length
  ·repeat' first|assumption|simp (disch:=first|assumption|omega|simp;try omega) only[go_sem,seval,ag,aB,cv,dw]|(with_reducible first|apply aa|intro)|exact ah|(try rw[ae]);omega
   have hx:=aP hlt (z:=([]:List Int));generalize hd9:cuts.getD i []=x at *
   refine ce (E:=env 0) tok (σ:=Nat×Bool) (fun s=>[(0,.d (b9 cuts)),(1,.d (ai cut)),(4,.d (dB false)),(5,.d (dI i)),(6,.d (dB s.2)),(7,.d (dI s.1))]) (fun _=>[]) (fun s=>(s.2=true->s.1<=cut.length)/\(s.2=true↔x.length=cut.length/\∀ j,j<s.1->x.getD j 0=cut.getD j 0)) (fun s=>cut.length-s.1) [] 1000 1000 ?_ ?_ ?_
   ·simp only[go_sem,seval]
   ·simp only[go_sem,seval];exact⟨(0,decide (x.length=cut.length)),⟨by simp,by simp⟩,rfl,rfl⟩
   ·rintro⟨k,b⟩ ⟨hk,hb⟩;simp only at hk hb;cases b with
    | true=>
     obtain⟨hl,hall⟩:=hb.1 rfl;have hk:=hk rfl;simp only[go_sem,seval]
     repeat' first|assumption|simp (disch:=first|assumption|omega|simp;try omega) only[go_sem,seval,hd9,ag,aB,cv,dw]|(with_reducible first|apply aa|intro)|exact ah|(try rw[ae]);omega
     ·refine⟨(k+1,decide (x.getD k 0=cut.getD k 0)),⟨fun _=>by simp only;omega,?_⟩,by simp only;omega,rfl,rfl⟩;simp only[decide_eq_true_eq];refine⟨fun h=>⟨hl,fun j hj=>?_⟩,fun h=>h.2 k (by omega)⟩;by_cases hjk:j=k
      ·subst hjk;exact h
      ·exact hall j (by omega)
     ·have e:x=cut:=oK 0 hl fun j hj=>hall j (by omega)
      rw[<-e,decide_eq_true hx]
    | false=>
     simp only[go_sem,seval]
     repeat' first|assumption|simp (disch:=first|assumption|omega|simp;try omega) only[go_sem,seval,hd9,ag,aB,cv,dw]|(with_reducible first|apply aa|intro)|exact ah|(try rw[ae]);omega
     refine⟨i+1,⟨by omega,fun j hj=>?_⟩,by omega,rfl⟩;by_cases hji:j=i
     ·subst hji;rw[hd9];rintro rfl;exact absurd (hb.2 ⟨rfl,fun _ _=>rfl⟩) (by simp)
     ·exact hinv j (by omega)
  ·repeat' first|assumption|simp (disch:=first|assumption|omega|simp;try omega) only[go_sem,seval,ag,aB,cv,dw]|(with_reducible first|apply aa|intro)|exact ah|(try rw[ae]);omega
   simp only[false_eq_decide_iff];intro hm;obtain⟨j,hj,he⟩:=fO [] hm;exact hinv j (by omega) he
def Tryz.mO (arr cut:List Int) (h : ∀ z∈cut,0<=z/\z<arr.length):Pure prog 212 [ai arr,ai cut] (dI (lm arr cut)):=by
 refine bw func212 rfl ntmps212 fun ok=>?_
 simp only[go_sem,seval] at ok
 repeat' first|assumption|simp (disch:=first|assumption|omega|simp;try omega) only[go_sem,seval,ag,aB,cv,dw]|(with_reducible first|apply aa|intro)|exact ah|(try rw[ae]);omega
 refine ce (E:=env 0) tok (σ:=Nat) (fun i=>[(0,.d (ai arr)),(1,.d (ai cut)),(5,.d (dI ((cut.take i).foldl (fun t v=>max t (arr.getD v.toNat 0)) 0))),(6,.d (dI i))]) (fun _=>[]) (fun i=>i<=cut.length) (fun i=>cut.length-i) [] 1000 1000 ?_ ?_ ?_
 ·simp only[go_sem,seval]
 ·simp only[go_sem,seval];exact⟨0,by omega,rfl,rfl⟩
 ·intro i hi;by_cases hlt:i<cut.length
  ·have e1:=gI (f:=fun t v=>max t (arr.getD v.toNat 0)) (b:=0) (0:Int) hlt;have e2:=h _ (aP hlt:cut.getD i 0∈cut)
   repeat' first|assumption|simp (disch:=first|assumption|omega|simp;try omega) only[go_sem,seval,ag,aB,cv,dw]|(with_reducible first|apply aa|intro)|exact ah|(try rw[ae]);omega
   exact⟨i+1,by omega,by omega,e1.symm,rfl⟩
  ·repeat' first|assumption|simp (disch:=first|assumption|omega|simp;try omega) only[go_sem,seval,ag,aB,cv,dw]|(with_reducible first|apply aa|intro)|exact ah|(try rw[ae]);omega
   rfl
def Tryz.qm (c:ac) (hc:c.Valid):bk prog 190 [dC c] (tY (gO c)):=by
 have hf:=hc.am;have hi0:=hc.i0;have hi1:=hc.i1;have hfst:=ba c (by omega);have hl0:=kI (c:=c) hf.1 0;refine pu (E:=dx 0) tok rfl 1000 func190 rfl rfl ntmps190 (by simp) fun ok=>?_
 simp only[go_sem,seval] at ok
 repeat' first|assumption|simp (disch:=first|assumption|omega|simp;try omega) only[go_sem,seval,ag,aB,cv,dw]|(with_reducible first|apply aa|intro)|(refine aA hfst ?_)|exact ah|(try rw[ae]);omega
 refine bt (E:=dx 0) tok (σ:=Nat) (fun v=>[(0,.d (dC c)),(1,.ptr 0 0),(3,.sl 3 (v-1) 1 0 v),(4,.d (dI v))]) (fun v=>[.box [.d (dI c.inputs),.d (ai c.next),.d (aO c.gates),.d (ai c.outs)],.dead 0,.dead 0,.row (v-1) 1 false (((bz c 0).take v).map fun x=>b9 x)])
  (fun v=>1<=v/\(v:Int)<=c.first) (fun v=>c.first.toNat-v) [] [] 1000 1000 ?_ ?_
 ·simp only[go_sem,seval];exact⟨1,⟨by omega,by omega⟩,⟨⟨rfl,rfl⟩,rfl⟩,rfl,by simp[bz]⟩
 ·rintro v ⟨hv1,hv⟩;by_cases hlt:(v:Int)<c.first
  ·have hg:(bz c 0).getD v []=[[(v:Int)]]:=by
    obtain⟨m,rfl⟩ : ∃ m,v=m+1:=⟨v-1,by omega⟩;simp[bz,List.getD,show m<c.first.toNat-1 by omega]
   have hts:=mz (f:=fun x=>b9 x) ([]:List (List Int)) (show v<(bz c 0).length by omega)
   repeat' first|assumption|simp (disch:=first|assumption|omega|simp;try omega) only[go_sem,seval,ag,aB,cv,dw]|(with_reducible first|apply aa|intro)|(refine aA hfst ?_)|exact ah|(try rw[ae]);omega
   ·simp;omega
   ·refine⟨v+1,⟨by omega,by omega⟩,by omega,⟨⟨by omega,rfl⟩,by omega⟩,by omega,?_⟩;rw[hts,hg];rfl
  ·repeat' first|assumption|simp (disch:=first|assumption|omega|simp;try omega) only[go_sem,seval,ag,aB,cv,dw]|(with_reducible first|apply aa|intro)|(refine aA hfst ?_)|exact ah|(try rw[ae]);omega
   have hv3:v=c.first.toNat:=by omega
   subst hv3;clear hlt hv hv1;have hlg:=hc.lg;refine bt (E:=dx 0) tok (σ:=Nat) (fun i=>[(0,.d (dC c)),(1,.ptr 0 0),(3,.sl 3 (c.first.toNat-1+i) 1 0 (c.first.toNat+i)),(5,.d (dI i))]) (fun i=>[.box [.d (dI c.inputs),.d (ai c.next),.d (aO c.gates),.d (ai c.outs)],.dead 0,.dead 0,.row (c.first.toNat-1+i) 1 false ((bz c i).map fun x=>b9 x)])
    (fun i=>i<=c.gates.length) (fun i=>c.gates.length-i) [] [] 1000 1000 ?_ ?_
   ·simp only[go_sem,seval];exact⟨0,by omega,⟨⟨rfl,rfl⟩,rfl⟩,rfl,rfl⟩
   ·intro i hi;have hli:=kI (c:=c) hf.1 i;by_cases hlt:i<c.gates.length
    ·obtain⟨g1,g2⟩:=hc.g i hlt;have hco:=pm hc i hi;unfold bj at g1 g2
     repeat' first|assumption|simp (disch:=first|assumption|omega|simp;try omega) only[go_sem,seval,ag,aB,cv,dw]|(with_reducible first|apply aa|intro)|(refine aA hfst ?_)|exact ah|(try rw[ae]);omega
     have hA:(cL c i/2).toNat<(bz c i).length:=by unfold cL;omega
     have hB:(cN c i/2).toNat<(bz c i).length:=by unfold cN;omega
     obtain⟨pa,-,-,pl⟩:=hco _ hA;obtain⟨qa,-,-,ql⟩:=hco _ hB;have hjn:(bz c (i+1))=bz c i ++ [mI ((bz c i).getD (cL c i/2).toNat []) ((bz c i).getD (cN c i/2).toNat []) ++ [[c.first+(i:Int)]]]:=rfl;have hgA:(c.gates.getD i (0,0)).1=cL c i:=rfl;have hgB:(c.gates.getD i (0,0)).2=cN c i:=rfl;rw[hgA,hgB];have hjl:=Ck ((bz c i).getD (cL c i/2).toNat []) ((bz c i).getD (cN c i/2).toNat []);generalize (bz c i).getD (cL c i/2).toNat []=P at *
     generalize (bz c i).getD (cN c i/2).toNat []=Q at *
     refine bt (E:=dx 0) tok (σ:=Nat) (fun a=>[(0,.d (dC c)),(1,.ptr 0 0),(3,.sl 3 (c.first.toNat-1+i) 1 0 (c.first.toNat+i)),(5,.d (dI i)),(6,.d (dI (c.first+(i:Int)))),(7,.sl 4 ((P.take a).foldl (fun l x=>bn x Q l) []).length 1 0 ((P.take a).foldl (fun l x=>bn x Q l) []).length),(8,.d (b9 P)),(9,.d (b9 Q)),(10,.d (dI a))])
      (fun a=>[.box [.d (dI c.inputs),.d (ai c.next),.d (aO c.gates),.d (ai c.outs)],.dead 0,.dead 0,.row (c.first.toNat-1+i) 1 false ((bz c i).map fun x=>b9 x),.row ((P.take a).foldl (fun l x=>bn x Q l) []).length 1 false (((P.take a).foldl (fun l x=>bn x Q l) []).map fun x=>ai x)])
      (fun a=>a<=P.length/\((P.take a).foldl (fun l x=>bn x Q l) []).length<=8) (fun a=>P.length-a) [] [] 1000 1000 ?_ ?_
     ·simp only[go_sem,seval];exact⟨0,⟨by omega,by simp⟩,by simp⟩
     ·rintro a ⟨ha,hl8⟩;by_cases hat:a<P.length
      ·have hsa:=gI (f:=fun l x=>bn x Q l) (b:=[]) ([]:List Int) hat;have hpx:=pa _ (aP hat:P.getD a []∈P);generalize hx9:P.getD a []=X at *
       generalize (P.take a).foldl (fun l x=>bn x Q l) []=L0 at *
       simp only[go_sem,seval]
       repeat' first|assumption|simp (disch:=first|assumption|omega|simp;try omega) only[go_sem,seval,hx9,ag,aB,cv,dw]|(with_reducible first|apply aa|intro)|exact ah|(try rw[ae]);omega
       refine bt (E:=dx 0) tok (σ:=Nat) (fun b=>[(0,.d (dC c)),(1,.ptr 0 0),(3,.sl 3 (c.first.toNat-1+i) 1 0 (c.first.toNat+i)),(5,.d (dI i)),(6,.d (dI (c.first+(i:Int)))),(7,.sl 4 (bn X (Q.take b) L0).length 1 0 (bn X (Q.take b) L0).length),(8,.d (b9 P)),(9,.d (b9 Q)),(10,.d (dI a)),(11,.d (dI b))])
        (fun b=>[.box [.d (dI c.inputs),.d (ai c.next),.d (aO c.gates),.d (ai c.outs)],.dead 0,.dead 0,.row (c.first.toNat-1+i) 1 false ((bz c i).map fun x=>b9 x),.row (bn X (Q.take b) L0).length 1 false ((bn X (Q.take b) L0).map fun x=>ai x)])
        (fun b=>b<=Q.length) (fun b=>Q.length-b) [] [] 1000 1000 ?_ ?_
       ·simp only[go_sem,seval];exact⟨0,by omega,by simp[bn]⟩
       ·intro b hb;have hr8:=x4 (x:=X) (q:=Q.take b) hl8;by_cases hbt:b<Q.length
        ·have hsb:bn X (Q.take (b+1)) L0=fR (bn X (Q.take b) L0) (cy X (Q.getD b [])):=gI (f:=fun l y=>fR l (cy X y)) (b:=L0) ([]:List Int) hbt;have hqy:=qa _ (aP hbt:Q.getD b []∈Q);generalize hy9:Q.getD b []=Y at *
         generalize bn X (Q.take b) L0=L1 at *
         have hm:=pe X Y (by have:=hpx.len;omega) (by have:=hqy.len;omega);have hml:=yV X Y;have hh:=tq L1 (cy X Y) (by omega) (by have:=hpx.len;have:=hqy.len;omega);have had:fR L1 (cy X Y)=if(cy X Y).length<=3/\L1.length<8/\cy X Y∉L1 then L1 ++ [cy X Y] else L1:=rfl;generalize cy X Y=Z at *
         simp only[go_sem,seval]
         repeat' first|assumption|simp (disch:=first|assumption|omega|simp;try omega) only[go_sem,seval,hx9,hy9,ag,aB,cv,dw]|(with_reducible first|apply aa|intro)|exact ah|(try rw[ae]);omega
         refine xX (E:=dx 0) tok Tryz.follows 1000 1000 [] (aw [0,1,2,4,5,6,3,7] (.one 8 (.fst 9 .done))) (by kernel_rfl) ?_
         repeat' first|assumption|simp (disch:=first|assumption|omega|simp;try omega) only[go_sem,seval,hx9,hy9,ag,aB,cv,dw]|(with_reducible first|apply aa|intro)|(refine lu hm ?_)|(refine io (fun _=>hh) ?_)|exact ah|(try rw[ae]);omega
         ·rename_i h9;have e:bn X (Q.take (b+1)) L0=L1 ++ [Z]:=by rw[hsb,had,if_pos ⟨by omega,by omega,h9.2⟩]
          refine⟨b+1,by omega,by omega,?_⟩;rw[e];exact⟨⟨by simp,rfl⟩,by simp,by simp⟩
         ·rename_i h9;have e:bn X (Q.take (b+1)) L0=L1:=by
           rw[hsb,had,if_neg (by
            rintro⟨q1,q2,q3⟩;rcases h9 with(h9|h9)|h9
            ·omega
            ·omega
            ·exact q3 h9)]
          refine⟨b+1,by omega,by omega,?_⟩;rw[e];exact⟨⟨rfl,rfl⟩,rfl,rfl⟩
        ·repeat' first|assumption|simp (disch:=first|assumption|omega|simp;try omega) only[go_sem,seval,ag,aB,cv,dw]|(with_reducible first|apply aa|intro)|exact ah|(try rw[ae]);omega
         refine⟨a+1,⟨by omega,?_⟩,by omega,?_⟩
         ·rw[hsa];exact x4 hl8
         ·rw[hsa];exact⟨⟨rfl,rfl⟩,rfl,rfl⟩
      ·have e1:P.foldl (fun l x=>bn x Q l) []=mI P Q:=rfl
       repeat' first|assumption|simp (disch:=first|assumption|omega|simp;try omega) only[go_sem,seval,ag,aB,cv,dw]|(with_reducible first|apply aa|intro)|exact ah|(try rw[ae]);omega
       ·rw[e1];omega
       ·refine⟨i+1,by omega,by omega,⟨⟨by omega,by omega⟩,rfl⟩,by omega,?_⟩;rw[hjn,e1,iz];simp
    ·repeat' first|assumption|simp (disch:=first|assumption|omega|simp;try omega) only[go_sem,seval,ag,aB,cv,dw]|(with_reducible first|apply aa|intro)|(refine aA hfst ?_)|exact ah|(try rw[ae]);omega
     rw[gO,show i=c.gates.length by omega]
def ir (c:ac) (l:List (List Int)):List D:=List.replicate c.first.toNat .nil++(l.drop c.first.toNat).map fun x=>ai x
def uu {l:List (List Int)}(h:c.first.toNat<=l.length):(ir c l).length=l.length:=by simp[ir];omega
def Jk {l:List (List Int)}{v:Nat}(h1:c.first.toNat<=v) (h2:v<l.length):(ir c l).getD v z=ai (l.getD v []):=by
 unfold ir;rw[List.getD_eq_getElem?_getD,List.getElem?_append_right (by rw[mB];exact h1)];simp[List.getD,h2,show c.first.toNat+(v-c.first.toNat)=v by omega]
def Ci {l:List (List Int)}{x:List Int}(h:c.first.toNat<=l.length):ir c (l ++ [x])=ir c l ++ [ai x]:=by
 unfold ir;rw[List.drop_append_of_le_length h,iz,fS];rfl
def Tryz.qS (c:ac) (hc:c.Valid):bk prog 189 [dC c,tY (gO c)] (.tup [.lst 1 (ir c (cS c)),ai (tF c)]):=by
 have hf:=hc.am;have hi0:=hc.i0;have hi1:=hc.i1;have hfst:=ba c (by omega);refine pu (E:=dx 0) tok rfl 1000 func189 rfl rfl ntmps189 (by simp) fun ok=>?_
 simp only[go_sem,seval] at ok
 repeat' first|assumption|simp (disch:=first|assumption|omega|simp;try omega) only[go_sem,seval,ag,aB,cv,dw]|(with_reducible first|apply aa|intro)|(refine aA hfst ?_)|exact ah|(try rw[ae]);omega
 have hbd:=Cm c (gO c);have hcl:=kI (c:=c) hf.1 c.gates.length;have hco:=pm hc c.gates.length (aC _);have hlg:=hc.lg;rw[<-gO] at hcl hco;have hgate : ∀ i,i<c.gates.length->∃ x r,(gO c).getD (c.first.toNat+i) []=x::r/\r≠[]:=fun i hi=>by
  have h1:=Ey hc hi;rw[gO,v6 hf.1 hi];cases hj:mI ((bz c i).getD (cL c i/2).toNat []) ((bz c i).getD (cN c i/2).toNat []) with
  | nil=>rw[hj] at h1;simp at h1
  | cons x r=>exact⟨x,r ++ [[c.first+(i:Int)]],rfl,by simp⟩
 have hleaf : ∀ i,i<c.gates.length->∀ cut∈((gO c).getD (c.first.toNat+i) []).dropLast,∀ z∈cut,0<=z/\z<c.first+(i:Int):=fun i hi cut hcut z hz=>by
  rw[gO,v6 hf.1 hi,List.dropLast_concat] at hcut;have hl:=kI (c:=c) hf.1 i;obtain⟨g1,g2⟩:=hc.g i hi;have ha:(cL c i/2).toNat<c.first.toNat+i:=by unfold cL;unfold bj at g1;omega
  have hb:(cN c i/2).toNat<c.first.toNat+i:=by unfold cN;unfold bj at g2;omega
  obtain⟨a1,-⟩:=pm hc i (by omega) _ (by rw[hl];exact ha);obtain⟨b1,-⟩:=pm hc i (by omega) _ (by rw[hl];exact hb);refine zg (P:=fun cut=>∀ z∈cut,0<=z/\z<c.first+(i:Int)) (fun x hx y hy hle z hz=>?_) cut hcut z hz;rcases(ow _ _).1 hz with h2|h2
  ·have:=(a1 x hx).rng z h2;omega
  ·have:=(b1 y hy).rng z h2;omega
 have efin:cS c=(bZ c (gO c) c.gates.length).1/\tF c=(bZ c (gO c) c.gates.length).2:=⟨rfl,rfl⟩;rw[efin.1,efin.2];generalize gO c=cuts at *
 have hbl:=vA c cuts;refine bt (E:=dx 0) tok (σ:=Nat) (fun i=>[(0,.d (dC c)),(1,.d (tY cuts)),(2,.ptr 0 0),(6,.sl 1 i 1 0 (c.first.toNat+i)),(7,.sl 2 i 1 0 (c.first.toNat+i)),(8,.d (dI i))])
  (fun i=>[.box [.d (dI c.inputs),.d (ai c.next),.d (aO c.gates),.d (ai c.outs)],.row i 1 true ((bZ c cuts i).2.map (D.int .i64)),.row i 1 false (ir c (bZ c cuts i).1)])
  (fun i=>i<=c.gates.length) (fun i=>c.gates.length-i) [] [] 1000 1000 ?_ ?_
 ·simp only[go_sem,seval];exact⟨0,by omega,by simp[bZ,ir]⟩
 ·intro i hi;have hbli:=hbl i;by_cases hlt:i<c.gates.length
  ·have hsu:bZ c cuts (i+1)=((bZ c cuts i).1 ++ [gj (bZ c cuts i).2 (cuts.getD (c.first.toNat+i) []).dropLast],(bZ c cuts i).2 ++ [1+lm (bZ c cuts i).2 (gj (bZ c cuts i).2 (cuts.getD (c.first.toNat+i) []).dropLast)]):=rfl;have hlf:=hleaf i hlt;obtain⟨x,r,hxr,hr0⟩:=hgate i hlt;have hle:=(hco (c.first.toNat+i) (by omega)).2.2.2;have hbdi:=hbd i;generalize hL:cuts.getD (c.first.toNat+i) []=L at *
   have harr:=fun cut hcut=>mO (bZ c cuts i).2 cut (fun z hz=>by have:=hlf cut hcut z hz;omega)
   generalize (bZ c cuts i).2=A at *
   generalize (bZ c cuts i).1=B at *
   have eL:(c.first+(i:Int)).toNat=c.first.toNat+i:=by omega
   have hL2:2<=L.length:=by
    rw[hxr];cases r with
    | nil=>exact absurd rfl hr0
    | cons y r=>simp
   have hmem : ∀ j,j<L.length-1->L.getD j []∈L.dropLast:=fun j hj=>by
    have e:L.dropLast.getD j []=L.getD j []:=by rw[List.getD_eq_getElem?_getD,List.getD_eq_getElem?_getD,List.getElem?_dropLast,if_pos hj]
    rw[<-e];exact aP (by simp;omega)
   have harb:=fun j (hj:j<L.length-1)=>zv (arr:=A) (cut:=L.getD j []) (m:=i) (fun z _=>(hbdi z.toNat).2) (by omega)
   repeat' first|assumption|simp (disch:=first|assumption|omega|simp;try omega) only[go_sem,seval,eL,hL,ag,aB,cv,dw]|(with_reducible first|apply aa|intro)|(refine aA hfst ?_)|exact ah|(try rw[ae]);omega
   refine bt (E:=dx 0) tok (σ:=Nat×Nat) (fun s=>[(0,.d (dC c)),(1,.d (tY cuts)),(2,.ptr 0 0),(6,.sl 1 i 1 0 (c.first.toNat+i)),(7,.sl 2 i 1 0 (c.first.toNat+i)),(8,.d (dI i)),(9,.d (b9 L)),(10,.d (dI s.2)),(11,.d (dI s.1))])
    (fun s=>[.box [.d (dI c.inputs),.d (ai c.next),.d (aO c.gates),.d (ai c.outs)],.row i 1 true (A.map (D.int .i64)),.row i 1 false (ir c B)])
    (fun s=>1<=s.1/\s.1<=L.length-1/\s.2<s.1/\L.getD s.2 []=gj A (L.take s.1)) (fun s=>L.length-s.1) [] [] 1000 1000 ?_ ?_
   ·simp only[go_sem,seval];exact⟨(1,0),⟨by simp,by simp only;omega,by simp,by rw[hxr];rfl⟩,by simp⟩
   ·rintro⟨j,k⟩ ⟨hj1,hj2,hk,hinv⟩;simp only at hj1 hj2 hk hinv;by_cases hjt:j<L.length-1
    ·have hsn:gj A (L.take (j+1))=if j9 A (L.getD j []) (L.getD k []) then L.getD j [] else L.getD k []:=by
      have eg:L.getD j []=L[j]'(by omega):=by rw[List.getD_eq_getElem?_getD,List.getElem?_eq_getElem (by omega)];rfl
      rw[m6 (by omega),H5 (by simp;omega),<-hinv,eg]
     have q1:=harr _ (hmem j hjt);have q2:=harr _ (hmem k (by omega));have r1:=harb j hjt;have r2:=harb k (by omega)
     repeat' first|assumption|simp (disch:=first|assumption|omega|simp;try omega) only[go_sem,seval,eL,hL,ag,aB,cv,dw]|(with_reducible first|apply aa|intro)|(refine aA q1 ?_)|(refine aA q2 ?_)|exact ah|(try rw[ae]);omega
     ·exact⟨(j+1,j),⟨by simp only;omega,by simp only;omega,by simp only;omega,by rw[hsn,if_pos (show j9 _ _ _ by unfold j9;omega)]⟩,by simp only;omega,rfl,rfl⟩
     ·exact⟨(j+1,k),⟨by simp only;omega,by simp only;omega,by simp only;omega,by rw[hsn,if_neg (show ¬ j9 _ _ _ by unfold j9;omega)]⟩,by simp only;omega,rfl,rfl⟩
    ·have q2:=harr _ (hmem k (by omega));have r2:=harb k (by omega);have hbDl:(ir c B).length=c.first.toNat+i:=by rw[uu (by omega)];omega
     repeat' first|assumption|simp (disch:=first|assumption|omega|simp;try omega) only[go_sem,seval,eL,hL,hbDl,ag,aB,cv,dw]|(with_reducible first|apply aa|intro)|(refine aA q2 ?_)|exact ah|(try rw[ae]);omega
     have hd:L.getD k []=gj A L.dropLast:=by rw[hinv,List.dropLast_eq_take,show j=L.length-1 by omega]
     refine⟨i+1,by omega,by omega,⟨⟨rfl,by omega⟩,⟨rfl,by omega⟩,rfl⟩,⟨rfl,?_⟩,rfl,?_⟩
     ·rw[hsu,hd]
     ·rw[hsu,hd,Ci (by omega)]
  ·obtain rfl:i=c.gates.length:=by omega
   repeat' first|assumption|simp (disch:=first|assumption|omega|simp;try omega) only[go_sem,seval,ag,aB,cv,dw]|(with_reducible first|apply aa|intro)|(refine aA hfst ?_)|exact ah|(try rw[ae]);omega
   all_goals first|rfl|(exact ag (by rw[uu (by omega)];omega))
def EN (hc:c.Valid) {v:Int}(h0:0<=v) (hv:v<c.vars) (hm:v∈leaves):fF c leaves x v=x.testBit (leaves.idxOf v):=by
 have hf:=hc.am;have hvv:c.vars=c.first+(c.gates.length:Int):=rfl
 by_cases h:v<c.first
 ·rw[zd h0 h,ng,if_pos hm]
 ·obtain⟨i,rfl⟩ : ∃ i:Nat,v=c.first+(i:Int):=⟨(v-c.first).toNat,by omega⟩
  rw[Ak hc (by omega),ng,if_pos hm]
def CG : ∀ {l:List Int}{v:Int}{k:Nat},k<l.length->l.getD k 0=v->(∀ j,j<k->l.getD j 0≠v)->l.idxOf v=k
 | [],v,k,h,_,_=>by simp at h
 | y::l,v,0,h,e,_=>by
  obtain rfl:y=v:=e;simp
 | y::l,v,k+1,h,e,hn=>by
  have hy:y≠v:=hn 0 (by omega);have ih:=CG (k:=k) (l:=l) (v:=v) (by simpa using h) e (fun j hj=>hn (j+1) (by omega));rw[List.idxOf_cons,ih,show(y == v)=false by simpa using hy];rfl
def O7:decide (iL ((x:Int)/2 ^ k) 2=1)=x.testBit k:=by
 have e:((x:Int)/2 ^ k)=((x/2 ^ k:Nat):Int):=by simp
 rw[e,aB (Int.natCast_nonneg _),Nat.testBit_eq_decide_div_mod_eq];generalize x/2 ^ k=m;exact decide_eq_decide.2 (by omega)
def Tryz.q9 (c:ac) (hc:c.Valid) (leaves:List Int) (hl:leaves.length<=3) (x:Nat) (hx:x<8) : ∀ (n:Nat) (v:Int),v.toNat<n->0<=v->v<c.vars->Pure prog 215 [dC c,dI v,ai leaves,dI x] (dB (fF c leaves x v)):=by
 have hf:=hc.am;have hi0:=hc.i0;have hi1:=hc.i1;have hvv:=hc.aM;have hfst:=ba c (by omega);intro n;induction n with
 | zero=>intro v h;omega
 | succ n ih=>
  intro v hvn hv0 hv;refine bw func215 rfl ntmps215 fun ok=>?_
  simp only[go_sem,seval] at ok
  repeat' first|assumption|simp (disch:=first|assumption|omega|simp;try omega) only[go_sem,seval,ag,aB,cv,dw]|(with_reducible first|apply aa|intro)|exact ah|(try rw[ae]);omega
  refine ce (E:=env 0) tok (σ:=Nat) (fun k=>[(0,.d (dC c)),(1,.d (dI v)),(2,.d (ai leaves)),(3,.d (dI x)),(4,.ptr 0 0),(8,.d (dB false)),(9,.d (dI k))]) (fun _=>[.box [.d (dI c.inputs),.d (ai c.next),.d (aO c.gates),.d (ai c.outs)]]) (fun k=>k<=leaves.length/\∀ j,j<k->leaves.getD j 0≠v) (fun k=>leaves.length-k) [] 1000 1000 ?_ ?_ ?_
  ·simp only[go_sem,seval]
  ·simp only[go_sem,seval];exact⟨0,⟨by omega,by omega⟩,rfl⟩
  ·rintro k ⟨hk,hinv⟩;by_cases hlt:k<leaves.length
   ·repeat' first|assumption|simp (disch:=first|assumption|omega|simp;try omega) only[go_sem,seval,ag,aB,cv,dw]|(with_reducible first|apply aa|intro)|exact ah|(try rw[ae]);omega
    ·rename_i h9;rw[O7,EN hc hv0 hv (by rw[<-h9];exact aP hlt),CG hlt h9 hinv]
    ·rename_i h9;refine⟨k+1,⟨by omega,fun j hj=>?_⟩,by omega,rfl⟩;by_cases hjk:j=k
     ·subst hjk;exact h9
     ·exact hinv j (by omega)
   ·have hnm:v∉leaves:=fun h=>by
     obtain⟨j,hj,e⟩:=fO 0 h;exact hinv j (by omega) e
    have hvv2:c.vars=c.first+(c.gates.length:Int):=rfl
    repeat' first|assumption|simp (disch:=first|assumption|omega|simp;try omega) only[go_sem,seval,ag,aB,cv,dw]|(with_reducible first|apply aa|intro)|(refine aA hfst ?_)|exact ah|(try rw[ae]);omega
    ·rename_i h9;rw[zd hv0 h9,ng,if_neg hnm]
    ·rename_i h9;obtain⟨i,rfl⟩ : ∃ i:Nat,v=c.first+(i:Int):=⟨(v-c.first).toNat,by omega⟩
     have hi:i<c.gates.length:=by omega
     obtain⟨g1,g2⟩:=hc.g i hi;rw[Ak hc hi,ng,if_neg hnm];have qa:=ih (cL c i/2) (by unfold cL;unfold bj at g1;omega) (by unfold cL;unfold bj at g1;omega) (by unfold cL;unfold bj at g1;omega);have qb:=ih (cN c i/2) (by unfold cN;unfold bj at g2;omega) (by unfold cN;unfold bj at g2;omega) (by unfold cN;unfold bj at g2;omega);have ga0:0<=(c.gates.getD i (0,0)).1:=g1.1;have gb0:0<=(c.gates.getD i (0,0)).2:=g2.1;have ei:(c.first+(i:Int)-c.first).toNat=i:=by omega
     refine cg (n:=0) [9] (aw [0,2,1,3] (.two 4 (aw [5,6] (.two 7 (.one 8 (.one 9 .done)) 8 (.one 7 (.one 9 .done)))) 8 (.one 4 (aw [5,6] (.one 7 (.one 9 .done)))))) ?_
     repeat' first|assumption|simp (disch:=first|assumption|omega|simp;try omega) only[go_sem,seval,ei,ag,aB,cv,dw]|(with_reducible first|apply aa|intro)|(refine aA hfst ?_)|(refine nP (fun _=>⟨qa,trivial⟩) ?_)|(refine nP (fun _=>⟨qb,trivial⟩) ?_)|exact ah|(try rw[ae]);omega
     all_goals rfl

def sr (x k:Nat):((((x:Int)/2 ^ k).toNat &&& 1:Nat):Int)=if x.testBit k then 1 else 0:=by
 have e:((x:Int)/2 ^ k).toNat=x/2 ^ k:=by
  have:((x:Int)/2 ^ k)=((x/2 ^ k:Nat):Int):=by simp
  rw[this,tZ]
 rw[e,Nat.and_one_is_mod,Nat.testBit_eq_decide_div_mod_eq];by_cases h:x/2 ^ k%2=1
 ·simp[h]
 ·have h2:x/2 ^ k%2=0:=by omega
  simp[h2]
structure kC (c:ac) (leaves:List Int) (x:Nat) (n:Nat) (m:Kn):Prop where
 val : ∀ k b,kn m k=some b->b=fF c leaves x k
 leaf : ∀ j,j<n->kn m (leaves.getD j 0)≠none
def kC.zero (h0:fF c leaves x 0=false):kC c leaves x 0 [(0,false)]:=by
 refine⟨fun k b hk=>?_,fun j hj=>by omega⟩;by_cases h:(0:Int)=k
 ·subst h;cases b with
  | false=>exact h0.symm
  | true=>simp[kn] at hk
 ·simp[kn,h] at hk
def kC.up {m:Kn}(h:kC c leaves x n m) {b:Bool}(hb:b=fF c leaves x (leaves.getD n 0)):kC c leaves x (n+1) (gY m (leaves.getD n 0) b):=by
 refine⟨fun k b' hk=>?_,fun j hj=>?_⟩
 ·rw[wS] at hk;split at hk
  ·rename_i e;rw[e,<-hb];simpa using hk.symm
  ·exact h.val k b' hk
 ·rw[wS];split
  ·simp
  ·rename_i hne;by_cases hjn:j=n
   ·subst hjn;exact absurd rfl hne
   ·exact h.leaf j (by omega)
def kC.ok {m:Kn}(h:kC c leaves x leaves.length m):iG c leaves x m:=by
 refine⟨h.val,fun z hz=>?_⟩;obtain⟨j,hj,rfl⟩:=fO (0:Int) hz;exact h.leaf j hj
def Tryz.lM (c:ac) (hc:c.Valid) (v:Int) (hv0:0<=v) (hv:v<c.vars) (leaves:List Int) (hl:leaves.length<=3) (ha:gJ leaves) (hz : ∀ z∈leaves,1<=z/\z<c.vars) :
  Pure prog 174 [pC c,dI v,ai leaves] (dI (s8 c v leaves)):=by
 have hvv:=hc.aM;refine bw func174 rfl ntmps174 fun ok=>?_
 simp only[go_sem,seval] at ok
 repeat' first|assumption|simp (disch:=first|assumption|omega|simp;try omega) only[go_sem,seval]|(with_reducible first|apply aa|intro)|(try rw[ae]);omega
 ·rw[ae];match leaves.length,hl with
  | 0,_|1,_|2,_|3,_=>decide
 have hN:(2:Int) ^ leaves.length=((2 ^ leaves.length:Nat):Int):=by simp
 have hN8:2 ^ leaves.length<=8:=by
  match leaves.length,hl with
  | 0,_|1,_|2,_|3,_=>decide
 rw[hN];refine ce (E:=env 0) tok (σ:=Nat) (fun x=>[(7,.d (dI (lV c v leaves x:Nat))),(15,.d (dI x)),(14,.d (dI (2 ^ leaves.length:Nat))),(0,.d (pC c)),(1,.d (dI v)),(2,.d (ai leaves))]) (fun _=>[])
  (fun x=>x<=2 ^ leaves.length) (fun x=>2 ^ leaves.length-x) [] 1000 1000 ?_ ?_ ?_
 ·simp only[go_sem,seval]
 ·simp only[go_sem,seval];exact⟨0,kr _,rfl,rfl⟩
 ·intro x hx;have htl:=yF c v leaves x;by_cases hlt:x<2 ^ leaves.length
  ·repeat' first|assumption|simp (disch:=first|assumption|omega|simp;try omega) only[go_sem,seval]|(with_reducible first|apply aa|intro)|(try rw[ae]);omega
   have hc0:fF c leaves x 0=false:=by
    rw[zd (Int.le_refl 0) (by have:=hc.am;omega),ng,if_neg (fun h=>by have:=(hz 0 h).1;omega)]
   refine ce (E:=env 0) tok (σ:=Nat×Kn) (fun s=>[(9,.map 0),(22,.d (dI s.1)),(20,.d (ai leaves)),(21,.d (dI leaves.length)),(8,.d (dI x)),(7,.d (dI (lV c v leaves x:Nat))),(15,.d (dI x)),(14,.d (dI (2 ^ leaves.length:Nat))),(0,.d (pC c)),(1,.d (dI v)),(2,.d (ai leaves))]) (fun s=>[.map (ka s.2)])
    (fun s=>s.1<=leaves.length/\kC c leaves x s.1 s.2) (fun s=>leaves.length-s.1) [] 1000 1000 ?_ ?_ ?_
   ·simp only[go_sem,seval]
   ·simp only[go_sem,seval];exact⟨(0,[(0,false)]),⟨kr _,kC.zero hc0⟩,rfl,rfl⟩
   ·rintro⟨k,m⟩ ⟨hk,hm⟩;simp only at hk hm;have hks:=Ad m;by_cases hlk:k<leaves.length
    ·have hzk:=hz _ (aP hlk:leaves.getD k 0∈leaves);have hid:leaves.idxOf (leaves.getD k 0)=k:=by
      refine CG hlk rfl fun j hj=>?_
      have h1:leaves.getD j 0=leaves[j]:=by simp[List.getD,show j<leaves.length by omega]
      have h2:leaves.getD k 0=leaves[k]:=by simp[List.getD,hlk]
      rw[h1,h2];have:=List.pairwise_iff_getElem.1 ha j k (by omega) hlk hj;omega
     have hcl:=EN hc (leaves:=leaves) (x:=x) (by omega) hzk.2 (aP hlk);rw[hid] at hcl;have hsa:=sr x k;have eu:=Al (leaves.getD k 0) (x.testBit k) m;have hup:=hm.up (b:=x.testBit k) hcl.symm;generalize hz9:leaves.getD k 0=z at *
     repeat' first|assumption|simp (disch:=first|assumption|omega|simp;try omega) only[go_sem,seval,hz9]|(with_reducible first|apply aa|intro)|(try rw[ae]);omega
     ·exact Int.ediv_nonneg (by omega) (Int.pow_nonneg (by decide))
     ·refine⟨(k+1,gY m z (x.testBit k)),⟨by omega,hup⟩,by omega,rfl,?_⟩;have hb:decide (((((x:Int)/2 ^ k).toNat &&& 1:Nat):Int)=1)=x.testBit k:=by
       rw[hsa];cases x.testBit k <;> simp
      rw[hb,eu]
    ·obtain rfl:k=leaves.length:=by omega
     have hok:=hm.ok
     repeat' first|assumption|simp (disch:=first|assumption|omega|simp;try omega) only[go_sem,seval]|(with_reducible first|apply aa|intro)|(try rw[ae]);omega
     refine iu (lN c hc leaves x (v.toNat+1) v m (by omega) hv0 hv hok) [0] (by simp only[go_sem,seval]) ?_;rintro r0 H1 ⟨m2,hm2,rfl,rfl⟩;simp only[go_sem,seval]
     repeat' first|assumption|simp (disch:=first|assumption|omega|simp;try omega) only[go_sem,seval]|(with_reducible first|apply aa|intro)|(try rw[ae]);omega
     ·rw[ae];have h2:2 ^ x<=2 ^ 8:=uS (by decide) (by omega);have hc2:(2:Int) ^ x=((2 ^ x:Nat):Int):=by simp
      rw[hc2];omega
     ·exact Int.pow_nonneg (by decide)
     ·have hp2:(2:Int) ^ x=((2 ^ x:Nat):Int):=by simp
      refine⟨x+1,hlt,by omega,?_,rfl⟩;rw[hp2,tZ,lV];rw[if_pos (by assumption)];have:=Nat.two_pow_add_eq_or_of_lt htl 1;simp only[jn] at this;rw[Nat.or_comm,<-this,Nat.add_comm]
     ·refine⟨x+1,hlt,by omega,?_,rfl⟩;rw[lV,if_neg (by simp_all)];rfl
  ·obtain rfl:x=2 ^ leaves.length:=by omega
   repeat' first|assumption|simp (disch:=first|assumption|omega|simp;try omega) only[go_sem,seval]|(with_reducible first|apply aa|intro)|(try rw[ae]);omega
   rfl

def ik:List Int->List Int
 | []=>[]
 | [x]=>[x]
 | x::y::r=>if x=y then ik (y::r) else x::ik (y::r)
def DF {z:Int} : ∀ (l:List Int),z∈ik l↔z∈l
 | []=>Iff.rfl
 | [x]=>Iff.rfl
 | x::y::r=>by
  have ih:=DF (z:=z) (y::r);by_cases hxy:x=y
  ·subst hxy;rw[ik,if_pos rfl,ih];simp
  ·rw[ik,if_neg hxy,jP,ih,jP (a:=z) (b:=x)]
def Jd : ∀ (l:List Int),l.Pairwise (·<=·)->gJ (ik l)
 | [],_=>List.Pairwise.nil
 | [x],_=>by show List.Pairwise _ [x];simp
 | x::y::r,h=>by
  have h2:=(List.pairwise_cons.1 h).2;have ih:=Jd (y::r) h2;by_cases hxy:x=y
  ·rw[ik,if_pos hxy];exact ih
  ·rw[ik,if_neg hxy];refine List.pairwise_cons.2 ⟨fun z hz=>?_,ih⟩;rw[DF] at hz;have hxz:=(List.pairwise_cons.1 h).1 z hz;have hxy':=(List.pairwise_cons.1 h).1 y (ld ..);rcases List.mem_cons.1 hz with rfl|hz'
   ·omega
   ·have:=(List.pairwise_cons.1 h2).1 z hz';omega
def join_eq {a b:List Int}(ha:gJ a) (hb:gJ b) (hp:l.Perm (a++b)) (hs:l.Pairwise (·<=·)):ik l=cy a b:=by
 refine KZ (Jd l hs) (w8 ha hb) fun z=>?_
 rw[DF,hp.mem_iff,fV,ow]
def oa (l:List Int) (n:Nat):List Int:=ik (l.take n)
def ES (x:Int) : ∀ (l:List Int),l≠[]->ik (l ++ [x])=if l.getLast?=some x then ik l else ik l ++ [x]
 | [],h=>absurd rfl h
 | [y],_=>by
  by_cases h:y=x
  ·subst h;simp[ik]
  ·simp[ik,h]
 | y::z::r,_=>by
  have ih:=ES x (z::r) (by simp);have e:(y::z::r).getLast?=(z::r).getLast?:=by simp[List.getLast?_cons_cons]
  rw[e];show ik (y::z::(r ++ [x]))=_
  rw[ik,ik];have e2:z::(r ++ [x])=(z::r) ++ [x]:=rfl;rw[e2,ih];by_cases hyz:y=z
  ·rw[if_pos hyz,if_pos hyz]
  ·rw[if_neg hyz,if_neg hyz];by_cases h:(z::r).getLast?=some x
   ·rw[if_pos h,if_pos h]
   ·rw[if_neg h,if_neg h];rfl
def Ay (h0:0<n) (h:n<l.length):oa l (n+1)=if l.getD n 0=l.getD (n-1) 0 then oa l n else oa l n ++ [l.getD n 0]:=by
 unfold oa;have hg:l.getD n 0=l[n]:=by simp[List.getD,h]
 have hg1:l.getD (n-1) 0=l[n-1]:=by simp[List.getD,show n-1<l.length by omega]
 have hne:l.take n≠[]:=by
  intro e;have:=congrArg List.length e;rw[fW,fm] at this;omega
 have hl:(l.take n).getLast?=some l[n-1]:=by
  rw[List.getLast?_eq_getElem?,fW,show min n l.length=n by omega,List.getElem?_take,if_pos (by omega)];simp[show n-1<l.length by omega]
 rw[m6 h,ES _ _ hne,hl,hg,hg1];by_cases e:l[n]=l[n-1]
 ·rw[if_pos (by rw[e]),if_pos e]
 ·rw[if_neg (by simpa using fun h=>e h.symm),if_neg e]
def Md (h:0<l.length):oa l 1=[l.getD 0 0]:=by
 match l,h with
 | x::r,_=>rfl
def B4 (l:List Int):oa l l.length=ik l:=by unfold oa;rw[iA]
structure gf (l m:List Int) (i j:Nat):Prop where
 perm:m.Perm l
 low : ∀ p q,p<q->q<=i->p≠j->q≠j->m.getD p 0<=m.getD q 0
 up : ∀ q,j<q->q<=i->m.getD j 0<=m.getD q 0
def uX (m:List Int) (j:Nat):List Int:=(m.set j (m.getD (j-1) 0)).set (j-1) (m.getD j 0)
def EM {a p:Nat}{x:Int}(h:a<m.length):(m.set a x).getD p 0=if p=a then x else m.getD p 0:=by
 by_cases e:p=a
 ·subst e;rw[if_pos rfl];simp[List.getD,h]
 ·rw[if_neg e];simp[List.getD,List.getElem?_set,Ne.symm e]
def OD (h:j<m.length) (h0:0<j) (p:Nat):(uX m j).getD p 0=if p=j then m.getD (j-1) 0 else if p=j-1 then m.getD j 0 else m.getD p 0:=by
 unfold uX;rw[EM (by rw[fB];omega),EM h];by_cases e1:p=j-1
 ·rw[if_pos e1,if_neg (by omega),if_pos e1]
 ·rw[if_neg e1];by_cases e2:p=j
  ·rw[if_pos e2,if_pos e2]
  ·rw[if_neg e2,if_neg e2,if_neg e1]
def JQ : ∀ {m:List Int}{j:Nat},j<m.length->0<j->(uX m j).Perm m
 | x::y::r,1,_,_=>by
  show(y::x::r).Perm (x::y::r)
  exact List.Perm.swap x y r
 | x::r,j+2,h,_=>by
  have ih:=JQ (m:=r) (j:=j+1) (by simp at h;omega) (by omega);have e:uX (x::r) (j+2)=x::uX r (j+1):=by simp[uX,List.set]
  rw[e];exact ih.cons x
def gf.swap (h:gf l m i j) (hi:i<m.length) (hj:j<=i) (h0:0<j) (hlt:m.getD j 0<m.getD (j-1) 0):gf l (uX m j) i (j-1):=by
 have g:=OD (m:=m) (j:=j) (by omega) h0;refine⟨(JQ (by omega) h0).trans h.perm,fun p q hpq hq hp1 hq1=>?_,fun q hq hqi=>?_⟩
 ·rw[g,g];rw[if_neg hp1,if_neg hq1] at *
  by_cases e1:p=j
  ·rw[if_pos e1,if_neg (by omega)];have:=h.low (j-1) q (by omega) hq (by omega) (by omega);exact this
  ·rw[if_neg e1];by_cases e2:q=j
   ·rw[if_pos e2];exact h.low p (j-1) (by omega) (by omega) e1 (by omega)
   ·rw[if_neg e2];exact h.low p q hpq hq e1 e2
 ·rw[g,g,if_neg (by omega),if_pos rfl];by_cases e1:q=j
  ·rw[if_pos e1];omega
  ·rw[if_neg e1,if_neg (by omega)];exact h.up q (by omega) hqi
def bX (l m:List Int) (i:Nat):Prop:=m.Perm l/\∀ p q,p<q->q<i->m.getD p 0<=m.getD q 0
def gf.start (h:bX l m i):gf l m i i:=
 ⟨h.1,fun p q hpq hq _ hq1=>h.2 p q hpq (by omega),fun q hq hqi=>by omega⟩
def gf.done (h:gf l m i j) (hj:j<=i) (hd:j=0∨m.getD (j-1) 0<=m.getD j 0):bX l m (i+1):=by
 refine⟨h.perm,fun p q hpq hq=>?_⟩;by_cases e1:p=j
 ·subst e1;exact h.up q hpq (by omega)
 ·by_cases e2:q=j
  ·subst e2;rcases hd with hd|hd
   ·omega
   ·by_cases e3:p=q-1
    ·rw[e3];exact hd
    ·exact Int.le_trans (h.low p (q-1) (by omega) (by omega) e1 (by omega)) hd
  ·exact h.low p q hpq (by omega) e1 e2
def bX.pairwise (h:bX l m m.length):m.Pairwise (·<=·):=by
 rw[zf];intro i j hi hj hij;have:=h.2 i j hij hj;simpa [List.getD,hi,hj] using this

def bX.all (h:bX l m i) (hi:l.length<=i):bX l m l.length:=⟨h.1,fun p q hpq hq=>h.2 p q hpq (by omega)⟩
def bX.len (h:bX l m i):m.length=l.length:=h.1.length_eq
def Ic (s:ByteArray) (i:Nat):0<=rt s i/\rt s i<=255:=by
 unfold rt;split
 ·rename_i b _;have:=b.toNat_lt;omega
 ·omega
def Jm (s:ByteArray) (i:Nat):cp .i64 (rt s i):=by
 have:=Ic s i;rw[ae];omega
def bX.self (l:List Int):bX l l 1:=⟨List.Perm.refl _,fun p q hpq hq=>by omega⟩
def Tryz.nX (x:Int):Pure prog 246 [dI x] (.bool false):=by
 refine bw func246 rfl ntmps246 fun ok=>?_
 simp only[go_sem,seval] at ok⊢
def Tryz.u0 (x y:Int):Pure prog 236 [dI x,dI y] (.bool (decide (x<y))):=by
 have hx:=nX x;refine bw func236 rfl ntmps236 fun ok=>?_
 simp only[go_sem,seval] at ok
 repeat' first|assumption|simp (disch:=first|assumption|omega|simp;try omega) only[go_sem,seval,ag]|(with_reducible first|apply aa|intro)|(refine aA hx ?_)|(refine io (fun _=>nX _) ?_)|exact ah|(try rw[ae]);omega
def Tryz.oJ (g:Nat) (l:List Int) (hl:l.length<=1000):aQ prog 230 [.sl 0 g 1 0 l.length,.d (dI 0),.d (dI l.length)] [.row g 1 true (l.map (D.int .i64))] (fun _ H'=>∃ m,bX l m l.length/\H'=[.row g 1 true (m.map (D.int .i64))]):=by
 refine jp (E:=env 1) tok rfl 1000 func230 rfl rfl ntmps230 (by simp) ?_
 repeat' first|assumption|simp (disch:=first|assumption|omega|simp;try omega) only[go_sem,seval,ag]|(with_reducible first|apply aa|intro)|exact ah|(try rw[ae]);omega
 refine ce (E:=env 1) tok (σ:=Nat×List Int) (fun s=>[(6,.d (dI s.1)),(0,.sl 0 g 1 0 l.length),(1,.d (dI 0)),(2,.d (dI l.length))]) (fun s=>[.row g 1 true (s.2.map (D.int .i64))])
  (fun s=>bX l s.2 s.1/\1<=s.1/\s.1<=1001) (fun s=>1001-s.1) [] 1000 1000 ?_ ?_ ?_
 ·simp only[go_sem,seval]
 ·simp only[go_sem,seval];exact⟨(1,l),⟨bX.self l,by simp,by simp⟩,rfl,rfl⟩
 ·rintro⟨i,m⟩ ⟨hs,hi1,bW⟩;simp only at hs hi1 bW;have hlen:=hs.len;by_cases hlt:i<l.length
  ·repeat' first|assumption|simp (disch:=first|assumption|omega|simp;try omega) only[go_sem,seval,ag]|(with_reducible first|apply aa|intro)|exact ah|(try rw[ae]);omega
   refine ce (E:=env 1) tok (σ:=Nat×List Int) (fun s=>[(7,.d (dI s.1)),(6,.d (dI i)),(0,.sl 0 g 1 0 l.length),(1,.d (dI 0)),(2,.d (dI l.length))]) (fun s=>[.row g 1 true (s.2.map (D.int .i64))])
    (fun s=>gf l s.2 i s.1/\s.1<=i) (fun s=>s.1) [] 1000 1000 ?_ ?_ ?_
   ·simp only[go_sem,seval]
   ·simp only[go_sem,seval];exact⟨(i,m),⟨gf.start hs,aC _⟩,rfl,rfl⟩
   ·rintro⟨j,m2⟩ ⟨ho,hji⟩;simp only at ho hji;have hlen2:m2.length=l.length:=ho.perm.length_eq;have hle:=u0 (m2.getD j 0) (m2.getD (j-1) 0);have ej:((j:Int)-1).toNat=j-1:=by omega
    repeat' first|assumption|simp (disch:=first|assumption|omega|simp;try omega) only[go_sem,seval,ej,ag]|(with_reducible first|apply aa|intro)|(refine io (fun _=>hle) ?_)|(refine nP (fun _=>⟨hle,trivial⟩) ?_)|exact ah|(try rw[ae]);omega
    ·rename_i h9;refine cg (n:=1) [15,17] (aw [0,1,2,3,4,5,6,7,8,10,11,12,9,13,14] (.one 15 (.fst 16 (.one 17 .done)))) ?_
     repeat' first|assumption|simp (disch:=first|assumption|omega|simp;try omega) only[go_sem,seval,ej,ag]|(with_reducible first|apply aa|intro)|exact ah|(try rw[ae]);omega
     have hj9:0<j:=by omega
     have hlt9:m2.getD j 0<m2.getD (j-1) 0:=by omega
     exact⟨(j-1,uX m2 j),⟨ho.swap (by omega) hji hj9 hlt9,by simp only;omega⟩,by simp only;omega,by simp only;omega,rfl⟩
    ·rename_i h9;refine⟨(i+1,m2),⟨ho.done hji ?_,by simp only;omega,by simp only;omega⟩,by simp only;omega,rfl,rfl⟩;by_cases h0:j=0
     ·exact .inl h0
     ·right;have h0':(0:Int)<(j:Int):=by omega
      first|omega|(rcases h9 with h9|h9 <;> omega)|(simp only[h0',true_and,Int.not_lt] at h9;exact h9)
  ·repeat' first|assumption|simp (disch:=first|assumption|omega|simp;try omega) only[go_sem,seval,ag]|(with_reducible first|apply aa|intro)|exact ah|(try rw[ae]);omega
   refine pr (r0:=.tup []) (H1:=[.row g 1 true (m.map (D.int .i64))]) ?_ ⟨m,hs.all (by omega),rfl⟩;simp only[go_sem,seval]
def Tryz.r6 (x:Int) (h:0<=x/\x<=255):dM prog 240 [.int .u64 x] (fun y=>∃ n:Int,y=dI n/\0<=n/\n<=255):=by
 refine BB (E:=env 0) tok rfl 1000 func240 rfl rfl ntmps240 (by simp) fun ok=>?_
 simp only[go_sem,seval] at ok
 repeat' first|assumption|simp (disch:=first|assumption|omega|simp;try omega) only[go_sem,seval,ag]|(with_reducible first|apply aa|intro)|exact ah|(try rw[ae]);omega
 ·refine Nat.lt_of_lt_of_eq (m:=256) (by omega) (by decide)
 ·exact Jm _ _
 ·exact Jm _ _
 ·exact⟨_,rfl,_,rfl,Ic _ _⟩
def Tryz.y7 (x:Int) (h:0<=x/\x<=255):dM prog 228 [.int .u64 x] (fun y=>∃ n:Int,y=dI n/\0<=n/\n<=255):=by
 refine BB (E:=env 0) tok rfl 1000 func228 rfl rfl ntmps228 (by simp) fun ok=>?_
 simp only[go_sem,seval] at ok
 repeat' first|assumption|simp (disch:=first|assumption|omega|simp;try omega) only[go_sem,seval,ag]|(with_reducible first|apply aa|intro)|exact ah|(try rw[ae]);omega
 refine Bj (r6 x h) ?_;rintro y ⟨n,rfl,hn⟩
 repeat' first|assumption|simp (disch:=first|assumption|omega|simp;try omega) only[go_sem,seval,ag]|(with_reducible first|apply aa|intro)|exact ah|(try rw[ae]);omega
 exact⟨_,rfl,n,rfl,hn⟩
def Tryz.yk (g:Nat) (l:List Int) (hl:l.length<=12) (fj:Int):aQ prog 227 [.sl 0 g 1 0 l.length,.d (dI 0),.d (dI l.length),.d (dI fj)] [.row g 1 true (l.map (D.int .i64))] (fun _ H'=>∃ m,bX l m l.length/\H'=[.row g 1 true (m.map (D.int .i64))]):=by
 refine jp (E:=env 1) tok rfl 1000 func227 rfl rfl ntmps227 (by simp) ?_
 repeat' first|assumption|simp (disch:=first|assumption|omega|simp;try omega) only[go_sem,seval,ag]|(with_reducible first|apply aa|intro)|exact ah|(try rw[ae]);omega
 refine A5 (E:=env 1) tok 2 1000 1000 ?_;refine kS ?_;have hin:=oJ g l (by omega)
 repeat' first|assumption|simp (disch:=first|assumption|omega|simp;try omega) only[go_sem,seval,ag]|(with_reducible first|apply aa|intro)|exact ah|(try rw[ae]);omega
 refine iu hin [0] (by simp only[go_sem,seval]) ?_;rintro r0 H1 ⟨m,hm,rfl⟩
 repeat' first|assumption|simp (disch:=first|assumption|omega|simp;try omega) only[go_sem,seval,ag]|(with_reducible first|apply aa|intro)|exact ah|(try rw[ae]);omega
 refine pr (r0:=.tup []) (H1:=[.row g 1 true (m.map (D.int .i64))]) ?_ ⟨m,hm,rfl⟩;simp only[go_sem,seval]
def Tryz.wi (g:Nat) (l:List Int) (hl:l.length<=12):aQ prog 218 [.sl 0 g 1 0 l.length] [.row g 1 true (l.map (D.int .i64))] (fun _ H'=>∃ m,bX l m l.length/\H'=[.row g 1 true (m.map (D.int .i64))]):=by
 refine jp (E:=env 1) tok rfl 1000 func218 rfl rfl ntmps218 (by simp) ?_
 repeat' first|assumption|simp (disch:=first|assumption|omega|simp;try omega) only[go_sem,seval,ag]|(with_reducible first|apply aa|intro)|exact ah|(try rw[ae]);omega
 ·rw[sR];omega
 refine Bj (y7 (l.length:Int) (by omega)) ?_;rintro y ⟨n,rfl,hn⟩
 repeat' first|assumption|simp (disch:=first|assumption|omega|simp;try omega) only[go_sem,seval,ag]|(with_reducible first|apply aa|intro)|exact ah|(try rw[ae]);omega
 refine iu (yk g l hl n) [0] (by simp only[go_sem,seval]) ?_;rintro r0 H1 ⟨m,hm,rfl⟩
 repeat' first|assumption|simp (disch:=first|assumption|omega|simp;try omega) only[go_sem,seval,ag]|(with_reducible first|apply aa|intro)|exact ah|(try rw[ae]);omega
 refine pr (r0:=.tup []) (H1:=[.row g 1 true (m.map (D.int .i64))]) ?_ ⟨m,hm,rfl⟩;simp only[go_sem,seval]
structure fJ (l m:List Int) (k q:Nat):Prop where
 len:m.length=l.length
 pre:m.take k=oa l q
 kl:k=(oa l q).length
 lt:k<q
 rest : ∀ p,q<=p+1->m.getD p 0=l.getD p 0
def fJ.same (h:fJ l m k q) (hq:q<l.length) (h0:0<q) (he:l.getD q 0=l.getD (q-1) 0):fJ l m k (q+1):=by
 have hd:=Ay h0 hq;rw[if_pos he] at hd;exact⟨h.len,by rw[hd];exact h.pre,by rw[hd];exact h.kl,by have:=h.lt;omega,fun p hp=>h.rest p (by omega)⟩
def fJ.put (h:fJ l m k q) (hq:q<l.length) (h0:0<q) (he:l.getD q 0≠l.getD (q-1) 0):fJ l (m.set k (l.getD q 0)) (k+1) (q+1):=by
 have hd:=Ay h0 hq;rw[if_neg he] at hd;have hkq:=h.lt;have hlen:=h.len;refine⟨by rw[fB];exact h.len,?_,by rw[hd,cr,<-h.kl];rfl,by omega,fun p hp=>?_⟩
 ·rw[hd,<-h.pre];apply List.ext_getElem?;intro p;rw[List.getElem?_take,List.getElem?_append,fW];by_cases h1:p<k
  ·rw[if_pos (by omega),if_pos (by omega),List.getElem?_take,if_pos h1,List.getElem?_set,if_neg (by omega)]
  ·rw[if_neg (by omega : ¬ p<min k m.length)];by_cases h2:p=k
   ·subst h2;rw[if_pos (by omega),List.getElem?_set,if_pos rfl,if_pos (by omega),show p-min p m.length=0 by omega];rfl
   ·rw[if_neg (by omega)];simp[show min k m.length=k by omega];omega
 ·rw[EM (by omega),if_neg (by omega)];exact h.rest p (by omega)
def fJ.start (hk:k<l.length) (h0:0<k) (hd:oa l k=l.take k) (he:l.getD k 0=l.getD (k-1) 0):fJ l l k (k+1):=by
 have h:=Ay h0 hk;rw[if_pos he] at h;refine⟨rfl,by rw[h,hd],by rw[h,hd,fW];omega,by omega,fun _ _=>rfl⟩
def Nv (hk:k<l.length) (h0:0<k) (hd:oa l k=l.take k) (he:l.getD k 0≠l.getD (k-1) 0):oa l (k+1)=l.take (k+1):=by
 have h:=Ay h0 hk;rw[if_neg he] at h;rw[h,hd,m6 hk];simp[List.getD,hk]
def Tryz.ou (g:Nat) (l:List Int) (hl:l.length<=1000):aQ prog 219 [.sl 0 g 1 0 l.length] [.row g 1 true (l.map (D.int .i64))] (fun r H'=>∃ g',r=.sl 0 g' 1 0 (ik l).length/\H'=[.row g' 1 true ((ik l).map (D.int .i64))]):=by
 refine jp (E:=env 1) tok rfl 1000 func219 rfl rfl ntmps219 (by simp) ?_
 repeat' first|assumption|simp (disch:=first|assumption|omega|simp;try omega) only[go_sem,seval,ag]|(with_reducible first|apply aa|intro)|exact ah|(try rw[ae]);omega
 ·rename_i h2;have hd:ik l=l:=by
   match l,h2 with
   | [],_=>rfl
   | [x],_=>rfl
   | x::y::r,h2=>simp at h2;omega
  refine pr (r0:=.sl 0 g 1 0 l.length) (H1:=[.row g 1 true (l.map (D.int .i64))]) ?_ ⟨g,by rw[hd],by rw[hd];rfl⟩;simp only[go_sem,seval]
 rename_i h2;refine ce (E:=env 1) tok (σ:=Nat) (fun k=>[(3,.d (dI k)),(0,.sl 0 g 1 0 l.length)]) (fun _=>[.row g 1 true (l.map (D.int .i64))])
  (fun k=>1<=k/\k<=l.length/\oa l k=l.take k) (fun k=>l.length-k) [] 1000 1000 ?_ ?_ ?_
 ·simp only[go_sem,seval]
 ·simp only[go_sem,seval];refine⟨1,⟨by omega,by omega,?_⟩,rfl⟩;rw[Md (by omega)];match l,h2 with
  | x::r,_=>rfl
 ·rintro k ⟨hk1,hkl,hd⟩;by_cases hlt:k<l.length
  ·have ek:((k:Int)-1).toNat=k-1:=by omega
   repeat' first|assumption|simp (disch:=first|assumption|omega|simp;try omega) only[go_sem,seval,ek,ag]|(with_reducible first|apply aa|intro)|exact ah|(try rw[ae]);omega
   ·rename_i h9;have en:((l.length:Int)-(k:Int)).toNat=l.length-k:=by omega
    rw[en];refine ce (E:=env 1) tok (σ:=Nat×Nat×List Int) (fun s=>[(5,.d (dI s.1)),(4,.sl 0 g 1 k (l.length-k)),(3,.d (dI s.2.1)),(0,.sl 0 g 1 0 l.length)]) (fun s=>[.row g 1 true (s.2.2.map (D.int .i64))])
     (fun s=>1<=s.1/\s.1<=l.length-k/\fJ l s.2.2 s.2.1 (k+s.1)) (fun s=>l.length-s.1) [] 1000 1000 ?_ ?_ ?_
    ·simp only[go_sem,seval]
    ·simp only[go_sem,seval];exact⟨(1,k,l),⟨by simp,by simp only;omega,fJ.start hlt hk1 hd h9⟩,⟨rfl,rfl⟩,rfl⟩
    ·rintro⟨k2,kk,m⟩ ⟨hk21,hk22,hm⟩;simp only at hk21 hk22 hm;have hml:=hm.len;have hmlt:=hm.lt;by_cases hlt2:k2<l.length-k
     ·have e1:((k2:Int)-1).toNat=k2-1:=by omega
      have r1:=hm.rest (k+k2) (by omega);have r2:=hm.rest (k+(k2-1)) (by omega);have e2:k+(k2-1)=k+k2-1:=by omega
      have e3:k+k2+1=k+(k2+1):=by omega
      repeat' first|assumption|simp (disch:=first|assumption|omega|simp;try omega) only[go_sem,seval,e1,r1,r2,ag]|(with_reducible first|apply aa|intro)|exact ah|(try rw[ae]);omega
      ·rename_i h10;rw[e2] at h10;exact⟨(k2+1,kk+1,m.set kk (l.getD (k+k2) 0)),⟨by simp only;omega,by simp only;omega,by simp only;rw[<-e3];exact hm.put (by omega) (by omega) (by simpa using h10)⟩,by simp only;omega,⟨rfl,rfl⟩,rfl⟩
      ·rename_i h10;rw[e2] at h10;exact⟨(k2+1,kk,m),⟨by simp only;omega,by simp only;omega,by simp only;rw[<-e3];exact hm.same (by omega) (by omega) (by simpa using h10)⟩,by simp only;omega,⟨rfl,rfl⟩,rfl⟩
     ·obtain rfl:k2=l.length-k:=by omega
      have hke:k+(l.length-k)=l.length:=by omega
      rw[hke] at hm hmlt;have hpre:m.take kk=ik l:=by rw[hm.pre,B4]
      have hkd:(ik l).length=kk:=by rw[<-B4];exact hm.kl.symm
      repeat' first|assumption|simp (disch:=first|assumption|omega|simp;try omega) only[go_sem,seval,ag]|(with_reducible first|apply aa|intro)|exact ah|(try rw[ae]);omega
      refine GB (i:=0) (g:=g) (m:=kk) rfl rfl ?_;refine tE ⟨g+1,by rw[hkd],?_⟩;have hsp:(VL.splice m kk (List.replicate ((l.length:Int)-(kk:Int)).toNat 0)).take kk=m.take kk:=by
       unfold VL.splice;rw[fS,List.take_append_of_le_length (by rw[fW];omega),ag (by rw[fW];omega)]
      show [R.row (g+1) 1 (DP.own []) (List.take kk (List.map _ _))]=_
      rw[<-List.map_take,hsp,hpre]
   ·rename_i h9;exact⟨k+1,⟨by omega,by omega,Nv hlt hk1 hd h9⟩,by omega,rfl⟩
  ·obtain rfl:k=l.length:=by omega
   have hda:ik l=l:=by rw[<-B4,hd,iA]
   repeat' first|assumption|simp (disch:=first|assumption|omega|simp;try omega) only[go_sem,seval,ag]|(with_reducible first|apply aa|intro)|exact ah|(try rw[ae]);omega
   refine pr (r0:=.sl 0 g 1 0 l.length) (H1:=[.row g 1 true (l.map (D.int .i64))]) ?_ ⟨g,by rw[hda],by rw[hda];rfl⟩;simp only[go_sem,seval]
def Tryz.ve (n:Nat) (hn:0<n/\n<=1000):aQ prog 226 [.d .nil,.d (dI n)] [] (fun r H'=>∃ g',r=.sl 0 g' 1 0 0/\H'=[.row g' 1 true []]):=by
 refine jp (E:=env 0) tok rfl 1000 func226 rfl rfl ntmps226 (by simp) ?_
 repeat' first|assumption|simp (disch:=first|assumption|omega|simp;try omega) only[go_sem,seval,ag]|(with_reducible first|apply aa|intro)|exact ah|(try rw[ae]);omega
 refine GB (i:=0) (g:=0) (m:=0) rfl rfl ?_;exact tE ⟨1,rfl,by simp⟩
end Go.Proofs

/- Contracts, plain definitions and lemmas. Conditions: none; lemmas. -/
import Derived.Test.YteikeianenfhaaaGreatC12
set_option maxRecDepth 20000
set_option linter.unusedSimpArgs false
set_option linter.unusedVariables false
set_option maxHeartbeats 2000000
set_option linter.defProp false
namespace Go.Proofs
open Go Go.VL Tryz
variable {i f:Nat}{H:ZF}{first r:Int}{u:ZB}
@[go_sem] def Yz {k:IntKind}{a b z:Int}{m:Nat}:[D.int k a,D.int k b].getD m (D.int k z)=D.int k ([a,b].getD m z):=by
 rcases m with _|_|m <;> rfl
def Tryz.nP (b:ZA) (p n:Int) (hb:Bytes b) (hp:0<=p/\p<=100000000) (hn:n<=1000) :
  aA prog 159 [.ptr 0 0,.d (dI n)] [rd b p] (fun r H'=>∃ (l:ZB),l.length=n.toNat/\r=.d (cf l)/\H'=[rd b (p+(n.toNat:Int))]):=by
 refine i9 rfl 1000 func159 rfl rfl ntmps159 (by simp) ?_;simp only[go_sem,seval];refine pA (σ:=ZB) (fun l=>[(0,.ptr 0 0),(1,.d (dI n)),(5,.sl 1 l.length 1 0 l.length),(6,.d (dI l.length))]) (fun l=>[rd b (p+(l.length:Int)),.row l.length 1 true (l.map D.bool)]) (fun l=>l.length<=n.toNat) (fun l=>n.toNat-l.length) [] 1000 1000 ?_ ?_ ?_
 ·simp only[go_sem,seval]
 ·simp only[go_sem,seval];exact⟨[],by simp,by simp⟩
 ·intro l hl;simp only[go_sem,seval];refine⟨fun h1=>?_,fun h1=>?_⟩
  ·refine c7 (nB b (p+(l.length:Int)) 2 hb (by omega)) [0] (by simp only[go_sem,seval]) ?_;rintro r0 H1 ⟨x,hx,rfl,rfl⟩
   repeat' first|simp (disch:=omega) only[go_sem,seval]|(with_reducible first|apply aa|intro)|(try rw[ae]);omega
   refine⟨l ++ [decide (x=1)],by simp;omega,by simp;omega,?_⟩;simp;rw[Int.add_assoc]
  ·refine fI (r0:=.d (cf l)) (H1:=[rd b (p+(l.length:Int))]) ?_ ⟨l,by omega,rfl,by rw[show l.length=n.toNat by omega]⟩;simp only[go_sem,seval]
def Tryz.lK (b:ZA) (p n:Int) (hb:Bytes b) (hp:0<=p/\p<=100000000) (hn:0<=n/\n<=1000) :
  aA prog 66 [.ptr 0 0,.d (dI n)] [rd b p] (fun r H'=>∃ (c:ac) (q:Int),(p<=q/\q<=p+200)/\(c.next.length<=40/\c.gates.length<=40/\c.outs.length<=40/\-1<=c.inputs/\c.inputs<=5)/\r=.d (dC c)/\H'=[rd b q]):=by
 refine i9 rfl 1000 func66 rfl rfl ntmps66 (by simp) ?_;simp only[go_sem,seval];refine cB hb (by omega) fun x1 hx1=>?_
 simp only[go_sem,seval];refine cB hb (by omega) fun x2 hx2=>?_
 simp only[go_sem,seval];refine⟨by rw[ae];omega,by rw[ae];omega,?_⟩;refine cB hb (by omega) fun x3 hx3=>?_
 simp only[go_sem,seval];refine Gs (σ:=List (Int×Int)×Int×Int×Int) (fun s=>[(0,.ptr 0 0),(1,.d (dI n)),(4,.ptr 1 0),(5,.ptr 2 0),(6,.d (dI x2)),(7,.d (dI s.2.1)),(8,.d (dI s.2.2.1))])
  (fun s=>[rd b s.2.2.2,.box [.d (dI 0),.d .nil,.d .nil,.d .nil],.box [.d (dI x1),.d .nil,.sl 3 s.1.length 2 0 s.1.length,.d .nil],.row s.1.length 2 true (s.1.map dP)])
  (fun s=>0<=s.2.2.1/\s.1.length+s.2.2.1<=14/\1<=s.2.1/\s.2.1<=8+s.1.length/\p<=s.2.2.2/\s.2.2.2<=p+3+4*s.1.length) (fun s=>s.2.2.1.toNat) [(2,2,2,true)] [] 1000 1000 ?_ ?_ ?_ ?_
 ·simp only[go_sem,seval]
 ·simp only[go_sem,seval]
 ·simp only[go_sem,seval];exact⟨([],x1+x2+1,x3,p+1+1+1),by simp;omega,by simp⟩
 ·rintro⟨G,v,k,q⟩ hi;simp only at hi;simp only[go_sem,seval];refine⟨fun h1=>?_,fun h1=>?_⟩
  ·repeat' first|simp (disch:=omega) only[go_sem,seval]|(with_reducible first|apply aa|intro)|(refine cB hb (by omega) ?_)|(try rw[ae]);omega
   ·exact⟨(G ++ [_],v+1,k-1,_),by simp only[b8,eD,kr];omega,by simp only;omega,⟨rfl,rfl⟩,rfl,by simp,by simp,rfl⟩
   ·exact⟨(G ++ [_],v+1,k-1,_),by simp only[b8,eD,kr];omega,by simp only;omega,⟨rfl,rfl⟩,rfl,by simp,by simp,rfl⟩
  ·refine Gs (σ:=ZA×Int) (fun s=>[(0,.ptr 0 0),(1,.d (dI n)),(4,.ptr 1 0),(5,.ptr 2 0),(6,.d (dI x2)),(7,.d (dI v)),(11,.d (dI s.1.length))])
    (fun s=>[rd b s.2,.box [.d (dI 0),.d .nil,.d .nil,.d .nil],.box [.d (dI x1),.sl 4 s.1.length 1 0 s.1.length,.sl 3 G.length 2 0 G.length,.d .nil],.row G.length 2 true (G.map dP),.row s.1.length 1 true (s.1.map (D.int .i64))])
    (fun s=>s.1.length<=x2/\p<=s.2/\s.2<=p+60+s.1.length) (fun s=>x2.toNat-s.1.length) [(2,1,1,true)] [] 1000 1000 ?_ ?_ ?_ ?_
   ·simp only[go_sem,seval]
   ·simp only[go_sem,seval]
   ·simp only[go_sem,seval];exact⟨([],q),by simp;omega,by simp⟩
   ·rintro⟨N,q2⟩ bJ;simp only at bJ;simp only[go_sem,seval];refine⟨fun h2=>?_,fun h2=>?_⟩
    ·refine co (n:=1) [5,7,9] (ax [0,2,3,4] (.two 1 (.one 5 (.one 6 (.one 7 (.fst 8 (.one 9 .done))))) 5 (.two 1 (.one 6 (.one 7 (.fst 8 (.one 9 .done)))) 6 (.one 1 (.one 7 (.fst 8 (.one 9 .done))))))) ?_
     repeat' first|simp (disch:=omega) only[go_sem,seval]|(with_reducible first|apply aa|intro)|(refine cB hb (by omega) ?_)|(try rw[ae]);omega
     all_goals exact⟨(N ++ [_],_),by simp only[b8,eD,kr];omega,by simp only[b8,eD,kr];omega,by simp,rfl,by simp,by simp,rfl⟩
    ·refine cB hb (by omega) fun x4 hx4=>?_
     simp only[go_sem,seval];refine Gs (σ:=ZA×Int×Int) (fun s=>[(0,.ptr 0 0),(1,.d (dI n)),(4,.ptr 1 0),(5,.ptr 2 0),(7,.d (dI v)),(12,.d (dI s.2.1))])
      (fun s=>[rd b s.2.2,.box [.d (dI 0),.d .nil,.d .nil,.d .nil],.box [.d (dI x1),.sl 4 N.length 1 0 N.length,.sl 3 G.length 2 0 G.length,.sl 5 s.1.length 1 0 s.1.length],.row G.length 2 true (G.map dP),.row N.length 1 true (N.map (D.int .i64)),.row s.1.length 1 true (s.1.map (D.int .i64))])
      (fun s=>0<=s.2.1/\s.1.length+s.2.1<=4/\p<=s.2.2/\s.2.2<=p+70+3*s.1.length) (fun s=>s.2.1.toNat) [(2,3,1,true)] [] 1000 1000 ?_ ?_ ?_ ?_
     ·simp only[go_sem,seval]
     ·simp only[go_sem,seval]
     ·simp only[go_sem,seval];exact⟨([],x4,q2+1),by simp;omega,by simp⟩
     ·rintro⟨O,k3,q3⟩ hi3;simp only at hi3;simp only[go_sem,seval];refine⟨fun h3=>?_,fun h3=>?_⟩
      ·refine co (n:=1) [9,14,17,21,23] (ax [0,2,3,4,5,6,7,8,11,12,13,16] (.two 1 (.one 9 (.fst 10 (.one 14 (.two 15 (.one 17 (.fst 18 (.one 19 (.one 20 (.one 21 (.fst 22 (.one 23 .done))))))) 17 (.one 15 (.fst 18 (.one 19 (.one 20 (.one 21 (.fst 22 (.one 23 .done))))))))))) 9 (.fst 10 (.two 1 (.one 14 (.two 15 (.one 17 (.fst 18 (.one 19 (.one 20 (.one 21 (.fst 22 (.one 23 .done))))))) 17 (.one 15 (.fst 18 (.one 19 (.one 20 (.one 21 (.fst 22 (.one 23 .done))))))))) 14 (.three 1 (.two 15 (.one 17 (.fst 18 (.one 19 (.one 20 (.one 21 (.fst 22 (.one 23 .done))))))) 17 (.one 15 (.fst 18 (.one 19 (.one 20 (.one 21 (.fst 22 (.one 23 .done)))))))) 15 (.two 1 (.one 17 (.fst 18 (.one 19 (.one 20 (.one 21 (.fst 22 (.one 23 .done))))))) 17 (.fst 18 (.two 1 (.one 19 (.one 20 (.one 21 (.fst 22 (.one 23 .done))))) 19 (.two 1 (.one 20 (.one 21 (.fst 22 (.one 23 .done)))) 20 (.one 1 (.one 21 (.fst 22 (.one 23 .done)))))))) 17 (.two 1 (.one 15 (.fst 18 (.one 19 (.one 20 (.one 21 (.fst 22 (.one 23 .done))))))) 15 (.fst 18 (.two 1 (.one 19 (.one 20 (.one 21 (.fst 22 (.one 23 .done))))) 19 (.two 1 (.one 20 (.one 21 (.fst 22 (.one 23 .done)))) 20 (.one 1 (.one 21 (.fst 22 (.one 23 .done))))))))))))) ?_
       repeat' first|simp (disch:=omega) only[go_sem,seval]|(with_reducible first|apply aa|intro)|(refine cB hb (by omega) ?_)|(try rw[ae]);omega
       all_goals exact⟨(O ++ [_],k3-1,_),by simp only[b8,eD,kr];omega,by simp only;omega,rfl,rfl,by simp,by simp,rfl⟩
      ·refine xK hb (by omega) hn fun x5 q5 hq5 hx5=>?_
       simp only[go_sem,seval];refine⟨fun h4=>?_,fun h4=>?_⟩
       ·refine cB hb (by omega) fun x6 hx6=>?_
        repeat' first|simp (disch:=omega) only[go_sem,seval]|(with_reducible first|apply aa|intro)|(refine cB hb (by omega) ?_)|(try rw[ae]);omega
        ·rename_i z hz;have hz5 : -1<=([-1,5]:ZA).getD z.toNat 0/\([-1,5]:ZA).getD z.toNat 0<=5:=by
          rcases(show z=0∨z=1 by omega) with rfl|rfl <;> decide
         refine fI (r0:=.d (dC ⟨[-1,5].getD z.toNat 0,N,G,O⟩)) (H1:=[rd b (q5+1+1)]) ?_ ⟨⟨_,N,G,O⟩,q5+1+1,by omega,by simp only;omega,rfl,rfl⟩;simp only[go_sem,seval]
        ·refine co (n:=1) [6,10,12] (ax [0,2,3,5] (.three 1 (.two 4 (.one 6 (.fst 7 (.one 8 (.one 9 (.one 10 (.fst 11 (.one 12 .done))))))) 6 (.one 4 (.fst 7 (.one 8 (.one 9 (.one 10 (.fst 11 (.one 12 .done)))))))) 4 (.two 1 (.one 6 (.fst 7 (.one 8 (.one 9 (.one 10 (.fst 11 (.one 12 .done))))))) 6 (.fst 7 (.two 1 (.one 8 (.one 9 (.one 10 (.fst 11 (.one 12 .done))))) 8 (.two 1 (.one 9 (.one 10 (.fst 11 (.one 12 .done)))) 9 (.one 1 (.one 10 (.fst 11 (.one 12 .done)))))))) 6 (.two 1 (.one 4 (.fst 7 (.one 8 (.one 9 (.one 10 (.fst 11 (.one 12 .done))))))) 4 (.fst 7 (.two 1 (.one 8 (.one 9 (.one 10 (.fst 11 (.one 12 .done))))) 8 (.two 1 (.one 9 (.one 10 (.fst 11 (.one 12 .done)))) 9 (.one 1 (.one 10 (.fst 11 (.one 12 .done)))))))))) ?_
         repeat' first|simp (disch:=omega) only[go_sem,seval]|(with_reducible first|apply aa|intro)|(refine cB hb (by omega) ?_)|(try rw[ae]);omega
         all_goals (
          rename_i z hz;refine fI (r0:=.d (dC ⟨x1,N,G,O ++ [[-1,2*v].getD z.toNat 0]⟩)) (H1:=[rd b (q5+1+1)]) ?_ ⟨⟨x1,N,G,O ++ [[-1,2*v].getD z.toNat 0]⟩,q5+1+1,by omega,by simp only[b8,eD,kr];omega,rfl,rfl⟩;simp only[go_sem,seval];rw[ag (by simp)])
        ·refine fI (r0:=.d (dC ⟨x1,N ++ [-1],G,O⟩)) (H1:=[rd b (q5+1)]) ?_ ⟨⟨x1,N ++ [-1],G,O⟩,q5+1,by omega,by simp;omega,rfl,rfl⟩;simp only[go_sem,seval];rw[ag (by simp)]
        ·refine fI (r0:=.d (dC ⟨x1,N,G ++ [(2*v,0)],O⟩)) (H1:=[rd b (q5+1)]) ?_ ⟨⟨x1,N,G ++ [(2*v,0)],O⟩,q5+1,by omega,by simp;omega,rfl,rfl⟩;simp only[go_sem,seval];rw[ag (by simp)]
        ·refine pA (σ:=List (Int×Int)) (fun s=>[(0,.ptr 0 0),(1,.d (dI n)),(4,.ptr 1 0),(5,.ptr 2 0)])
          (fun s=>[rd b (q5+1),.box [.d (dI 0),.d .nil,.d .nil,.d .nil],.box [.d (dI x1),.sl 4 N.length 1 0 N.length,.sl 3 s.length 2 0 s.length,.sl 5 O.length 1 0 O.length],.row s.length 2 true (s.map dP),.row N.length 1 true (N.map (D.int .i64)),.row O.length 1 true (O.map (D.int .i64))])
          (fun s=>s.length<=15) (fun s=>15-s.length) [] 1000 1000 ?_ ?_ ?_
         ·simp only[go_sem,seval]
         ·simp only[go_sem,seval];exact⟨G,by omega,by simp⟩
         ·intro s hs
          repeat' first|simp (disch:=omega) only[go_sem,seval]|(with_reducible first|apply aa|intro)|(try rw[ae]);omega
          ·exact⟨s ++ [(0,0)],by simp;omega,by simp;omega,by simp,by simp,rfl⟩
          ·refine fI (r0:=.d (dC ⟨x1,N,s,O⟩)) (H1:=[rd b (q5+1)]) ?_ ⟨⟨x1,N,s,O⟩,q5+1,by omega,by simp only;omega,rfl,rfl⟩;simp only[go_sem,seval]
        ·refine fI (r0:=.d (dC ⟨x1,N,G,O ++ [0,0,0,0]⟩)) (H1:=[rd b (q5+1)]) ?_ ⟨⟨x1,N,G,O ++ [0,0,0,0]⟩,q5+1,by omega,by simp only[b8,eD,kr];omega,rfl,rfl⟩;simp only[go_sem,seval];rw[ag (by simp)];simp
       ·refine fI (r0:=.d (dC ⟨x1,N,G,O⟩)) (H1:=[rd b q5]) ?_ ⟨⟨x1,N,G,O⟩,q5,by omega,by simp only;omega,rfl,rfl⟩;simp only[go_sem,seval]

def Ld (c:ac):Prop:=c.Valid/\0<c.next.length/\c.inputs<=2/\c.outs.length<3/\c.gates.length+3*c.next.length<=14
noncomputable instance (c:ac):Decidable (Ld c):=Classical.propDecidable _
def jX (f:Int->Int) (c:ac):ac:=⟨c.inputs,c.next.map f,c.gates.map (fun p=>(f p.1,f p.2)),c.outs.map f⟩
def Dh {α β : Type}(f : α->β) {l:List α}(z : α) (h:i<l.length):(l.take (i+1)).map f=(l.take i).map f ++ [f (l.getD i z)]:=by
 rw[la h,gw];simp only[js,List.map_nil,List.getD,List.getElem?_eq_getElem h,cP]
@[go_sem] def SM {ds:ZD}:mC H (ds.map .d)=some (True,ds):=by
 induction ds with
 | nil=>rfl
 | cons x r ih=>
  rw[js,SG,ih];simp[go_sem]
def Tryz.j7 (c:ac) (g:Nat) (ds:ZD) (h:Int->Int) (hg:(env 0).pf g=.own) (hl:c.next.length<=1000000/\c.gates.length<=1000000/\c.outs.length<=1000000)
  (hn : ∀ l∈c.next,Pure prog g (dI l::ds) (dI (h l))) (ho : ∀ l∈c.outs,Pure prog g (dI l::ds) (dI (h l)))
  (hga : ∀ p∈c.gates,Pure prog g (dI p.1::ds) (dI (h p.1))/\Pure prog g (dI p.2::ds) (dI (h p.2))) :
  Pure prog 203 [pC c,.fn g ds] (dC (jX h c)):=by
 refine bz func203 rfl ntmps203 fun ok=>?_
 simp only[go_sem,seval] at ok⊢;refine zO (σ:=Nat) (fun i=>[(0,.d (pC c)),(1,.d (.fn g ds)),(4,.ptr 0 0),(5,.ptr 1 0),(20,.d (aj c.next)),(21,.d (dI c.next.length)),(22,.d (dI i))])
  (fun i=>[.box [.d (dI 0),.d .nil,.d .nil,.d .nil],.box [.d (dI c.inputs),.sl 2 i 1 0 i,.d .nil,.d .nil],.row i 1 true (((c.next.take i).map h).map (D.int .i64))])
  (fun i=>i<=c.next.length) (fun i=>c.next.length-i) [(1,1,1,true)] [] 1000 1000 ?_ ?_ ?_ ?_
 ·simp only[go_sem,seval]
 ·simp only[go_sem,seval]
 ·simp only[go_sem,seval];exact⟨0,by omega,rfl,by simp⟩
 ·intro i hi;by_cases hlt:i<c.next.length
  ·have hx:=hn _ (aO (z:=0) hlt);have hli:(c.next.take i).length=i:=by simp;omega
   repeat' first|simp (disch:=omega) only[go_sem,seval,ag]|(with_reducible first|apply aa|intro)|(try rw[ae]);omega
   refine co (n:=0) [6,8] (ax [0,2,3,1] (.one 4 (.one 5 (.one 6 (.fst 7 (.one 8 .done)))))) ?_;simp only[go_sem,seval,hg];refine az hx ?_;simp only[go_sem,seval,hg]
   repeat' first|simp (disch:=omega) only[go_sem,seval,ag]|(with_reducible first|apply aa|intro)|(try rw[ae]);omega
   exact⟨i+1,by omega,by omega,rfl,rfl,rfl,(Dh h 0 hlt).symm⟩
  ·repeat' first|simp (disch:=omega) only[go_sem,seval,ag]|(with_reducible first|apply aa|intro)|(try rw[ae]);omega
   refine zO (σ:=Nat) (fun j=>[(0,.d (pC c)),(1,.d (.fn g ds)),(4,.ptr 0 0),(5,.ptr 1 0),(38,.d (aY c.gates)),(39,.d (dI c.gates.length)),(40,.d (dI j))])
    (fun j=>[.box [.d (dI 0),.d .nil,.d .nil,.d .nil],.box [.d (dI c.inputs),.sl 2 i 1 0 i,.sl 3 j 2 0 j,.d .nil],.row i 1 true ((c.next.map h).map (D.int .i64)),.row j 2 true (((c.gates.take j).map (fun p=>(h p.1,h p.2))).map dP)])
    (fun j=>j<=c.gates.length) (fun j=>c.gates.length-j) [(1,2,2,true)] [] 1000 1000 ?_ ?_ ?_ ?_
   ·simp only[go_sem,seval]
   ·simp only[go_sem,seval]
   ·simp only[go_sem,seval];exact⟨0,by omega,rfl,by simp⟩
   ·intro j hj;by_cases hlt:j<c.gates.length
    ·obtain⟨hx1,hx2⟩:=hga _ (aO (z:=(0,0)) hlt);have hli:(c.gates.take j).length=j:=by simp;omega
     repeat' first|simp (disch:=omega) only[go_sem,seval,ag]|(with_reducible first|apply aa|intro)|(try rw[ae]);omega
     refine co (n:=0) [12,14] (ax [0,2,3,6,7,1,4,8] (.one 5 (.one 9 (.fst 10 (.one 11 (.one 12 (.fst 13 (.one 14 .done)))))))) ?_;simp only[go_sem,seval,hg];refine az hx1 ?_;simp only[go_sem,seval,hg];refine az hx2 ?_;simp only[go_sem,seval,hg]
     repeat' first|simp (disch:=omega) only[go_sem,seval,ag]|(with_reducible first|apply aa|intro)|(try rw[ae]);omega
     exact⟨j+1,by omega,by omega,rfl,rfl,rfl,(Dh (fun p:Int×Int=>(h p.1,h p.2)) (0,0) hlt).symm⟩
    ·repeat' first|simp (disch:=omega) only[go_sem,seval,ag]|(with_reducible first|apply aa|intro)|(try rw[ae]);omega
     refine zO (σ:=Nat) (fun m=>[(0,.d (pC c)),(1,.d (.fn g ds)),(4,.ptr 0 0),(5,.ptr 1 0),(62,.d (aj c.outs)),(63,.d (dI c.outs.length)),(64,.d (dI m))])
      (fun m=>[.box [.d (dI 0),.d .nil,.d .nil,.d .nil],.box [.d (dI c.inputs),.sl 2 i 1 0 i,.sl 3 j 2 0 j,.sl 4 m 1 0 m],.row i 1 true ((c.next.map h).map (D.int .i64)),.row j 2 true ((c.gates.map (fun p=>(h p.1,h p.2))).map dP),.row m 1 true (((c.outs.take m).map h).map (D.int .i64))])
      (fun m=>m<=c.outs.length) (fun m=>c.outs.length-m) [(1,3,1,true)] [] 1000 1000 ?_ ?_ ?_ ?_
     ·simp only[go_sem,seval]
     ·simp only[go_sem,seval]
     ·simp only[go_sem,seval];exact⟨0,by omega,rfl,by simp⟩
     ·intro m hm;by_cases hlt:m<c.outs.length
      ·have hx:=ho _ (aO (z:=0) hlt);have hli:(c.outs.take m).length=m:=by simp;omega
       repeat' first|simp (disch:=omega) only[go_sem,seval,ag]|(with_reducible first|apply aa|intro)|(try rw[ae]);omega
       refine co (n:=0) [6,8] (ax [0,2,3,1] (.one 4 (.one 5 (.one 6 (.fst 7 (.one 8 .done)))))) ?_;simp only[go_sem,seval,hg];refine az hx ?_;simp only[go_sem,seval,hg]
       repeat' first|simp (disch:=omega) only[go_sem,seval,ag]|(with_reducible first|apply aa|intro)|(try rw[ae]);omega
       exact⟨m+1,by omega,by omega,rfl,rfl,rfl,(Dh h 0 hlt).symm⟩
      ·repeat' first|simp (disch:=omega) only[go_sem,seval,ag]|(with_reducible first|apply aa|intro)|(try rw[ae]);omega
       all_goals rfl
def Tryz.oe (c:ac) (st ins:ZB) (hv:c.Valid) (h1:st.length=c.next.length) (h2:(ins.length:Int)=c.inputs):Pure prog 145 [dC c,cf st,cf ins] (cf (values c st ins)):=by
 refine bz func145 rfl ntmps145 fun ok=>?_
 simp only[go_sem,seval] at ok
 repeat' first|simp (disch:=omega) only[go_sem,seval,ag]|(with_reducible first|apply aa|intro)|(refine az (aR c) ?_)|(refine me (nZ c hv st ins h1 h2 _) ?_)|(try rw[ae]);omega
 rename_i h5;exfalso;rcases h5 with(h5|h5)|h5 <;> exact h5 (by assumption)
def Tryz.x9 (c:ac) (st ins:ZB) (hv:c.Valid) (h1:st.length=c.next.length) (h2:(ins.length:Int)=c.inputs):Pure prog 79 [dC c,cf st,cf ins] (.agg [cf (dN (values c st ins) c.outs),cf (dN (values c st ins) c.next)]):=by
 refine bz func79 rfl ntmps79 fun ok=>?_
 simp only[go_sem,seval] at ok⊢;have hb:=hv.aN;have hvl:(values c st ins).length=c.vars.toNat:=by rw[values,A6];unfold ac.vars ac.first;omega
 have hne:values c st ins≠[]:=fun e=>by rw[e] at hvl;simp at hvl;have:=hv.al;omega
 refine az (oe c st ins hv h1 h2) ?_
 repeat' first|simp (disch:=omega) only[go_sem,seval,ag]|(with_reducible first|apply aa|intro)|(try rw[ae]);omega
 ·exact .inr (by simpa using hne)
 have hn : ∀ l∈c.next,0<=l/\l<2*((values c st ins).length:Int):=fun l hl=>by have:=hv.n l hl;unfold bm at this;omega
 have ho : ∀ l∈c.outs,0<=l/\l<2*((values c st ins).length:Int):=fun l hl=>by have:=hv.o l hl;unfold bm at this;omega
 have hln:=hv.ln;have hlo:=hv.lo;refine co (n:=0) [9] (ax [0,1,4,5,2,6] (.one 3 (.one 7 (.fst 8 (.one 9 .done))))) ?_
 repeat' first|simp (disch:=omega) only[go_sem,seval,ag]|(with_reducible first|apply aa|intro)|(refine me (iT _ c.outs ho (by omega)) ?_)|(refine me (iT _ c.next hn (by omega)) ?_)|(try rw[ae]);omega

def Qu (c:ac) (st:ZB):Prop:=Ld c/\st.length=c.next.length
noncomputable instance (c:ac) (st:ZB):Decidable (Qu c st):=Classical.propDecidable _
def Tryz.mA (a b:ZB):Pure prog 21 [cf a,cf b] (.bool (decide (a=b))):=by
 refine bz func21 rfl ntmps21 fun ok=>?_
 simp only[go_sem,seval] at ok⊢;refine⟨fun h=>?_,fun hlen=>?_⟩
 ·simp only[false_eq_decide_iff];rintro rfl;exact h rfl
 refine cQ (σ:=Nat) (fun i=>[(0,.d (cf a)),(1,.d (cf b)),(5,.d (dI i))]) (fun _=>[]) (fun i=>i<=a.length/\∀ j,j<i->a.getD j false=b.getD j false) (fun i=>a.length-i) [] 1000 1000 ?_ ?_ ?_
 ·simp only[go_sem,seval]
 ·simp only[go_sem,seval];exact⟨0,⟨by omega,by omega⟩,rfl⟩
 ·rintro i ⟨hi,hinv⟩
  repeat' first|simp (disch:=omega) only[go_sem,seval]|(with_reducible first|apply aa|intro)|exact ah|(try rw[ae]);omega
  ·rename_i h1 h2;simp only[false_eq_decide_iff];rintro rfl;exact h2 rfl
  ·rename_i h1 h2;exact B6 h1 h2 hinv
  ·simp only[true_eq_decide_iff];exact wq false hlen fun j hj=>hinv j (by omega)

def Tryz.shp_ints (y:D) (h:iI tyT (f+2) 23 y) : ∃ l:ZA,y=aj l:=
 shp_slice F5 yc (fun y h=>shp_int yc h) h
def Tryz.shp_Gate (y:D) (h:iI tyT (f+2) 216 y) : ∃ a:Int×Int,y=dP a:=by
 obtain⟨ys,rfl,k0⟩:=shp_struct vX h;obtain⟨y1,r1,rfl,h1,k1⟩:=vJ k0;obtain⟨y2,r2,rfl,h2,k2⟩:=vJ k1;obtain rfl:=Fg k2;obtain⟨n,rfl⟩:=shp_int yc h1;obtain⟨m,rfl⟩:=shp_int yc h2;exact⟨(n,m),rfl⟩
def Tryz.shp_Gates (y:D) (h:iI tyT (f+3) 47 y) : ∃ l:List (Int×Int),y=aY l:=
 shp_slice Gh vX shp_Gate h
def Tryz.shp_Circuit (y:D) (h:iI tyT (f+4) 49 y) : ∃ c:ac,y=dC c:=by
 obtain⟨ys,rfl,k0⟩:=shp_struct Ge h;obtain⟨y1,r1,rfl,h1,k1⟩:=vJ k0;obtain⟨y2,r2,rfl,h2,k2⟩:=vJ k1;obtain⟨y3,r3,rfl,h3,k3⟩:=vJ k2;obtain⟨y4,r4,rfl,h4,k4⟩:=vJ k3;obtain rfl:=Fg k4;obtain⟨n,rfl⟩:=shp_int yc h1;obtain⟨a,rfl⟩:=shp_ints _ h2;obtain⟨b,rfl⟩:=shp_Gates _ h3;obtain⟨d,rfl⟩:=shp_ints _ h4;exact⟨⟨n,a,b,d⟩,rfl⟩

structure QV where
 b:du
 next:ZA
 outs:ZA
 en:Int
structure OF (n i:Nat) (s:QV):Prop where
 ok:s.b.Ok
 fst:s.b.first=2+n
 len:s.b.gates.length<=4*i
 e:s.b.lit s.en
 nx:s.next.length=i
 o:s.outs.length=i

def lmap (m:ZA) (l:Int):Int:=if l%2=1 then flip (m.getD (l/2).toNat 0) else m.getD (l/2).toNat 0
def GH {x:Int}(h:0<=x):((x.toNat ^^^ (0:Int).toNat:Nat):Int)=x:=by simp;omega
def Tryz.ew (m:ZA) (l:Int) (h:0<=l/\l<2*m.length) (hm : ∀ x∈m,0<=x):Pure prog 202 [aj m,dI l] (dI (lmap m l)):=by
 refine bz func202 rfl ntmps202 fun ok=>?_
 simp only[go_sem,seval] at ok;have hx:=hm _ (aO (l:=m) (i:=(l/2).toNat) (z:=0) (by omega));have h2:=aC (y:=2) h.1;simp only[go_sem,seval]
 repeat' first|simp (disch:=omega) only[aC];try simp only[go_sem,seval]|(with_reducible first|apply aa|intro)|(try rw[ae]);omega
 rcases Int.emod_two_eq l with e|e
 ·rw[e,GH hx,lmap,if_neg (by omega)]
 ·rw[e,rk hx,lmap,if_pos (by omega)]
def k8 (first:Int) (u:ZB) (r:Int):ZB:=if first<=r/2 then u.set (r/2-first).toNat true else u
def jU (first:Int) (l:ZA) (u:ZB):Nat->ZB
 | 0=>u
 | i+1=>k8 first (jU first l u i) (l.getD i 0)
def jc (c:ac) (u:ZB) (i:Nat):Nat->ZB
 | 0=>u
 | 1=>if u.getD i false then k8 c.first u (c.gates.getD i (0,0)).1 else u
 | _=>if u.getD i false then k8 c.first (k8 c.first u (c.gates.getD i (0,0)).1) (c.gates.getD i (0,0)).2 else u
def aL (c:ac):Nat->ZB
 | 0=>jU c.first (c.outs++c.next) (List.replicate c.gates.length false) (c.outs++c.next).length
 | k+1=>jc c (aL c k) (c.gates.length-1-k) 2
def Cv:(k8 first u r).length=u.length:=by unfold k8;split <;> simp
def CF {first:Int}{l:ZA}{u:ZB} : ∀ i,(jU first l u i).length=u.length
 | 0=>rfl
 | i+1=>by rw[jU,Cv,CF i]
def IV {c:ac} : ∀ k,(jc c u i k).length=u.length
 | 0=>rfl
 | 1=>by simp only[jc];split <;> simp[Cv]
 | k+2=>by simp only[jc];split <;> simp[Cv]
def wj {c:ac} : ∀ k,(aL c k).length=c.gates.length
 | 0=>by rw[aL,CF];simp
 | k+1=>by rw[aL,IV,wj k]
def Ra {G:Nat}(h:r<2*(first+(G:Int))):(k8 first u r).getD G false=u.getD G false:=by
 unfold k8;split
 ·rw[List.getD_eq_getElem?_getD,List.getElem?_set_ne (by omega),<-List.getD_eq_getElem?_getD]
 ·rfl
set_option maxHeartbeats 4000000 in
def Tryz.qW (c:ac) (hv:c.Valid):Pure prog 200 [dC c] (cf (aL c c.gates.length)):=by
 refine bz func200 rfl ntmps200 fun ok=>?_
 simp only[go_sem,seval] at ok;have hfb:=hv.al;have hvb:=hv.aN;have hln:=hv.ln;have hlg:=hv.lg;have hlo:=hv.lo;have hi0:=hv.i0;have hi1:=hv.i1;simp only[go_sem,seval]
 repeat' first|simp (disch:=omega) only[aC];try simp only[go_sem,seval]|(with_reducible first|apply aa|intro)|(refine az (br c (by omega)) ?_;simp only[go_sem,seval])|(try rw[ae]);omega
 refine co (n:=0) [3,6] (ax [1,4,2] (.two 0 (.two 3 (.one 5 (.one 6 (.fst 7 .done))) 5 (.one 3 (.one 6 (.fst 7 .done)))) 5 (.one 0 (.one 3 (.one 6 (.fst 7 .done)))))) ?_;simp only[go_sem,seval]
 repeat' first|simp (disch:=omega) only[aC];try simp only[go_sem,seval]|(with_reducible first|apply aa|intro)|(try rw[ae]);omega
 all_goals (
  have hrl : ∀ i,i<(c.outs++c.next).length->bm ((c.outs++c.next).getD i 0) c.vars:=fun i hi=>by
   have:=aO (l:=c.outs++c.next) (i:=i) (z:=0) hi;rcases List.mem_append.1 this with h|h
   ·exact hv.o _ h
   ·exact hv.n _ h
  have hll:(c.outs++c.next).length<=6:=by simp;omega
  have hve:c.vars=c.first+c.gates.length:=rfl
  refine cQ (σ:=Nat) (fun i=>[(1,.ptr 0 0),(3,.d (dI c.first)),(4,.sl 1 0 1 0 c.gates.length),(5,.d (aj (c.outs++c.next))),(6,.d (dI i))])
   (fun i=>[.box [.d (dI c.inputs),.d (aj c.next),.d (aY c.gates),.d (aj c.outs)],.row 0 1 true ((jU c.first (c.outs++c.next) (List.replicate c.gates.length false) i).map D.bool)]) (fun i=>i<=(c.outs++c.next).length) (fun i=>(c.outs++c.next).length-i) [] 1000 1000 ?_ ?_ ?_
  ·simp only[go_sem,seval]
  ·simp only[go_sem,seval];exact⟨0,by omega,⟨ag (by rw[b8];exact aD _),rfl⟩,rfl⟩
  ·intro i hi;have hml:(jU c.first (c.outs++c.next) (List.replicate c.gates.length false) i).length=c.gates.length:=by rw[CF];simp
   have hs:jU c.first (c.outs++c.next) (List.replicate c.gates.length false) (i+1)=k8 c.first (jU c.first (c.outs++c.next) (List.replicate c.gates.length false) i) ((c.outs++c.next).getD i 0):=rfl
   have hr:=hrl i;have hq:aL c 0=jU c.first (c.outs++c.next) (List.replicate c.gates.length false) (c.outs++c.next).length:=rfl
   generalize c.outs++c.next=rs at *
   unfold bm at hr;by_cases hlt:i<rs.length
   ·have hr:=hr hlt;simp only[go_sem,seval]
    repeat' first|simp (disch:=omega) only[aC];try simp only[go_sem,seval]|(with_reducible first|apply aa|intro)|(try rw[ae]);omega
    ·rename_i h1 h2;exact⟨i+1,by omega,by omega,rfl,by rw[hs,k8,if_pos h2]⟩
    ·rename_i h1 h2;exact⟨i+1,by omega,by omega,rfl,by rw[hs,k8,if_neg h2]⟩
   ·obtain rfl:i=rs.length:=by omega
    simp only[go_sem,seval]
    repeat' first|simp (disch:=omega) only[aC];try simp only[go_sem,seval]|(with_reducible first|apply aa|intro)|(try rw[ae]);omega
    rw[<-hq];refine cQ (σ:=Nat) (fun k=>[(1,.ptr 0 0),(3,.d (dI c.first)),(4,.sl 1 0 1 0 c.gates.length),(7,.d (dI ((c.gates.length:Int)-1-(k:Int))))])
     (fun k=>[.box [.d (dI c.inputs),.d (aj c.next),.d (aY c.gates),.d (aj c.outs)],.row 0 1 true ((aL c k).map D.bool)]) (fun k=>k<=c.gates.length) (fun k=>c.gates.length-k) [] 1000 1000 ?_ ?_ ?_
    ·simp only[go_sem,seval]
    ·simp only[go_sem,seval];exact⟨0,by omega,by simp,rfl⟩
    ·intro k hk;have hul:=wj (c:=c) k;by_cases hlt:k<c.gates.length
     ·have hg:=hv.g (c.gates.length-1-k) (by omega);unfold bm at hg;have hki:((c.gates.length:Int)-1-(k:Int)).toNat=c.gates.length-1-k:=by omega
      have hs2:aL c (k+1)=jc c (aL c k) (c.gates.length-1-k) 2:=rfl;simp only[go_sem,seval,hki]
      repeat' first|simp (disch:=omega) only[aC];try simp only[go_sem,seval,hki]|(with_reducible first|apply aa|intro)|(try rw[ae]);omega
      refine co (n:=0) [] (ax [0,2,7,9,1,3,4,5,6,8,10,11,12,13] (.one 14 (.fst 15 .done))) ?_;simp only[go_sem,seval,hki]
      repeat' first|simp (disch:=omega) only[aC];try simp only[go_sem,seval,hki]|(with_reducible first|apply aa|intro)|(try rw[ae]);omega
      all_goals (
       have hu0 : ∀ u,jc c u (c.gates.length-1-k) 0=u:=fun u=>rfl
       have hu1 : ∀ u,jc c u (c.gates.length-1-k) 1=if u.getD (c.gates.length-1-k) false then k8 c.first u (c.gates.getD (c.gates.length-1-k) (0,0)).1 else u:=fun u=>rfl
       have hu2 : ∀ u,jc c u (c.gates.length-1-k) 2=if u.getD (c.gates.length-1-k) false then k8 c.first (k8 c.first u (c.gates.getD (c.gates.length-1-k) (0,0)).1) (c.gates.getD (c.gates.length-1-k) (0,0)).2 else u:=fun u=>rfl
       generalize hG:c.gates.length-1-k=G at *
       generalize hA:(c.gates.getD G (0,0)).1=A at *
       generalize hB:(c.gates.getD G (0,0)).2=B at *
       refine cQ (σ:=Nat) (fun j=>[(1,.ptr 0 0),(3,.d (dI c.first)),(4,.sl 1 0 1 0 c.gates.length),(7,.d (dI ((c.gates.length:Int)-1-(k:Int)))),(8,.d (aj [A/2,B/2])),(9,.d (dI j))])
        (fun j=>[.box [.d (dI c.inputs),.d (aj c.next),.d (aY c.gates),.d (aj c.outs)],.row 0 1 true ((jc c (aL c k) G j).map D.bool)]) (fun j=>j<=2) (fun j=>2-j) [] 1000 1000 ?_ ?_ ?_
       ·simp only[go_sem,seval]
       ·simp only[go_sem,seval];exact⟨0,by omega,rfl,rfl⟩
       ·intro j hj;have hil:=IV (c:=c) (u:=aL c k) (i:=G) j;obtain rfl|rfl|rfl:j=0∨j=1∨j=2:=by omega
        ·simp only[go_sem,seval,hki,hu0]
         repeat' first|simp (disch:=omega) only[aC];try simp only[go_sem,seval,hki,hu0]|(with_reducible first|apply aa|intro)|(try rw[ae]);omega
         all_goals (
          refine⟨1,by omega,by omega,rfl,?_⟩;rw[hu1];unfold k8
          repeat' split
          all_goals first|rfl|(exfalso;simp_all;done))
        ·have hk1:(jc c (aL c k) G 1).getD G false=(aL c k).getD G false:=by
          rw[hu1];split
          ·exact Ra hg.1.2
          ·rfl
         simp only[go_sem,seval,hki,hk1]
         repeat' first|simp (disch:=omega) only[aC];try simp only[go_sem,seval,hki,hk1]|(with_reducible first|apply aa|intro)|(try rw[ae]);omega
         all_goals first
          | (
            refine⟨2,by omega,by omega,rfl,?_⟩;rw[hu1,hu2];unfold k8
            repeat' split
            all_goals first|rfl|(exfalso;simp_all;done))
        ·simp only[go_sem,seval,hki]
         repeat' first|simp (disch:=omega) only[aC];try simp only[go_sem,seval,hki]|(with_reducible first|apply aa|intro)|(try rw[ae]);omega
         all_goals first
          | exact⟨k+1,by omega,by omega,by omega,by rw[hs2]⟩)
     ·obtain rfl:k=c.gates.length:=by omega
      simp only[go_sem,seval]
      repeat' first|simp (disch:=omega) only[aC];try simp only[go_sem,seval]|(with_reducible first|apply aa|intro)|(try rw[ae]);omega
      skip)

def Tryz.r9 (c:ac) (g:Nat) (a b:Int) (hi:0<=c.inputs/\c.inputs<=1000) (hn:c.next.length<=1000) (hg:c.gates.length<=100000) (ha:0<=a/\a<=1000000) (hb:0<=b/\b<=1000000) :
  aA prog 201 [.agg [.d (dI c.inputs),.sl 0 g 1 0 c.next.length,.d (aY c.gates),.d .nil],.d (dI a),.d (dI b)] [.row g 1 true (c.next.map (D.int .i64))]
   (fun r H=>r=.tup [.agg [.d (dI c.inputs),.sl 0 g 1 0 c.next.length,.d (aY (fw c a b).1.gates),.d .nil],.d (dI (fw c a b).2)]/\H=[.row g 1 true (c.next.map (D.int .i64))]):=by
 refine i9 rfl 1000 func201 rfl rfl ntmps201 (by simp) ?_;have hw:pi [D.agg [dI c.inputs,aj c.next,aY c.gates,.nil]] [dC ⟨c.inputs,c.next,c.gates,[]⟩]:=by simp[go_sem]
 have hfi:=(br ⟨c.inputs,c.next,c.gates,[]⟩ (by show -1000<=c.inputs/\c.inputs<=1000;omega)).wk hw;have hfst:ac.first ⟨c.inputs,c.next,c.gates,[]⟩=(ai c:Int):=by show 1+c.inputs+(c.next.length:Int)=(ai c:Int);unfold ai;omega
 have hfs:ai c<=3000:=by unfold ai;omega
 by_cases hxy:b<a
 ·have e1:ce a b=b:=if_pos hxy;have e2:bJ a b=a:=if_pos hxy;have hc:=Gb c a b;rw[e1,e2] at hc;have hfl:b=flip a↔b=a-1/\b%2=0:=by unfold flip;split <;> omega
  rw[hfl] at hc;rcases hc with⟨hc,hq⟩|⟨hc,hc2,hq⟩|⟨hc,hc2,hc3⟩
  ·rw[hq];simp only[go_sem,seval,hxy]
   repeat' first|simp (disch:=omega) only[aC];try simp only[go_sem,seval]|(with_reducible first|apply aa|intro)|(refine az hfi ?_;simp only[go_sem,seval])|(try rw[ae]);omega
   all_goals (refine vV ?_ ⟨rfl,rfl⟩;simp only[go_sem,seval])
  ·rw[hq];simp only[go_sem,seval,hxy]
   repeat' first|simp (disch:=omega) only[aC];try simp only[go_sem,seval]|(with_reducible first|apply aa|intro)|(refine az hfi ?_;simp only[go_sem,seval])|(try rw[ae]);omega
   all_goals (refine vV ?_ ⟨rfl,rfl⟩;simp only[go_sem,seval])
  ·simp only[go_sem,seval,hxy]
   repeat' first|simp (disch:=omega) only[aC];try simp only[go_sem,seval]|(with_reducible first|apply aa|intro)|(refine az hfi ?_;simp only[go_sem,seval])|(try rw[ae]);omega
   all_goals first|(exfalso;omega)|skip
   refine pA (σ:=Nat) (fun i=>[(0,.agg [.d (dI c.inputs),.sl 0 g 1 0 c.next.length,.d (aY c.gates),.d .nil]),(1,.d (dI b)),(2,.d (dI a)),(3,.ptr 1 0),(6,.ptr 2 0),(9,.d (dI (ac.first ⟨c.inputs,c.next,c.gates,[]⟩))),(10,.d (dI i))])
    (fun i=>[.row g 1 true (c.next.map (D.int .i64)),.box [.d (dI c.inputs),.sl 0 g 1 0 c.next.length,.d (aY c.gates),.d .nil],.box [.d (dI 0),.d .nil,.d .nil,.d .nil]]) (fun i=>i<=c.gates.length/\∀ j,j<i->c.gates.getD j (0,0)≠(b,a)) (fun i=>c.gates.length-i) [] 1000 1000 ?_ ?_ ?_
   ·simp only[go_sem,seval]
   ·simp only[go_sem,seval];exact⟨0,⟨by omega,fun j hj=>absurd hj (by omega)⟩,rfl⟩
   ·rintro i ⟨hi,hinv⟩;by_cases hlt:i<c.gates.length
    ·by_cases hg2:c.gates.getD i (0,0)=(b,a)
     ·have hix:=K8 hlt hg2 hinv;have hmem:(b,a)∈c.gates:=Bl.2 ⟨i,hlt,hg2⟩;rcases hc3 with⟨_,hq⟩|⟨hno,_⟩
      ·rw[hix] at hq;rw[hq];simp only[go_sem,seval,hg2]
       repeat' first|simp (disch:=omega) only[aC];try simp only[go_sem,seval,hg2]|(with_reducible first|apply aa|intro)|(try rw[ae]);omega
       all_goals (refine vV ?_ ⟨rfl,rfl⟩;simp only[go_sem,seval])
       all_goals first|(rw[hfst,ae];omega)|(rw[hfst])
      ·exact absurd hmem hno
     ·have hg3 : ¬ ((c.gates.getD i (0,0)).1=b/\(c.gates.getD i (0,0)).2=a):=fun h=>hg2 (Prod.ext h.1 h.2)
      simp only[go_sem,seval]
      repeat' first|simp (disch:=omega) only[aC];try simp only[go_sem,seval]|(with_reducible first|apply aa|intro)|(try rw[ae]);omega
      exact Hr hlt hg2 hinv
    ·obtain rfl:i=c.gates.length:=by omega
     rcases hc3 with⟨hyes,_⟩|⟨_,hq⟩
     ·obtain⟨j,hj,hj2⟩:=Bl.1 hyes;exact absurd hj2 (hinv j hj)
     ·rw[hq];simp only[go_sem,seval]
      repeat' first|simp (disch:=omega) only[aC];try simp only[go_sem,seval]|(with_reducible first|apply aa|intro)|(try rw[ae]);omega
      refine co (n:=1) [8] (ax [1,2,0] (.two 3 (ax [4,5,6,7] (.one 8 (.fst 9 .done))) 8 (.one 3 (ax [4,5,6,7,9] .done)))) ?_;simp only[go_sem,seval]
      repeat' first|simp (disch:=omega) only[aC];try simp only[go_sem,seval]|(with_reducible first|apply aa|intro)|(try rw[ae]);omega
      all_goals first|(rw[hfst,ae];omega)|skip
      all_goals (refine vV ?_ ⟨rfl,rfl⟩;simp only[go_sem,seval])
      all_goals exact⟨ag (by simp),by rw[hfst];omega⟩
 ·have e1:ce a b=a:=if_neg hxy;have e2:bJ a b=b:=if_neg hxy;have hc:=Gb c a b;rw[e1,e2] at hc;have hfl:a=flip b↔a=b-1/\a%2=0:=by unfold flip;split <;> omega
  rw[hfl] at hc;rcases hc with⟨hc,hq⟩|⟨hc,hc2,hq⟩|⟨hc,hc2,hc3⟩
  ·rw[hq];simp only[go_sem,seval,hxy]
   repeat' first|simp (disch:=omega) only[aC];try simp only[go_sem,seval]|(with_reducible first|apply aa|intro)|(refine az hfi ?_;simp only[go_sem,seval])|(try rw[ae]);omega
   all_goals (refine vV ?_ ⟨rfl,rfl⟩;simp only[go_sem,seval])
  ·rw[hq];simp only[go_sem,seval,hxy]
   repeat' first|simp (disch:=omega) only[aC];try simp only[go_sem,seval]|(with_reducible first|apply aa|intro)|(refine az hfi ?_;simp only[go_sem,seval])|(try rw[ae]);omega
   all_goals (refine vV ?_ ⟨rfl,rfl⟩;simp only[go_sem,seval])
  ·simp only[go_sem,seval,hxy]
   repeat' first|simp (disch:=omega) only[aC];try simp only[go_sem,seval]|(with_reducible first|apply aa|intro)|(refine az hfi ?_;simp only[go_sem,seval])|(try rw[ae]);omega
   all_goals first|(exfalso;omega)|skip
   refine pA (σ:=Nat) (fun i=>[(0,.agg [.d (dI c.inputs),.sl 0 g 1 0 c.next.length,.d (aY c.gates),.d .nil]),(1,.d (dI a)),(2,.d (dI b)),(3,.ptr 1 0),(6,.ptr 2 0),(9,.d (dI (ac.first ⟨c.inputs,c.next,c.gates,[]⟩))),(10,.d (dI i))])
    (fun i=>[.row g 1 true (c.next.map (D.int .i64)),.box [.d (dI c.inputs),.sl 0 g 1 0 c.next.length,.d (aY c.gates),.d .nil],.box [.d (dI 0),.d .nil,.d .nil,.d .nil]]) (fun i=>i<=c.gates.length/\∀ j,j<i->c.gates.getD j (0,0)≠(a,b)) (fun i=>c.gates.length-i) [] 1000 1000 ?_ ?_ ?_
   ·simp only[go_sem,seval]
   ·simp only[go_sem,seval];exact⟨0,⟨by omega,fun j hj=>absurd hj (by omega)⟩,rfl⟩
   ·rintro i ⟨hi,hinv⟩;by_cases hlt:i<c.gates.length
    ·by_cases hg2:c.gates.getD i (0,0)=(a,b)
     ·have hix:=K8 hlt hg2 hinv;have hmem:(a,b)∈c.gates:=Bl.2 ⟨i,hlt,hg2⟩;rcases hc3 with⟨_,hq⟩|⟨hno,_⟩
      ·rw[hix] at hq;rw[hq];simp only[go_sem,seval,hg2]
       repeat' first|simp (disch:=omega) only[aC];try simp only[go_sem,seval,hg2]|(with_reducible first|apply aa|intro)|(try rw[ae]);omega
       all_goals (refine vV ?_ ⟨rfl,rfl⟩;simp only[go_sem,seval])
       all_goals first|(rw[hfst,ae];omega)|(rw[hfst])
      ·exact absurd hmem hno
     ·have hg3 : ¬ ((c.gates.getD i (0,0)).1=a/\(c.gates.getD i (0,0)).2=b):=fun h=>hg2 (Prod.ext h.1 h.2)
      simp only[go_sem,seval]
      repeat' first|simp (disch:=omega) only[aC];try simp only[go_sem,seval]|(with_reducible first|apply aa|intro)|(try rw[ae]);omega
      exact Hr hlt hg2 hinv
    ·obtain rfl:i=c.gates.length:=by omega
     rcases hc3 with⟨hyes,_⟩|⟨_,hq⟩
     ·obtain⟨j,hj,hj2⟩:=Bl.1 hyes;exact absurd hj2 (hinv j hj)
     ·rw[hq];simp only[go_sem,seval]
      repeat' first|simp (disch:=omega) only[aC];try simp only[go_sem,seval]|(with_reducible first|apply aa|intro)|(try rw[ae]);omega
      refine co (n:=1) [8] (ax [1,2,0] (.two 3 (ax [4,5,6,7] (.one 8 (.fst 9 .done))) 8 (.one 3 (ax [4,5,6,7,9] .done)))) ?_;simp only[go_sem,seval]
      repeat' first|simp (disch:=omega) only[aC];try simp only[go_sem,seval]|(with_reducible first|apply aa|intro)|(try rw[ae]);omega
      all_goals first|(rw[hfst,ae];omega)|skip
      all_goals (refine vV ?_ ⟨rfl,rfl⟩;simp only[go_sem,seval])
      all_goals exact⟨ag (by simp),by rw[hfst];omega⟩

def KD {ρ : Nat->Nat}{t:Nat} : ∀ m:List (Nat×I),VL.look t (m.map fun p=>(p.1,aV ρ p.2))=aV ρ (VL.look t m)
 | []=>rfl
 | p::r=>by
  show(if p.1=t then aV ρ p.2 else VL.look t (r.map _))=aV ρ (if p.1=t then p.2 else VL.look t r)
  rw[KD r];split <;> rfl
def JP {k t:Nat} : ∀ m:List (Nat×I),pb k m->(VL.look t m).aJ k
 | [],_=>trivial
 | p::r,h=>by
  show(if p.1=t then p.2 else VL.look t r).aJ k
  split
  ·exact h.1
  ·exact JP r h.2
def Mf {k:Nat} : ∀ {l:ZF},jO k l->∀ r∈l,r.aJ k
 | x::l,h,r,hr=>by
  rcases List.mem_cons.1 hr with rfl|h2
  ·exact h.1
  ·exact Mf h.2 r h2
def uO {P:Program}{c:Code}{Q:aT}{n:Nat}{m0:List (Nat×I)}{H0:ZF}(is:ZC) (h:cK P 0 c Q ⟨n,m0⟩ H0) (hnd:is.Nodup) (hlen:is.length=H0.length) (hlt : ∀ i∈is,i<H.length)
  (hH:(List.range H0.length).map (fun j=>H.getD (ck is H.length j) (.dead 0))=H0.map (bD (ck is H.length))) (hb:jO H0.length H0) (hm:pb H0.length m0):cK P 0 c Q ⟨n,m0.map fun p=>(p.1,aV (ck is H.length) p.2)⟩ H:=by
 intro S φ a w Qr _ s hf hc;have hH : ∀ j,j<H0.length->H.getD (ck is H.length j) (.dead 0)=bD (ck is H.length) (H0.getD j (.dead 0)):=fun j hj=>by
  have:=congrArg (fun l=>l.getD j (.dead 0)) hH;simpa [List.getD,hj] using this
 have hmem : ∀ j,j<is.length->is.getD j 0∈is:=fun j hj=>by simp[List.getD,hj]
 have hrlt : ∀ j,j<H0.length->ck is H.length j=is.getD j 0/\ck is H.length j<H.length:=by
  intro j hj;have:ck is H.length j=is.getD j 0:=by unfold ck;rw[if_pos (by omega)]
  exact⟨this,this▸hlt _ (hmem j (by omega))⟩
 have e0:qP (ck is H.length) H0.length H0 (is.map fun i=>φ.getD i []) H φ:=by
  refine⟨rfl,fun j hj=>(hrlt j hj).2,hH,fun j hj=>?_⟩;rw[(hrlt j hj).1];simp[List.getD,show j<is.length by omega]
 have fp0 : ∀ j,j<H0.length->(is.map fun i=>φ.getD i []).getD j [] = φ.getD (ck is H.length j) []:=fun j hj=>(e0.fp j hj).symm
 have fpo : ∀ j,¬ j<H0.length->(is.map fun i=>φ.getD i []).getD j []=[]:=fun j hj=>by
  rw[List.getD,List.getElem?_eq_none (by simp;omega)];rfl
 have foot0 : ∀ b,aU (is.map fun i=>φ.getD i []) b->aU φ b:=by
  rintro b ⟨j,hj⟩;by_cases hj2:j<H0.length
  ·rw[fp0 j hj2] at hj;exact⟨_,hj⟩
  ·rw[fpo j hj2] at hj;simp at hj
 have s0:aQ S (is.map fun i=>φ.getD i []) H0 w:=by
  refine⟨by simp[hlen],?_,?_,fun b hb=>s.lt b (foot0 b hb),fun b hb=>s.off b (foot0 b hb),s.slt,?_⟩
  ·intro j;by_cases hj:j<H0.length
   ·rw[fp0 j hj];exact s.nd _
   ·rw[fpo j hj];simp
  ·intro i j b hi hj;by_cases bJ:i<H0.length
   ·by_cases hj2:j<H0.length
    ·rw[fp0 _ bJ] at hi;rw[fp0 _ hj2] at hj;exact Jj hnd hlt (s.dj _ _ b hi hj)
    ·rw[fpo j hj2] at hj;simp at hj
   ·rw[fpo i bJ] at hi;simp at hi
  ·intro j r hj;obtain⟨hj2,hje⟩:=nU (.dead 0) hj;have:=s.rel _ _ (getD_some (.dead 0) (hrlt j hj2).2);rw[hH j hj2,hje] at this;rw[fp0 j hj2];exact e0.ws this (Mf hb r (List.mem_of_getElem? hj))
 refine h S _ a w Qr (kM _) s0 ⟨hf.defers,hf.size,fun t=>?_⟩ (fun e a' w' S' φ' fr' H' s' hf' he ht hq=>hc e a' w' S' φ' fr' H' s' hf'
  ⟨he.os,he.tape,he.output,he.size,fun b hb hn=>he.bf b hb (fun h=>hn (foot0 b h)),fun b hb=>(he.fp b hb).imp (foot0 b) id,he.sub,fun b hb=>(he.sfp b hb).imp id (Or.imp (foot0 b) id)⟩
  ⟨ht.sub,ht.bf,kM _,kM _,fun i hi=>absurd hi (by omega),fun i _ _ _ _ hi=>absurd hi (by omega),fun i _ hi=>absurd hi (by omega),fun i _ hi=>absurd hi (by omega),fun i _ hi=>absurd hi (by omega)⟩ hq)
 have:=hf.val t;rw[show Fr.get ⟨n,m0.map fun p=>(p.1,aV (ck is H.length) p.2)⟩ t=aV (ck is H.length) (VL.look t m0) from KD m0] at this;exact e0.down this (JP m0 hm)
end Go.Proofs

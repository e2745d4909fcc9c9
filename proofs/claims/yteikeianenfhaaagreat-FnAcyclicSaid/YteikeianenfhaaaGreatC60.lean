/- Contracts, plain definitions and lemmas. Conditions: none; lemmas. -/
import Derived.Test.YteikeianenfhaaaGreatC12
import Derived.Test.YteikeianenfhaaaGreatVM8
set_option maxRecDepth 20000
set_option linter.unusedVariables false
set_option linter.unusedSimpArgs false
set_option maxHeartbeats 2000000
namespace Go.Proofs
set_option linter.defProp false
open Go Go.VL Tryz
@[go_sem] def zqx {k:IntKind}{a b z:Int}{m:Nat}:[D.int k a,D.int k b].getD m (D.int k z)=D.int k ([a,b].getD m z):=by
 rcases m with _|_|m <;> rfl
def Tryz.c_l20Circuit (b:List Int) (p n:Int) (hb:Bytes b) (hp:0<=p/\p<=100000000) (hn:0<=n/\n<=1000) :
  ICall prog 66 [.ptr 0 0,.d (dI n)] [rd b p] (fun r H'=>∃ (c:Circ) (q:Int),(p<=q/\q<=p+200)/\(c.next.length<=40/\c.gates.length<=40/\c.outs.length<=40/\-1<=c.inputs/\c.inputs<=5)/\r=.d (dC c)/\H'=[rd b q]):=by
 refine qaL (E:=env 1) tok rfl 1000 func66 rfl rfl ntmps66 (by simp) ?_;simp only[go_sem,seval];refine pick_at hb (by omega) fun x1 hx1=>?_
 simp only[go_sem,seval];refine pick_at hb (by omega) fun x2 hx2=>?_
 simp only[go_sem,seval];refine⟨by rw[qaa];omega,by rw[qaa];omega,?_⟩;refine pick_at hb (by omega) fun x3 hx3=>?_
 simp only[go_sem,seval];refine qkr (E:=env 1) tok (σ:=List (Int×Int)×Int×Int×Int) (fun s=>[(0,.ptr 0 0),(1,.d (dI n)),(4,.ptr 1 0),(5,.ptr 2 0),(6,.d (dI x2)),(7,.d (dI s.2.1)),(8,.d (dI s.2.2.1))])
  (fun s=>[rd b s.2.2.2,.box [.d (dI 0),.d .nil,.d .nil,.d .nil],.box [.d (dI x1),.d .nil,.sl 3 s.1.length 2 0 s.1.length,.d .nil],.row s.1.length 2 true (s.1.map dP)])
  (fun s=>0<=s.2.2.1/\s.1.length+s.2.2.1<=14/\1<=s.2.1/\s.2.1<=8+s.1.length/\p<=s.2.2.2/\s.2.2.2<=p+3+4*s.1.length) (fun s=>s.2.2.1.toNat) [(2,2,2,true)] [] 1000 1000 ?_ ?_ ?_ ?_
 ·simp only[go_sem,seval]
 ·simp only[go_sem,seval]
 ·simp only[go_sem,seval];exact⟨([],x1+x2+1,x3,p+1+1+1),by simp;omega,by simp⟩
 ·rintro⟨G,v,k,q⟩ hi;simp only at hi;simp only[go_sem,seval];refine⟨fun h1=>?_,fun h1=>?_⟩
  ·repeat' first|assumption|(simp (disch:=first|assumption|omega|(simp;done)|(simp;omega)) only[go_sem,seval])|(with_reducible first|apply And.intro|intro _)|(refine pick_at hb (by omega) ?_)|((try rw[qaa]);omega)
   ·exact⟨(G ++ [_],v+1,k-1,_),by simp only[yaf,yag,yal];omega,by simp only;omega,⟨rfl,rfl⟩,rfl,by simp,by simp,rfl⟩
   ·exact⟨(G ++ [_],v+1,k-1,_),by simp only[yaf,yag,yal];omega,by simp only;omega,⟨rfl,rfl⟩,rfl,by simp,by simp,rfl⟩
  ·refine qkr (E:=env 1) tok (σ:=List Int×Int) (fun s=>[(0,.ptr 0 0),(1,.d (dI n)),(4,.ptr 1 0),(5,.ptr 2 0),(6,.d (dI x2)),(7,.d (dI v)),(11,.d (dI s.1.length))])
    (fun s=>[rd b s.2,.box [.d (dI 0),.d .nil,.d .nil,.d .nil],.box [.d (dI x1),.sl 4 s.1.length 1 0 s.1.length,.sl 3 G.length 2 0 G.length,.d .nil],.row G.length 2 true (G.map dP),.row s.1.length 1 true (s.1.map (D.int .i64))])
    (fun s=>s.1.length<=x2/\p<=s.2/\s.2<=p+60+s.1.length) (fun s=>x2.toNat-s.1.length) [(2,1,1,true)] [] 1000 1000 ?_ ?_ ?_ ?_
   ·simp only[go_sem,seval]
   ·simp only[go_sem,seval]
   ·simp only[go_sem,seval];exact⟨([],q),by simp;omega,by simp⟩
   ·rintro⟨N,q2⟩ hi2;simp only at hi2;simp only[go_sem,seval];refine⟨fun h2=>?_,fun h2=>?_⟩
    ·refine qaS (n:=1) [5,7,9] (fsts [0,2,3,4] (.two 1 (.one 5 (.one 6 (.one 7 (.fst 8 (.one 9 .done))))) 5 (.two 1 (.one 6 (.one 7 (.fst 8 (.one 9 .done)))) 6 (.one 1 (.one 7 (.fst 8 (.one 9 .done))))))) ?_
     repeat' first|assumption|(simp (disch:=first|assumption|omega|(simp;done)|(simp;omega)) only[go_sem,seval])|(with_reducible first|apply And.intro|intro _)|(refine pick_at hb (by omega) ?_)|((try rw[qaa]);omega)
     all_goals exact⟨(N ++ [_],_),by simp only[yaf,yag,yal];omega,by simp only[yaf,yag,yal];omega,by simp,rfl,by simp,by simp,rfl⟩
    ·refine pick_at hb (by omega) fun x4 hx4=>?_
     simp only[go_sem,seval];refine qkr (E:=env 1) tok (σ:=List Int×Int×Int) (fun s=>[(0,.ptr 0 0),(1,.d (dI n)),(4,.ptr 1 0),(5,.ptr 2 0),(7,.d (dI v)),(12,.d (dI s.2.1))])
      (fun s=>[rd b s.2.2,.box [.d (dI 0),.d .nil,.d .nil,.d .nil],.box [.d (dI x1),.sl 4 N.length 1 0 N.length,.sl 3 G.length 2 0 G.length,.sl 5 s.1.length 1 0 s.1.length],.row G.length 2 true (G.map dP),.row N.length 1 true (N.map (D.int .i64)),.row s.1.length 1 true (s.1.map (D.int .i64))])
      (fun s=>0<=s.2.1/\s.1.length+s.2.1<=4/\p<=s.2.2/\s.2.2<=p+70+3*s.1.length) (fun s=>s.2.1.toNat) [(2,3,1,true)] [] 1000 1000 ?_ ?_ ?_ ?_
     ·simp only[go_sem,seval]
     ·simp only[go_sem,seval]
     ·simp only[go_sem,seval];exact⟨([],x4,q2+1),by simp;omega,by simp⟩
     ·rintro⟨O,k3,q3⟩ hi3;simp only at hi3;simp only[go_sem,seval];refine⟨fun h3=>?_,fun h3=>?_⟩
      ·refine qaS (n:=1) [9,14,17,21,23] (fsts [0,2,3,4,5,6,7,8,11,12,13,16] (.two 1 (.one 9 (.fst 10 (.one 14 (.two 15 (.one 17 (.fst 18 (.one 19 (.one 20 (.one 21 (.fst 22 (.one 23 .done))))))) 17 (.one 15 (.fst 18 (.one 19 (.one 20 (.one 21 (.fst 22 (.one 23 .done))))))))))) 9 (.fst 10 (.two 1 (.one 14 (.two 15 (.one 17 (.fst 18 (.one 19 (.one 20 (.one 21 (.fst 22 (.one 23 .done))))))) 17 (.one 15 (.fst 18 (.one 19 (.one 20 (.one 21 (.fst 22 (.one 23 .done))))))))) 14 (.three 1 (.two 15 (.one 17 (.fst 18 (.one 19 (.one 20 (.one 21 (.fst 22 (.one 23 .done))))))) 17 (.one 15 (.fst 18 (.one 19 (.one 20 (.one 21 (.fst 22 (.one 23 .done)))))))) 15 (.two 1 (.one 17 (.fst 18 (.one 19 (.one 20 (.one 21 (.fst 22 (.one 23 .done))))))) 17 (.fst 18 (.two 1 (.one 19 (.one 20 (.one 21 (.fst 22 (.one 23 .done))))) 19 (.two 1 (.one 20 (.one 21 (.fst 22 (.one 23 .done)))) 20 (.one 1 (.one 21 (.fst 22 (.one 23 .done)))))))) 17 (.two 1 (.one 15 (.fst 18 (.one 19 (.one 20 (.one 21 (.fst 22 (.one 23 .done))))))) 15 (.fst 18 (.two 1 (.one 19 (.one 20 (.one 21 (.fst 22 (.one 23 .done))))) 19 (.two 1 (.one 20 (.one 21 (.fst 22 (.one 23 .done)))) 20 (.one 1 (.one 21 (.fst 22 (.one 23 .done))))))))))))) ?_
       repeat' first|assumption|(simp (disch:=first|assumption|omega|(simp;done)|(simp;omega)) only[go_sem,seval])|(with_reducible first|apply And.intro|intro _)|(refine pick_at hb (by omega) ?_)|((try rw[qaa]);omega)
       all_goals exact⟨(O ++ [_],k3-1,_),by simp only[yaf,yag,yal];omega,by simp only;omega,rfl,rfl,by simp,by simp,rfl⟩
      ·refine odd_at hb (by omega) hn fun x5 q5 hq5 hx5=>?_
       simp only[go_sem,seval];refine⟨fun h4=>?_,fun h4=>?_⟩
       ·refine pick_at hb (by omega) fun x6 hx6=>?_
        repeat' first|assumption|(simp (disch:=first|assumption|omega|(simp;done)|(simp;omega)) only[go_sem,seval])|(with_reducible first|apply And.intro|intro _)|(refine pick_at hb (by omega) ?_)|((try rw[qaa]);omega)
        ·rename_i z hz;have hz5 : -1<=([-1,5]:List Int).getD z.toNat 0/\([-1,5]:List Int).getD z.toNat 0<=5:=by
          rcases(show z=0∨z=1 by omega) with rfl|rfl <;> decide
         refine qaP (r0:=.d (dC ⟨[-1,5].getD z.toNat 0,N,G,O⟩)) (H1:=[rd b (q5+1+1)]) ?_ ⟨⟨_,N,G,O⟩,q5+1+1,by omega,by simp only;omega,rfl,rfl⟩;simp only[go_sem,seval]
        ·refine qaS (n:=1) [6,10,12] (fsts [0,2,3,5] (.three 1 (.two 4 (.one 6 (.fst 7 (.one 8 (.one 9 (.one 10 (.fst 11 (.one 12 .done))))))) 6 (.one 4 (.fst 7 (.one 8 (.one 9 (.one 10 (.fst 11 (.one 12 .done)))))))) 4 (.two 1 (.one 6 (.fst 7 (.one 8 (.one 9 (.one 10 (.fst 11 (.one 12 .done))))))) 6 (.fst 7 (.two 1 (.one 8 (.one 9 (.one 10 (.fst 11 (.one 12 .done))))) 8 (.two 1 (.one 9 (.one 10 (.fst 11 (.one 12 .done)))) 9 (.one 1 (.one 10 (.fst 11 (.one 12 .done)))))))) 6 (.two 1 (.one 4 (.fst 7 (.one 8 (.one 9 (.one 10 (.fst 11 (.one 12 .done))))))) 4 (.fst 7 (.two 1 (.one 8 (.one 9 (.one 10 (.fst 11 (.one 12 .done))))) 8 (.two 1 (.one 9 (.one 10 (.fst 11 (.one 12 .done)))) 9 (.one 1 (.one 10 (.fst 11 (.one 12 .done)))))))))) ?_
         repeat' first|assumption|(simp (disch:=first|assumption|omega|(simp;done)|(simp;omega)) only[go_sem,seval])|(with_reducible first|apply And.intro|intro _)|(refine pick_at hb (by omega) ?_)|((try rw[qaa]);omega)
         all_goals (
          rename_i z hz;refine qaP (r0:=.d (dC ⟨x1,N,G,O ++ [[-1,2*v].getD z.toNat 0]⟩)) (H1:=[rd b (q5+1+1)]) ?_ ⟨⟨x1,N,G,O ++ [[-1,2*v].getD z.toNat 0]⟩,q5+1+1,by omega,by simp only[yaf,yag,yal];omega,rfl,rfl⟩;simp only[go_sem,seval];rw[yaa (by simp)])
        ·refine qaP (r0:=.d (dC ⟨x1,N ++ [-1],G,O⟩)) (H1:=[rd b (q5+1)]) ?_ ⟨⟨x1,N ++ [-1],G,O⟩,q5+1,by omega,by simp;omega,rfl,rfl⟩;simp only[go_sem,seval];rw[yaa (by simp)]
        ·refine qaP (r0:=.d (dC ⟨x1,N,G ++ [(2*v,0)],O⟩)) (H1:=[rd b (q5+1)]) ?_ ⟨⟨x1,N,G ++ [(2*v,0)],O⟩,q5+1,by omega,by simp;omega,rfl,rfl⟩;simp only[go_sem,seval];rw[yaa (by simp)]
        ·refine qaB (E:=env 1) tok (σ:=List (Int×Int)) (fun s=>[(0,.ptr 0 0),(1,.d (dI n)),(4,.ptr 1 0),(5,.ptr 2 0)])
          (fun s=>[rd b (q5+1),.box [.d (dI 0),.d .nil,.d .nil,.d .nil],.box [.d (dI x1),.sl 4 N.length 1 0 N.length,.sl 3 s.length 2 0 s.length,.sl 5 O.length 1 0 O.length],.row s.length 2 true (s.map dP),.row N.length 1 true (N.map (D.int .i64)),.row O.length 1 true (O.map (D.int .i64))])
          (fun s=>s.length<=15) (fun s=>15-s.length) [] 1000 1000 ?_ ?_ ?_
         ·simp only[go_sem,seval]
         ·simp only[go_sem,seval];exact⟨G,by omega,by simp⟩
         ·intro s hs
          repeat' first|assumption|(simp (disch:=first|assumption|omega|(simp;done)|(simp;omega)) only[go_sem,seval])|(with_reducible first|apply And.intro|intro _)|((try rw[qaa]);omega)
          ·exact⟨s ++ [(0,0)],by simp;omega,by simp;omega,by simp,by simp,rfl⟩
          ·refine qaP (r0:=.d (dC ⟨x1,N,s,O⟩)) (H1:=[rd b (q5+1)]) ?_ ⟨⟨x1,N,s,O⟩,q5+1,by omega,by simp only;omega,rfl,rfl⟩;simp only[go_sem,seval]
        ·refine qaP (r0:=.d (dC ⟨x1,N,G,O ++ [0,0,0,0]⟩)) (H1:=[rd b (q5+1)]) ?_ ⟨⟨x1,N,G,O ++ [0,0,0,0]⟩,q5+1,by omega,by simp only[yaf,yag,yal];omega,rfl,rfl⟩;simp only[go_sem,seval];rw[yaa (by simp)];simp
       ·refine qaP (r0:=.d (dC ⟨x1,N,G,O⟩)) (H1:=[rd b q5]) ?_ ⟨⟨x1,N,G,O⟩,q5,by omega,by simp only;omega,rfl,rfl⟩;simp only[go_sem,seval]
end Go.Proofs

set_option linter.unusedVariables false
set_option linter.unusedSimpArgs false
namespace Go.VL
set_option linter.defProp false
variable {i:Nat}{x:Int}{a b cut:List Int}{l p q:List (List Int)}{P:List Int->Prop}{c:Circ}
def qay {α β : Type}{f : β->α->β}{b : β}{l:List α}(z : α) (h:i<l.length):(l.take (i+1)).foldl f b=f ((l.take i).foldl f b) (l.getD i z):=by
 rw[yaI h,yaO];simp[List.getD,h]
def qaM:List Int->List Int->List Int
 | [],b=>b
 | x::a,[]=>x::a
 | x::a,y::b=>if x<y then x::qaM a (y::b) else if y<x then y::qaM (x::a) b else x::qaM a b
termination_by a b=>a.length+b.length
def qdy (b:List Int):qaM [] b=b:=by rw[qaM]
def qdI (a:List Int):qaM a []=a:=by cases a <;> rw[qaM]
def qgk {y:Int}(h:x<y):qaM (x::a) (y::b)=x::qaM a (y::b):=by rw[qaM,if_pos h]
def qgl {y:Int}(h:y<x):qaM (x::a) (y::b)=y::qaM (x::a) b:=by rw[qaM,if_neg (by omega),if_pos h]
def qgm:qaM (x::a) (x::b)=x::qaM a b:=by rw[qaM,if_neg (by omega),if_neg (by omega)]
def qbt {z:Int} : ∀ (a b:List Int),z∈qaM a b↔z∈a∨z∈b
 | [],b=>by rw[qdy];simp
 | x::a,[]=>by rw[qdI];simp
 | x::a,y::b=>by
  have i1:=qbt (z:=z) a (y::b);have i2:=qbt (z:=z) (x::a) b;have i3:=qbt (z:=z) a b;rcases Int.lt_trichotomy x y with h|h|h
  ·rw[qgk h,yaz,i1];simp only[yaz,or_assoc]
  ·subst h;rw[qgm,yaz,i3];simp only[yaz];constructor
   ·rintro(h|h|h) <;> simp[h]
   ·rintro((h|h)|h|h) <;> simp[h]
  ·rw[qgl h,yaz,i2];simp only[yaz];constructor
   ·rintro(h|(h|h)|h) <;> simp[h]
   ·rintro((h|h)|h|h) <;> simp[h]
termination_by a b=>a.length+b.length
def asc (l:List Int):Prop:=l.Pairwise (· < ·)
def qeg : ∀ {a b:List Int},asc a->asc b->asc (qaM a b)
 | [],b,_,hb=>by rw[qdy];exact hb
 | x::a,[],ha,_=>by rw[qdI];exact ha
 | x::a,y::b,ha,hb=>by
  obtain⟨ha1,ha2⟩:=List.pairwise_cons.1 ha;obtain⟨hb1,hb2⟩:=List.pairwise_cons.1 hb;rcases Int.lt_trichotomy x y with h|h|h
  ·rw[qgk h];refine List.pairwise_cons.2 ⟨fun z hz=>?_,qeg ha2 hb⟩;rcases(qbt _ _).1 hz with h1|h1
   ·exact ha1 z h1
   ·rcases List.mem_cons.1 h1 with rfl|h2
    ·exact h
    ·have:=hb1 z h2;omega
  ·subst h;rw[qgm];refine List.pairwise_cons.2 ⟨fun z hz=>?_,qeg ha2 hb2⟩;rcases(qbt _ _).1 hz with h1|h1
   ·exact ha1 z h1
   ·exact hb1 z h1
  ·rw[qgl h];refine List.pairwise_cons.2 ⟨fun z hz=>?_,qeg ha hb2⟩;rcases(qbt _ _).1 hz with h1|h1
   ·rcases List.mem_cons.1 h1 with rfl|h2
    ·exact h
    ·have:=ha1 z h2;omega
   ·exact hb1 z h1
termination_by a b=>a.length+b.length
def qpC : ∀ {a b:List Int},asc a->asc b->(∀ z,z∈a↔z∈b)->a=b
 | [],[],_,_,_=>rfl
 | [],y::b,_,_,h=>by have:=(h y).2 (by simp);simp at this
 | x::a,[],_,_,h=>by have:=(h x).1 (by simp);simp at this
 | x::a,y::b,ha,hb,h=>by
  obtain⟨ha1,ha2⟩:=List.pairwise_cons.1 ha;obtain⟨hb1,hb2⟩:=List.pairwise_cons.1 hb;have hxy:x=y:=by
   rcases List.mem_cons.1 ((h x).1 (by simp)) with h1|h1
   ·exact h1
   ·rcases List.mem_cons.1 ((h y).2 (by simp)) with h2|h2
    ·exact h2.symm
    ·have:=hb1 x h1;have:=ha1 y h2;omega
  subst hxy;congr 1;refine qpC ha2 hb2 fun z=>⟨fun hz=>?_,fun hz=>?_⟩
  ·have hlt:=ha1 z hz;rcases List.mem_cons.1 ((h z).1 (by simp[hz])) with h1|h1
   ·omega
   ·exact h1
  ·have hlt:=hb1 z hz;rcases List.mem_cons.1 ((h z).2 (by simp[hz])) with h1|h1
   ·omega
   ·exact h1
def qeh : ∀ (a b:List Int),(qaM a b).length<=a.length+b.length
 | [],b=>by rw[qdy];simp
 | x::a,[]=>by rw[qdI];simp
 | x::a,y::b=>by
  have i1:=qeh a (y::b);have i2:=qeh (x::a) b;have i3:=qeh a b;rcases Int.lt_trichotomy x y with h|h|h
  ·rw[qgk h];simp only[yag] at *;omega
  ·subst h;rw[qgm];simp only[yag] at *;omega
  ·rw[qgl h];simp only[yag] at *;omega
termination_by a b=>a.length+b.length
def addC (l:List (List Int)) (cut:List Int):List (List Int):=if cut.length<=3/\l.length<8/\cut∉l then l ++ [cut] else l
def rowC (x:List Int) (q:List (List Int)) (l:List (List Int)):List (List Int):=q.foldl (fun l y=>addC l (qaM x y)) l
def qfD (p q:List (List Int)):List (List Int):=p.foldl (fun l x=>rowC x q l) []
def qbm (c:Circ) (i:Nat):Int:=(c.gates.getD i (0,0)).1
def qbn (c:Circ) (i:Nat):Int:=(c.gates.getD i (0,0)).2
def qaN (c:Circ):Nat->List (List (List Int))
 | 0=>[[]]::(List.range (c.first.toNat-1)).map fun(v:Nat)=>[[(v:Int)+1]]
 | i+1=>qaN c i ++ [qfD ((qaN c i).getD (qbm c i/2).toNat []) ((qaN c i).getD (qbn c i/2).toNat []) ++ [[c.first+(i:Int)]]]
def qbj (c:Circ):List (List (List Int)):=qaN c c.gates.length
def qa9 {c:Circ}(h:1<=c.first) : ∀ i,(qaN c i).length=c.first.toNat+i
 | 0=>by simp[qaN];omega
 | i+1=>by rw[qaN,yaf,qa9 h i];simp;omega
def addC_le (h:l.length<=8):(addC l cut).length<=8:=by
 unfold addC;split
 ·rename_i h2;simp;omega
 ·exact h
def qgZ {x:List Int} : ∀ {q l:List (List Int)},l.length<=8->(rowC x q l).length<=8
 | [],l,h=>h
 | y::q,l,h=>qgZ (q:=q) (addC_le h)
def qku (p q:List (List Int)):(qfD p q).length<=8:=by
 have : ∀ (p l:List (List Int)),l.length<=8->(p.foldl (fun l x=>rowC x q l) l).length<=8:=by
  intro p;induction p with
  | nil=>exact fun l h=>h
  | cons x p ih=>exact fun l h=>ih _ (qgZ h)
 exact this p [] (by simp)
def qrD (h : ∀ x∈l,P x) (hc:cut.length<=3->P cut) : ∀ x∈addC l cut,P x:=by
 unfold addC;split
 ·rename_i h2;intro x hx;rcases List.mem_append.1 hx with h1|h1
  ·exact h x h1
  ·obtain rfl:x=cut:=by simpa using h1
   exact hc h2.1
 ·exact h
def qnl {P:List Int->Prop}{x:List Int} : ∀ {q l:List (List Int)},(∀ z∈l,P z)->(∀ y∈q,(qaM x y).length<=3->P (qaM x y))->∀ z∈rowC x q l,P z
 | [],l,h,_=>h
 | y::q,l,h,hq=>qnl (q:=q) (qrD h (hq y (by simp))) fun z hz=>hq z (by simp[hz])
def qe6 (h : ∀ x∈p,∀ y∈q,(qaM x y).length<=3->P (qaM x y)) : ∀ z∈qfD p q,P z:=by
 have : ∀ (p l:List (List Int)),(∀ z∈l,P z)->(∀ x∈p,∀ y∈q,(qaM x y).length<=3->P (qaM x y))->∀ z∈p.foldl (fun l x=>rowC x q l) l,P z:=by
  intro p;induction p with
  | nil=>exact fun l h _=>h
  | cons x p ih=>exact fun l h hp=>ih _ (qnl h (hp x (by simp))) fun z hz=>hp z (by simp[hz])
 exact this p [] (by simp) h
def qpD:l.length<=(addC l cut).length:=by
 unfold addC;split <;> simp
def qiH {x:List Int} : ∀ {q l:List (List Int)},l.length<=(rowC x q l).length
 | [],l=>yad _
 | y::q,l=>yay qpD (qiH (q:=q))
def qrE (h:cut.length<=3):0<(addC l cut).length:=by
 unfold addC;split
 ·simp
 ·rename_i h2;cases l with
  | nil=>exact absurd ⟨h,by simp,by simp⟩ h2
  | cons x r=>simp
def qnm {x y:List Int}(h:(qaM x y).length<=3) : ∀ {q l:List (List Int)},y∈q->0<(rowC x q l).length
 | [],l,hy=>by simp at hy
 | z::q,l,hy=>by
  rcases List.mem_cons.1 hy with rfl|h1
  ·exact yao (qrE (l:=l) h) (qiH (q:=q))
  ·exact qnm h (q:=q) h1
def qpE {x y:List Int}(hx:x∈p) (hy:y∈q) (h:(qaM x y).length<=3):0<(qfD p q).length:=by
 have mono : ∀ (p l:List (List Int)),l.length<=(p.foldl (fun l x=>rowC x q l) l).length:=by
  intro p;induction p with
  | nil=>exact fun l=>yad _
  | cons x p ih=>exact fun l=>yay (qiH (q:=q)) (ih _)
 have : ∀ (p l:List (List Int)),x∈p->0<(p.foldl (fun l x=>rowC x q l) l).length:=by
  intro p;induction p with
  | nil=>exact fun l h=>by simp at h
  | cons z p ih=>
   intro l hz;rcases List.mem_cons.1 hz with rfl|h1
   ·exact yao (qnm h (l:=l) hy) (mono p _)
   ·exact ih _ h1
 exact this p [] hx
structure CutOk (c:Circ) (v:Int) (cut:List Int):Prop where
 asc:asc cut
 len:cut.length<=3
 rng : ∀ z∈cut,1<=z/\z<=v
def qct (hc:c.Valid) : ∀ i,i<=c.gates.length->∀ v,v<(qaN c i).length->(∀ cut∈(qaN c i).getD v [],CutOk c (v:Int) cut)/\(qaN c i).getD v []≠[]/\(∃ s∈(qaN c i).getD v [],s.length<=1)/\((qaN c i).getD v []).length<=9:=by
 have hf:=hc.first_bd;intro i;induction i with
 | zero=>
  intro _ v hv;rw[qa9 hf.1] at hv;cases v with
  | zero=>
   have e:(qaN c 0).getD 0 []=[[]]:=rfl;rw[e];refine⟨fun cut h=>?_,by simp,⟨[],by simp,by simp⟩,by simp⟩;obtain rfl:cut=[]:=by simpa using h
   exact⟨List.Pairwise.nil,by simp,by simp⟩
  | succ v=>
   have e:(qaN c 0).getD (v+1) []=[[(v:Int)+1]]:=by
    simp[qaN,List.getD,show v<c.first.toNat-1 by omega]
   rw[e];refine⟨fun cut h=>?_,by simp,⟨[(v:Int)+1],by simp,by simp⟩,by simp⟩;obtain rfl:cut=[(v:Int)+1]:=by simpa using h
   exact⟨by simp[asc],by simp,fun z hz=>by
    obtain rfl:z=(v:Int)+1:=by simpa using hz
    omega⟩
 | succ i ih=>
  intro hi v hv;have hl:=qa9 (c:=c) hf.1 i;rw[qa9 hf.1] at hv;by_cases h:v<c.first.toNat+i
  ·have e:(qaN c (i+1)).getD v []=(qaN c i).getD v []:=by rw[qaN];exact qap (by omega)
   rw[e];exact ih (by omega) v (by omega)
  ·have hv2:v=(qaN c i).length:=by omega
   have e:(qaN c (i+1)).getD v []=qfD ((qaN c i).getD (qbm c i/2).toNat []) ((qaN c i).getD (qbn c i/2).toNat []) ++ [[c.first+(i:Int)]]:=by
    rw[qaN,hv2];simp[List.getD]
   obtain⟨g1,g2⟩:=hc.g i (by omega);have ha:(qbm c i/2).toNat<c.first.toNat+i:=by unfold qbm;unfold qa7 at g1;omega
   have hb:(qbn c i/2).toNat<c.first.toNat+i:=by unfold qbn;unfold qa7 at g2;omega
   obtain⟨a1,a2,⟨sa,a3,a4⟩,a5⟩:=ih (by omega) _ (by rw[hl];exact ha);obtain⟨b1,b2,⟨sb,b3,b4⟩,b5⟩:=ih (by omega) _ (by rw[hl];exact hb);rw[e];have hj:=qku ((qaN c i).getD (qbm c i/2).toNat []) ((qaN c i).getD (qbn c i/2).toNat []);refine⟨fun cut h=>?_,by simp,⟨[c.first+(i:Int)],by simp,by simp⟩,by rw[yaf,ybo];omega⟩;rcases List.mem_append.1 h with h1|h1
   ·refine qe6 (P:=fun cut=>CutOk c (v:Int) cut) (fun x hx y hy hle=>?_) cut h1;have hx':=a1 x hx;have hy':=b1 y hy;refine⟨qeg hx'.asc hy'.asc,hle,fun z hz=>?_⟩;rcases(qbt _ _).1 hz with h2|h2
    ·have:=hx'.rng z h2;omega
    ·have:=hy'.rng z h2;omega
   ·obtain rfl:cut=[c.first+(i:Int)]:=by simpa using h1
    exact⟨by simp[asc],by simp,fun z hz=>by
     obtain rfl:z=c.first+(i:Int):=by simpa using hz
     omega⟩
def qcV (hf:1<=c.first) {n:Nat}(h:i<n):(qaN c n).getD (c.first.toNat+i) []=qfD ((qaN c i).getD (qbm c i/2).toNat []) ((qaN c i).getD (qbn c i/2).toNat []) ++ [[c.first+(i:Int)]]:=by
 induction n with
 | zero=>omega
 | succ n ih=>
  have hl:=qa9 (c:=c) hf n;by_cases hin:i<n
  ·rw[qaN,qap (by omega)];exact ih hin
  ·obtain rfl:i=n:=by omega
   rw[qaN,<-hl];simp[List.getD]
def qiI (hc:c.Valid) (h:i<c.gates.length):0<(qfD ((qaN c i).getD (qbm c i/2).toNat []) ((qaN c i).getD (qbn c i/2).toNat [])).length:=by
 have hf:=hc.first_bd;have hl:=qa9 (c:=c) hf.1 i;obtain⟨g1,g2⟩:=hc.g i h;have ha:(qbm c i/2).toNat<c.first.toNat+i:=by unfold qbm;unfold qa7 at g1;omega
 have hb:(qbn c i/2).toNat<c.first.toNat+i:=by unfold qbn;unfold qa7 at g2;omega
 obtain⟨a1,a2,⟨sa,a3,a4⟩,a5⟩:=qct hc i (by omega) _ (by rw[hl];exact ha);obtain⟨b1,b2,⟨sb,b3,b4⟩,b5⟩:=qct hc i (by omega) _ (by rw[hl];exact hb);exact qpE a3 b3 (by have:=qeh sa sb;omega)
end Go.VL

/- Contracts, plain definitions and lemmas. Conditions: none; lemmas. -/
import Derived.Test.YteikeianenfhaaaGreatG1
import Derived.Test.YteikeianenfhaaaGreatC74
import Derived.Test.YteikeianenfhaaaGreatC8
import Derived.Test.YteikeianenfhaaaGreatC11
set_option maxRecDepth 20000
set_option linter.unusedSimpArgs false
set_option linter.unusedVariables false
set_option maxHeartbeats 2000000
namespace Go.Proofs
open Go Go.VL Tryz
theorem Tryz.c_sPlacementValid (c:Circ) (place:List Int):Pure prog 171 [dC c,dIs place] (.bool (decide (c.Valid/\PlaceOk (qac c).length place))):=by
 have hcv:=c_sCircuitValid c;by_cases hc:c.Valid
 ·have hce:=c_l6Cells c hc;have hcl:=qbD hc;rw[decide_eq_true hc] at hcv;refine qaA func171 rfl ntmps171 fun ok=>?_
  simp only[go_sem,seval,-List.reduceReplicate] at ok
  repeat' first|assumption|(simp (disch:=first|assumption|omega|(simp;done)|(simp;omega)) only[go_sem,seval,-List.reduceReplicate,yaa])|(with_reducible first|apply And.intro|intro _)|(refine qad hcv ?_)|(refine qaO (fun _=>hce) ?_)|exact lexT|((try rw[qaa]);omega)
  ·rename_i h9;rw[eq_comm,decide_eq_false];exact fun h=>h9 h.2.len
  rename_i h9;refine qaI (E:=env 0) tok (σ:=Nat) (fun i=>[(1,.d (dIs place)),(5,.d (dI i))]) (fun _=>[.box [.d (dI c.inputs),.d (dIs c.next),.d (dPs c.gates),.d (dIs c.outs)]]) (fun i=>i<=place.length/\(∀ t∈place.take i,0<=t/\t<=24)/\(place.take i).Nodup) (fun i=>place.length-i) [] 1000 1000 ?_ ?_ ?_
  ·simp only[go_sem,seval,-List.reduceReplicate]
  ·simp only[go_sem,seval,-List.reduceReplicate];exact⟨0,⟨by simp,by simp,by simp⟩,rfl⟩
  ·rintro i ⟨hi,hr,hn⟩;by_cases hlt:i<place.length
   ·have hts:place.take (i+1)=place.take i ++ [place.getD i 0]:=by simpa using qaN (f:=fun x:Int=>x) 0 hlt
    have hmem:=qab hlt (z:=(0:Int));have hbad:place.getD i 0∈place.take i->¬ PlaceOk (qac c).length place:=fun h1 h2=>by
     have hnd:=h2.nd;rw[<-ybc (i+1) place,hts,yal,yaY] at hnd;exact hnd.2.2 _ h1 _ (by simp) rfl
    have hha:=c_l7Has (place.take i) (place.getD i 0);have hin:=c_l1In (place.getD i 0) 0 24;generalize hx9:place.getD i 0=x at *
    repeat' first|assumption|(simp (disch:=first|assumption|omega|(simp;done)|(simp;omega)) only[go_sem,seval,-List.reduceReplicate,hx9,yaa])|(with_reducible first|apply And.intro|intro _)|(refine qb3 (fun _=>⟨hin,trivial⟩) ?_)|(refine qb3 (fun _=>⟨hha,trivial⟩) ?_)|exact lexT|((try rw[qaa]);omega)
    ·rename_i h1;rw[eq_comm,decide_eq_false];rintro⟨-,h3⟩;have h4:=h3.rng x hmem;have h5:x∈place.take i->False:=fun h=>hbad h h3
     rcases h1 with h1|h1
     ·omega
     ·exact h5 h1
    ·rename_i h1;refine⟨i+1,⟨by omega,fun t ht=>?_,?_⟩,by omega,rfl⟩
     ·rw[hts] at ht;rcases List.mem_append.1 ht with h2|h2
      ·exact hr t h2
      ·obtain rfl:t=x:=by simpa using h2
       exact h1.1
     ·rw[hts,yaY];exact⟨hn,by simp,fun a ha b hb e=>by
       obtain rfl:b=x:=by simpa using hb
       subst e;exact h1.2 ha⟩
   ·obtain rfl:i=place.length:=by omega
    rw[yaq] at hr hn
    repeat' first|assumption|(simp (disch:=first|assumption|omega|(simp;done)|(simp;omega)) only[go_sem,seval,-List.reduceReplicate,yaa])|(with_reducible first|apply And.intro|intro _)|exact lexT|((try rw[qaa]);omega)
    rw[eq_comm,decide_eq_true_eq];exact⟨hc,by omega,hr,hn⟩
 ·rw[decide_eq_false hc] at hcv;rw[decide_eq_false (fun h=>hc h.1)];refine qaA func171 rfl ntmps171 fun ok=>?_
  simp only[go_sem,seval,-List.reduceReplicate] at ok
  repeat' first|assumption|(simp (disch:=first|assumption|omega|(simp;done)|(simp;omega)) only[go_sem,seval,-List.reduceReplicate,yaa])|(with_reducible first|apply And.intro|intro _)|(refine qad hcv ?_)|(refine qaO (x:=D.nil) (fun h=>by cases h) ?_)|exact lexT|((try rw[qaa]);omega)
theorem Tryz.c_sRoute (c:Circ) (place:List Int):PureF prog 99 [dC c,dIs place] (.tup [dRts ((qaM c place []).getD []),dB (qaM c place []).isSome]):=by
 have hpv:=c_sPlacementValid c place;by_cases hv:c.Valid/\PlaceOk (qac c).length place
 ·rw[decide_eq_true hv] at hpv;have hra:qaM c place []=qdO c (qac c) place qd9:=by
   classical
   rw[qaM,if_pos ⟨hv,by simp[qmy]⟩];rfl
  have hce:=c_l6Cells c hv.1;have hcl:=qbD hv.1;have hro:=c_l8Route c hv.1 (qac c) (by omega) (fun x hx=>(qde hv.1 x hx).1) place hv.2;rw[hra];refine qck (E:=env 0) tok rfl 1000 func99 rfl rfl ntmps99 (by simp) fun ok=>?_
  simp only[go_sem,seval,-List.reduceReplicate] at ok
  repeat' first|assumption|(simp (disch:=first|assumption|omega|(simp;done)|(simp;omega)) only[go_sem,seval,-List.reduceReplicate,yaa])|(with_reducible first|apply And.intro|intro _)|(refine qad hpv ?_)|(refine qad hce ?_)|(refine qbU hro ?_)|exact lexT|((try rw[qaa]);omega)
  refine qbN (n:=0) [] (fsts [3,0,1] (.one 2 (.one 4 (fsts [5,6,7,8] .done)))) ?_
  repeat' first|assumption|(simp (disch:=first|assumption|omega|(simp;done)|(simp;omega)) only[go_sem,seval,-List.reduceReplicate,yaa])|(with_reducible first|apply And.intro|intro _)|(refine qad hpv ?_)|(refine qad hce ?_)|(refine qbU hro ?_)|exact lexT|((try rw[qaa]);omega)
 ·have hra:qaM c place []=none:=by
   classical
   rw[qaM,if_neg (fun h=>hv h.1)]
  rw[decide_eq_false hv] at hpv;rw[hra];refine qck (E:=env 0) tok rfl 1000 func99 rfl rfl ntmps99 (by simp) fun ok=>?_
  simp only[go_sem,seval,-List.reduceReplicate] at ok
  repeat' first|assumption|(simp (disch:=first|assumption|omega|(simp;done)|(simp;omega)) only[go_sem,seval,-List.reduceReplicate,yaa])|(with_reducible first|apply And.intro|intro _)|(refine qad hpv ?_)|exact lexT|((try rw[qaa]);omega)

noncomputable instance:DecidableEq Rt:=fun _ _=>Classical.propDecidable _
theorem Tryz.c_contains (l:List Int) (n:Int):Pure prog 42 [dIs l,dI n] (.bool (decide (n∈l))):=by
 refine qaA func42 rfl ntmps42 fun ok=>?_
 simp only[go_sem,seval] at ok
 repeat' first|assumption|(simp (disch:=first|assumption|omega|(simp;done)|(simp;omega)) only[go_sem,seval])|(with_reducible first|apply And.intro|intro _)|exact lexT|((try rw[qaa]);omega)
 refine qaI (E:=env 0) tok (σ:=Nat) (fun i=>[(0,.d (dIs l)),(1,.d (dI n)),(4,.d (dB false)),(5,.d (dI i))]) (fun _=>[]) (fun i=>i<=l.length/\∀ j,j<i->l.getD j 0≠n) (fun i=>l.length-i) [] 1000 1000 ?_ ?_ ?_
 ·simp only[go_sem,seval]
 ·simp only[go_sem,seval];exact⟨0,⟨by omega,by omega⟩,rfl⟩
 ·rintro i ⟨hi,hinv⟩;by_cases hlt:i<l.length
  ·have hm:=qab hlt (z:=(0:Int))
   repeat' first|assumption|(simp (disch:=first|assumption|omega|(simp;done)|(simp;omega)) only[go_sem,seval])|(with_reducible first|apply And.intro|intro _)|exact lexT|((try rw[qaa]);omega)
   ·rename_i h1;rw[eq_comm,decide_eq_true_eq];rw[<-h1];exact hm
   ·rename_i h1;refine⟨i+1,⟨by omega,fun j hj=>?_⟩,by omega,rfl⟩;by_cases e:j=i
    ·subst e;exact h1
    ·exact hinv j (by omega)
  ·repeat' first|assumption|(simp (disch:=first|assumption|omega|(simp;done)|(simp;omega)) only[go_sem,seval])|(with_reducible first|apply And.intro|intro _)|exact lexT|((try rw[qaa]);omega)
   rw[eq_comm,decide_eq_false];intro hm;obtain⟨j,hj,rfl⟩:=qbg 0 hm;exact hinv j (by omega) rfl

def tern (x:Int):Prop:=0<=x/\x<=2
instance (x:Int):Decidable (tern x):=by unfold tern;infer_instance
def ternL (l:List Int):Prop:=∀ x∈l,tern x
noncomputable instance (l:List Int):Decidable (ternL l):=Classical.propDecidable _
theorem ternL.get {l:List Int}(h:ternL l) (i:Nat):tern (l.getD i 0):=by
 by_cases hi:i<l.length
 ·exact h _ (qab hi)
 ·rw[List.getD_eq_getElem?_getD,List.getElem?_eq_none (by omega)];exact⟨by simp,by simp⟩
def evOk (c:Circ) (st ins:List Int):Prop:=c.Valid/\st.length=c.next.length/\(ins.length:Int)=c.inputs/\ternL st/\ternL ins
noncomputable instance (c:Circ) (st ins:List Int):Decidable (evOk c st ins):=Classical.propDecidable _

@[go_sem] theorem two_get {k:IntKind}{a b z:Int}{m:Nat}:[D.int k a,D.int k b].getD m (D.int k z)=D.int k ([a,b].getD m z):=by
 rcases m with _|_|m <;> rfl
theorem Tryz.c_l20Circuit (b:List Int) (p n:Int) (hb:Bytes b) (hp:0<=p/\p<=100000000) (hn:0<=n/\n<=1000) :
  ICall prog 66 [.ptr 0 0,.d (dI n)] [rd b p] (fun r H'=>∃ (c:Circ) (q:Int),(p<=q/\q<=p+200)/\(c.next.length<=40/\c.gates.length<=40/\c.outs.length<=40/\-1<=c.inputs/\c.inputs<=5)/\r=.d (dC c)/\H'=[rd b q]):=by
 refine qaz (E:=env 1) tok rfl 1000 func66 rfl rfl ntmps66 (by simp) ?_;simp only[go_sem,seval];refine pick_at hb (by omega) fun x1 hx1=>?_
 simp only[go_sem,seval];refine pick_at hb (by omega) fun x2 hx2=>?_
 simp only[go_sem,seval];refine⟨by rw[qaa];omega,by rw[qaa];omega,?_⟩;refine pick_at hb (by omega) fun x3 hx3=>?_
 simp only[go_sem,seval];refine qja (E:=env 1) tok (σ:=List (Int×Int)×Int×Int×Int) (fun s=>[(0,.ptr 0 0),(1,.d (dI n)),(4,.ptr 1 0),(5,.ptr 2 0),(6,.d (dI x2)),(7,.d (dI s.2.1)),(8,.d (dI s.2.2.1))])
  (fun s=>[rd b s.2.2.2,.box [.d (dI 0),.d .nil,.d .nil,.d .nil],.box [.d (dI x1),.d .nil,.sl 3 s.1.length 2 0 s.1.length,.d .nil],.row s.1.length 2 true (s.1.map dP)])
  (fun s=>0<=s.2.2.1/\s.1.length+s.2.2.1<=14/\1<=s.2.1/\s.2.1<=8+s.1.length/\p<=s.2.2.2/\s.2.2.2<=p+3+4*s.1.length) (fun s=>s.2.2.1.toNat) [(2,2,2,true)] [] 1000 1000 ?_ ?_ ?_ ?_
 ·simp only[go_sem,seval]
 ·simp only[go_sem,seval]
 ·simp only[go_sem,seval];exact⟨([],x1+x2+1,x3,p+1+1+1),by simp;omega,by simp⟩
 ·rintro⟨G,v,k,q⟩ hi;simp only at hi;simp only[go_sem,seval];refine⟨fun h1=>?_,fun h1=>?_⟩
  ·repeat' first|assumption|(simp (disch:=first|assumption|omega|(simp;done)|(simp;omega)) only[go_sem,seval])|(with_reducible first|apply And.intro|intro _)|(refine pick_at hb (by omega) ?_)|((try rw[qaa]);omega)
   ·exact⟨(G ++ [_],v+1,k-1,_),by simp only[yae,yah,yau];omega,by simp only;omega,⟨rfl,rfl⟩,rfl,by simp,by simp,rfl⟩
   ·exact⟨(G ++ [_],v+1,k-1,_),by simp only[yae,yah,yau];omega,by simp only;omega,⟨rfl,rfl⟩,rfl,by simp,by simp,rfl⟩
  ·refine qja (E:=env 1) tok (σ:=List Int×Int) (fun s=>[(0,.ptr 0 0),(1,.d (dI n)),(4,.ptr 1 0),(5,.ptr 2 0),(6,.d (dI x2)),(7,.d (dI v)),(11,.d (dI s.1.length))])
    (fun s=>[rd b s.2,.box [.d (dI 0),.d .nil,.d .nil,.d .nil],.box [.d (dI x1),.sl 4 s.1.length 1 0 s.1.length,.sl 3 G.length 2 0 G.length,.d .nil],.row G.length 2 true (G.map dP),.row s.1.length 1 true (s.1.map (D.int .i64))])
    (fun s=>s.1.length<=x2/\p<=s.2/\s.2<=p+60+s.1.length) (fun s=>x2.toNat-s.1.length) [(2,1,1,true)] [] 1000 1000 ?_ ?_ ?_ ?_
   ·simp only[go_sem,seval]
   ·simp only[go_sem,seval]
   ·simp only[go_sem,seval];exact⟨([],q),by simp;omega,by simp⟩
   ·rintro⟨N,q2⟩ hi2;simp only at hi2;simp only[go_sem,seval];refine⟨fun h2=>?_,fun h2=>?_⟩
    ·refine qbN (n:=1) [5,7,9] (fsts [0,2,3,4] (.two 1 (.one 5 (.one 6 (.one 7 (.fst 8 (.one 9 .done))))) 5 (.two 1 (.one 6 (.one 7 (.fst 8 (.one 9 .done)))) 6 (.one 1 (.one 7 (.fst 8 (.one 9 .done))))))) ?_
     repeat' first|assumption|(simp (disch:=first|assumption|omega|(simp;done)|(simp;omega)) only[go_sem,seval])|(with_reducible first|apply And.intro|intro _)|(refine pick_at hb (by omega) ?_)|((try rw[qaa]);omega)
     all_goals exact⟨(N ++ [_],_),by simp only[yae,yah,yau];omega,by simp only[yae,yah,yau];omega,by simp,rfl,by simp,by simp,rfl⟩
    ·refine pick_at hb (by omega) fun x4 hx4=>?_
     simp only[go_sem,seval];refine qja (E:=env 1) tok (σ:=List Int×Int×Int) (fun s=>[(0,.ptr 0 0),(1,.d (dI n)),(4,.ptr 1 0),(5,.ptr 2 0),(7,.d (dI v)),(12,.d (dI s.2.1))])
      (fun s=>[rd b s.2.2,.box [.d (dI 0),.d .nil,.d .nil,.d .nil],.box [.d (dI x1),.sl 4 N.length 1 0 N.length,.sl 3 G.length 2 0 G.length,.sl 5 s.1.length 1 0 s.1.length],.row G.length 2 true (G.map dP),.row N.length 1 true (N.map (D.int .i64)),.row s.1.length 1 true (s.1.map (D.int .i64))])
      (fun s=>0<=s.2.1/\s.1.length+s.2.1<=4/\p<=s.2.2/\s.2.2<=p+70+3*s.1.length) (fun s=>s.2.1.toNat) [(2,3,1,true)] [] 1000 1000 ?_ ?_ ?_ ?_
     ·simp only[go_sem,seval]
     ·simp only[go_sem,seval]
     ·simp only[go_sem,seval];exact⟨([],x4,q2+1),by simp;omega,by simp⟩
     ·rintro⟨O,k3,q3⟩ hi3;simp only at hi3;simp only[go_sem,seval];refine⟨fun h3=>?_,fun h3=>?_⟩
      ·refine qbN (n:=1) [9,14,17,21,23] (fsts [0,2,3,4,5,6,7,8,11,12,13,16] (.two 1 (.one 9 (.fst 10 (.one 14 (.two 15 (.one 17 (.fst 18 (.one 19 (.one 20 (.one 21 (.fst 22 (.one 23 .done))))))) 17 (.one 15 (.fst 18 (.one 19 (.one 20 (.one 21 (.fst 22 (.one 23 .done))))))))))) 9 (.fst 10 (.two 1 (.one 14 (.two 15 (.one 17 (.fst 18 (.one 19 (.one 20 (.one 21 (.fst 22 (.one 23 .done))))))) 17 (.one 15 (.fst 18 (.one 19 (.one 20 (.one 21 (.fst 22 (.one 23 .done))))))))) 14 (.three 1 (.two 15 (.one 17 (.fst 18 (.one 19 (.one 20 (.one 21 (.fst 22 (.one 23 .done))))))) 17 (.one 15 (.fst 18 (.one 19 (.one 20 (.one 21 (.fst 22 (.one 23 .done)))))))) 15 (.two 1 (.one 17 (.fst 18 (.one 19 (.one 20 (.one 21 (.fst 22 (.one 23 .done))))))) 17 (.fst 18 (.two 1 (.one 19 (.one 20 (.one 21 (.fst 22 (.one 23 .done))))) 19 (.two 1 (.one 20 (.one 21 (.fst 22 (.one 23 .done)))) 20 (.one 1 (.one 21 (.fst 22 (.one 23 .done)))))))) 17 (.two 1 (.one 15 (.fst 18 (.one 19 (.one 20 (.one 21 (.fst 22 (.one 23 .done))))))) 15 (.fst 18 (.two 1 (.one 19 (.one 20 (.one 21 (.fst 22 (.one 23 .done))))) 19 (.two 1 (.one 20 (.one 21 (.fst 22 (.one 23 .done)))) 20 (.one 1 (.one 21 (.fst 22 (.one 23 .done))))))))))))) ?_
       repeat' first|assumption|(simp (disch:=first|assumption|omega|(simp;done)|(simp;omega)) only[go_sem,seval])|(with_reducible first|apply And.intro|intro _)|(refine pick_at hb (by omega) ?_)|((try rw[qaa]);omega)
       all_goals exact⟨(O ++ [_],k3-1,_),by simp only[yae,yah,yau];omega,by simp only;omega,rfl,rfl,by simp,by simp,rfl⟩
      ·refine odd_at hb (by omega) hn fun x5 q5 hq5 hx5=>?_
       simp only[go_sem,seval];refine⟨fun h4=>?_,fun h4=>?_⟩
       ·refine pick_at hb (by omega) fun x6 hx6=>?_
        repeat' first|assumption|(simp (disch:=first|assumption|omega|(simp;done)|(simp;omega)) only[go_sem,seval])|(with_reducible first|apply And.intro|intro _)|(refine pick_at hb (by omega) ?_)|((try rw[qaa]);omega)
        ·rename_i z hz;have hz5 : -1<=([-1,5]:List Int).getD z.toNat 0/\([-1,5]:List Int).getD z.toNat 0<=5:=by
          rcases(show z=0∨z=1 by omega) with rfl|rfl <;> decide
         refine qa3 (r0:=.d (dC ⟨[-1,5].getD z.toNat 0,N,G,O⟩)) (H1:=[rd b (q5+1+1)]) ?_ ⟨⟨_,N,G,O⟩,q5+1+1,by omega,by simp only;omega,rfl,rfl⟩;simp only[go_sem,seval]
        ·refine qbN (n:=1) [6,10,12] (fsts [0,2,3,5] (.three 1 (.two 4 (.one 6 (.fst 7 (.one 8 (.one 9 (.one 10 (.fst 11 (.one 12 .done))))))) 6 (.one 4 (.fst 7 (.one 8 (.one 9 (.one 10 (.fst 11 (.one 12 .done)))))))) 4 (.two 1 (.one 6 (.fst 7 (.one 8 (.one 9 (.one 10 (.fst 11 (.one 12 .done))))))) 6 (.fst 7 (.two 1 (.one 8 (.one 9 (.one 10 (.fst 11 (.one 12 .done))))) 8 (.two 1 (.one 9 (.one 10 (.fst 11 (.one 12 .done)))) 9 (.one 1 (.one 10 (.fst 11 (.one 12 .done)))))))) 6 (.two 1 (.one 4 (.fst 7 (.one 8 (.one 9 (.one 10 (.fst 11 (.one 12 .done))))))) 4 (.fst 7 (.two 1 (.one 8 (.one 9 (.one 10 (.fst 11 (.one 12 .done))))) 8 (.two 1 (.one 9 (.one 10 (.fst 11 (.one 12 .done)))) 9 (.one 1 (.one 10 (.fst 11 (.one 12 .done)))))))))) ?_
         repeat' first|assumption|(simp (disch:=first|assumption|omega|(simp;done)|(simp;omega)) only[go_sem,seval])|(with_reducible first|apply And.intro|intro _)|(refine pick_at hb (by omega) ?_)|((try rw[qaa]);omega)
         all_goals (
          rename_i z hz;refine qa3 (r0:=.d (dC ⟨x1,N,G,O ++ [[-1,2*v].getD z.toNat 0]⟩)) (H1:=[rd b (q5+1+1)]) ?_ ⟨⟨x1,N,G,O ++ [[-1,2*v].getD z.toNat 0]⟩,q5+1+1,by omega,by simp only[yae,yah,yau];omega,rfl,rfl⟩;simp only[go_sem,seval];rw[yaa (by simp)])
        ·refine qa3 (r0:=.d (dC ⟨x1,N ++ [-1],G,O⟩)) (H1:=[rd b (q5+1)]) ?_ ⟨⟨x1,N ++ [-1],G,O⟩,q5+1,by omega,by simp;omega,rfl,rfl⟩;simp only[go_sem,seval];rw[yaa (by simp)]
        ·refine qa3 (r0:=.d (dC ⟨x1,N,G ++ [(2*v,0)],O⟩)) (H1:=[rd b (q5+1)]) ?_ ⟨⟨x1,N,G ++ [(2*v,0)],O⟩,q5+1,by omega,by simp;omega,rfl,rfl⟩;simp only[go_sem,seval];rw[yaa (by simp)]
        ·refine qaI (E:=env 1) tok (σ:=List (Int×Int)) (fun s=>[(0,.ptr 0 0),(1,.d (dI n)),(4,.ptr 1 0),(5,.ptr 2 0)])
          (fun s=>[rd b (q5+1),.box [.d (dI 0),.d .nil,.d .nil,.d .nil],.box [.d (dI x1),.sl 4 N.length 1 0 N.length,.sl 3 s.length 2 0 s.length,.sl 5 O.length 1 0 O.length],.row s.length 2 true (s.map dP),.row N.length 1 true (N.map (D.int .i64)),.row O.length 1 true (O.map (D.int .i64))])
          (fun s=>s.length<=15) (fun s=>15-s.length) [] 1000 1000 ?_ ?_ ?_
         ·simp only[go_sem,seval]
         ·simp only[go_sem,seval];exact⟨G,by omega,by simp⟩
         ·intro s hs
          repeat' first|assumption|(simp (disch:=first|assumption|omega|(simp;done)|(simp;omega)) only[go_sem,seval])|(with_reducible first|apply And.intro|intro _)|((try rw[qaa]);omega)
          ·exact⟨s ++ [(0,0)],by simp;omega,by simp;omega,by simp,by simp,rfl⟩
          ·refine qa3 (r0:=.d (dC ⟨x1,N,s,O⟩)) (H1:=[rd b (q5+1)]) ?_ ⟨⟨x1,N,s,O⟩,q5+1,by omega,by simp only;omega,rfl,rfl⟩;simp only[go_sem,seval]
        ·refine qa3 (r0:=.d (dC ⟨x1,N,G,O ++ [0,0,0,0]⟩)) (H1:=[rd b (q5+1)]) ?_ ⟨⟨x1,N,G,O ++ [0,0,0,0]⟩,q5+1,by omega,by simp only[yae,yah,yau];omega,rfl,rfl⟩;simp only[go_sem,seval];rw[yaa (by simp)];simp
       ·refine qa3 (r0:=.d (dC ⟨x1,N,G,O⟩)) (H1:=[rd b q5]) ?_ ⟨⟨x1,N,G,O⟩,q5,by omega,by simp only;omega,rfl,rfl⟩;simp only[go_sem,seval]
end Go.Proofs

/- Contracts: the reference's cuts. Conditions: none; lemmas. -/
import Derived.Test.YtagfdhingigaoaaC11
import Derived.Test.YtagfdhingigaoaaC61
set_option maxRecDepth 20000
set_option linter.unusedVariables false
set_option linter.unusedSimpArgs false
namespace Go.Proofs
open Go Go.VL
abbrev dIss (l:List (List Int)):D:=.lst 1 (l.map fun x=>dIs x)
abbrev qou (l:List (List (List Int))):D:=.lst 1 (l.map fun x=>dIss x)
theorem qaK {l:List (List Int)}{i:Nat}{z:D}(h:i<l.length):(l.map fun x=>dIs x).getD i z=dIs (l.getD i []):=getD_lt _ _ _ _ _ h
theorem qaL {l:List (List (List Int))}{i:Nat}{z:D}(h:i<l.length):(l.map fun x=>dIss x).getD i z=dIss (l.getD i []):=getD_lt _ _ _ _ _ h
theorem qdA {α β : Type}{f : α→β}{l:List α}{i:Nat}(z : α) (h:i<l.length):(l.take (i+1)).map f=(l.take i).map f ++ [f (l.getD i z)]:=by
 rw[List.take_succ_eq_append_getElem h,List.map_append]
 simp[List.getD,h]
theorem drop_cons {l:List Int}{i:Nat}(h:i<l.length):l.drop i=l.getD i 0::l.drop (i+1):=by
 rw[List.drop_eq_getElem_cons h];simp[List.getD,h]
theorem Try.c_l5Merge (a b:List Int) (ha:a.length≤100) (hb:b.length≤100):Pure Try.prog 61 [dIs a,dIs b] (dIs (qaF a b)):=by
 refine qat (E:=Try.env 0) Try.tok rfl 1000 Try.func61 rfl rfl Try.ntmps61 (by simp) fun ok=>?_
 simp only[go_sem,seval] at ok
 simp only[go_sem,seval,Try.results61]
 repeat' first|assumption|(simp (disch:=first|assumption|omega|(simp;done)|(simp;omega)) only[List.take_of_length_le,qab,qaK,qaL];try simp only[go_sem,seval,Try.results61])|(with_reducible first|apply And.intro|intro _)|(refine qac ?_;simp only[go_sem,seval,Try.results61])|exact lexT|((try rw[qaa]);omega)
 refine qaH (E:=Try.env 0) Try.tok (σ:=Nat×Nat×List Int) (fun s=>[(0,.d (dIs a)),(1,.d (dIs b)),(5,.sl 0 s.2.2.length 1 0 s.2.2.length),(6,.d (dI s.1)),(7,.d (dI s.2.1))]) (fun s=>[.row s.2.2.length 1 true (s.2.2.map (D.int .i64))])
  (fun s=>s.1≤a.length∧s.2.1≤b.length∧s.2.2.length≤s.1+s.2.1∧s.2.2++qaF (a.drop s.1) (b.drop s.2.1)=qaF a b) (fun s=>(a.length-s.1)+(b.length-s.2.1)) [] 1000 1000 ?_ ?_ ?_
 ·simp only[go_sem,seval]
 ·simp only[go_sem,seval]
  exact⟨(0,0,[]),⟨Nat.zero_le _,Nat.zero_le _,by simp,by simp⟩,⟨rfl,rfl,rfl⟩,rfl,rfl⟩
 ·rintro⟨i,j,out⟩ ⟨hi,hj,hl,hinv⟩
  simp only at hi hj hl hinv
  have stepA:i<a.length→(j=b.length∨j<b.length∧a.getD i 0<b.getD j 0)→(out ++ [a.getD i 0])++qaF (a.drop (i+1)) (b.drop j)=qaF a b:=by
   intro h1 h2
   rw[←hinv,drop_cons h1,List.append_assoc]
   rcases h2 with h2|⟨h2,h3⟩
   ·rw[List.drop_eq_nil_of_le (by omega:b.length≤j),qcF,qcF];rfl
   ·rw[drop_cons h2,qeV h3];rfl
  have qcJ:j<b.length→(i=a.length∨i<a.length∧b.getD j 0<a.getD i 0)→(out ++ [b.getD j 0])++qaF (a.drop i) (b.drop (j+1))=qaF a b:=by
   intro h1 h2
   rw[←hinv,drop_cons h1,List.append_assoc]
   rcases h2 with h2|⟨h2,h3⟩
   ·rw[List.drop_eq_nil_of_le (by omega:a.length≤i),qcA,qcA];rfl
   ·rw[drop_cons h2,qeW h3];rfl
  have stepC:i<a.length→j<b.length→a.getD i 0=b.getD j 0→(out ++ [a.getD i 0])++qaF (a.drop (i+1)) (b.drop (j+1))=qaF a b:=by
   intro h1 h2 h3
   rw[←hinv,drop_cons h1,drop_cons h2,←h3,qeX,List.append_assoc];rfl
  have fin:i=a.length→j=b.length→out=qaF a b:=by
   intro h1 h2
   rw[←hinv,List.drop_eq_nil_of_le (by omega:a.length≤i),List.drop_eq_nil_of_le (by omega:b.length≤j),qcA,List.append_nil]
  simp only[go_sem,seval,Try.results61]
  repeat' first|assumption|(simp (disch:=first|assumption|omega|(simp;done)|(simp;omega)) only[List.take_of_length_le,qab,qaK,qaL];try simp only[go_sem,seval,Try.results61])|(with_reducible first|apply And.intro|intro _)|(refine qac ?_;simp only[go_sem,seval,Try.results61])|exact lexT|((try rw[qaa]);omega)
  ·exact⟨(i+1,j,out ++ [a.getD i 0]),⟨by simp only;omega,by simp only;omega,by simp;omega,stepA (by omega) (by omega)⟩,by simp only;omega,⟨by simp,rfl,rfl⟩,by simp,rfl⟩
  ·exact⟨(i,j+1,out ++ [b.getD j 0]),⟨by simp only;omega,by simp only;omega,by simp;omega,qcJ (by omega) (by omega)⟩,by simp only;omega,⟨by simp,rfl,rfl⟩,by simp,rfl⟩
  ·exact⟨(i+1,j+1,out ++ [a.getD i 0]),⟨by simp only;omega,by simp only;omega,by simp;omega,stepC (by omega) (by omega) (by omega)⟩,by simp only;omega,⟨by simp,rfl,rfl⟩,by simp,rfl⟩
  ·exact fin (by omega) (by omega)
theorem Try.c_l5Has (cuts:List (List Int)) (cut:List Int) (h1:cuts.length≤100) (h2:cut.length≤100):Pure Try.prog 62 [dIss cuts,dIs cut] (.bool (decide (cut∈cuts))):=by
 refine qat (E:=Try.env 0) Try.tok rfl 1000 Try.func62 rfl rfl Try.ntmps62 (by simp) fun ok=>?_
 simp only[go_sem,seval] at ok
 simp only[go_sem,seval,Try.results62]
 repeat' first|assumption|(simp (disch:=first|assumption|omega|(simp;done)|(simp;omega)) only[List.take_of_length_le,qab,qaK,qaL];try simp only[go_sem,seval,Try.results62])|(with_reducible first|apply And.intro|intro _)|(refine qac ?_;simp only[go_sem,seval,Try.results62])|exact lexT|((try rw[qaa]);omega)
 refine qaH (E:=Try.env 0) Try.tok (σ:=Nat) (fun i=>[(0,.d (dIss cuts)),(1,.d (dIs cut)),(4,.d (dB false)),(5,.d (dI i))]) (fun _=>[]) (fun i=>i≤cuts.length∧∀ j,j<i→cuts.getD j []≠cut) (fun i=>cuts.length-i) [] 1000 1000 ?_ ?_ ?_
 ·simp only[go_sem,seval]
 ·simp only[go_sem,seval]
  exact⟨0,⟨by omega,by omega⟩,rfl⟩
 ·rintro i ⟨hi,hinv⟩
  by_cases hlt:i<cuts.length
  ·simp only[go_sem,seval,Try.results62]
   repeat' first|assumption|(simp (disch:=first|assumption|omega|(simp;done)|(simp;omega)) only[List.take_of_length_le,qab,qaK,qaL];try simp only[go_sem,seval,Try.results62])|(with_reducible first|apply And.intro|intro _)|(refine qac ?_;simp only[go_sem,seval,Try.results62])|exact lexT|((try rw[qaa]);omega)
   have hx:=qan hlt (z:=([]:List Int))
   generalize hd9:cuts.getD i []=x at *
   refine qaH (E:=Try.env 0) Try.tok (σ:=Nat×Bool) (fun s=>[(0,.d (dIss cuts)),(1,.d (dIs cut)),(4,.d (dB false)),(5,.d (dI i)),(6,.d (dB s.2)),(7,.d (dI s.1))]) (fun _=>[]) (fun s=>(s.2=true→s.1≤cut.length)∧(s.2=true↔x.length=cut.length∧∀ j,j<s.1→x.getD j 0=cut.getD j 0)) (fun s=>cut.length-s.1) [] 1000 1000 ?_ ?_ ?_
   ·simp only[go_sem,seval]
   ·simp only[go_sem,seval]
    exact⟨(0,decide (x.length=cut.length)),⟨by simp,by simp⟩,rfl,rfl⟩
   ·rintro⟨k,b⟩ ⟨hk,hb⟩
    simp only at hk hb
    cases b with
    | true=>
     obtain⟨hl,hall⟩:=hb.1 rfl
     have hk:=hk rfl
     simp only[go_sem,seval,Try.results62]
     repeat' first|assumption|(simp (disch:=first|assumption|omega|(simp;done)|(simp;omega)) only[List.take_of_length_le,qab,qaK,qaL];try simp only[go_sem,seval,Try.results62,hd9])|(with_reducible first|apply And.intro|intro _)|(refine qac ?_;simp only[go_sem,seval,Try.results62,hd9])|exact lexT|((try rw[qaa]);omega)
     ·refine⟨(k+1,decide (x.getD k 0=cut.getD k 0)),⟨fun _=>by simp only;omega,?_⟩,by simp only;omega,rfl,rfl⟩
      simp only[decide_eq_true_eq]
      refine⟨fun h=>⟨hl,fun j hj=>?_⟩,fun h=>h.2 k (by omega)⟩
      by_cases hjk:j=k
      ·subst hjk;exact h
      ·exact hall j (by omega)
     ·have e:x=cut:=qcP 0 hl fun j hj=>hall j (by omega)
      rw[←e,decide_eq_true hx]
    | false=>
     simp only[go_sem,seval,Try.results62]
     repeat' first|assumption|(simp (disch:=first|assumption|omega|(simp;done)|(simp;omega)) only[List.take_of_length_le,qab,qaK,qaL];try simp only[go_sem,seval,Try.results62,hd9])|(with_reducible first|apply And.intro|intro _)|(refine qac ?_;simp only[go_sem,seval,Try.results62,hd9])|exact lexT|((try rw[qaa]);omega)
     refine⟨i+1,⟨by omega,fun j hj=>?_⟩,by omega,rfl⟩
     by_cases hji:j=i
     ·subst hji
      rw[hd9]
      rintro rfl
      exact absurd (hb.2 ⟨rfl,fun _ _=>rfl⟩) (by simp)
     ·exact hinv j (by omega)
  ·simp only[go_sem,seval,Try.results62]
   repeat' first|assumption|(simp (disch:=first|assumption|omega|(simp;done)|(simp;omega)) only[List.take_of_length_le,qab,qaK,qaL];try simp only[go_sem,seval,Try.results62])|(with_reducible first|apply And.intro|intro _)|(refine qac ?_;simp only[go_sem,seval,Try.results62])|exact lexT|((try rw[qaa]);omega)
   simp only[false_eq_decide_iff]
   intro hm
   obtain⟨j,hj,he⟩:=qbb [] hm
   exact hinv j (by omega) he
theorem Try.c_l5Arrive (arr cut:List Int) (h : ∀ z∈cut,0≤z∧z<arr.length):Pure Try.prog 60 [dIs arr,dIs cut] (dI (qcG arr cut)):=by
 refine qat (E:=Try.env 0) Try.tok rfl 1000 Try.func60 rfl rfl Try.ntmps60 (by simp) fun ok=>?_
 simp only[go_sem,seval] at ok
 simp only[go_sem,seval,Try.results60]
 repeat' first|assumption|(simp (disch:=first|assumption|omega|(simp;done)|(simp;omega)) only[List.take_of_length_le,qab,qaK,qaL];try simp only[go_sem,seval,Try.results60])|(with_reducible first|apply And.intro|intro _)|(refine qac ?_;simp only[go_sem,seval,Try.results60])|exact lexT|((try rw[qaa]);omega)
 refine qaH (E:=Try.env 0) Try.tok (σ:=Nat) (fun i=>[(0,.d (dIs arr)),(1,.d (dIs cut)),(5,.d (dI ((cut.take i).foldl (fun t v=>max t (arr.getD v.toNat 0)) 0))),(6,.d (dI i))]) (fun _=>[]) (fun i=>i≤cut.length) (fun i=>cut.length-i) [] 1000 1000 ?_ ?_ ?_
 ·simp only[go_sem,seval]
 ·simp only[go_sem,seval]
  exact⟨0,by omega,rfl,rfl⟩
 ·intro i hi
  by_cases hlt:i<cut.length
  ·have e1:=qaR (f:=fun t v=>max t (arr.getD v.toNat 0)) (b:=0) (0:Int) hlt
   have e2:=h _ (qan hlt:cut.getD i 0∈cut)
   simp only[go_sem,seval,Try.results60]
   repeat' first|assumption|(simp (disch:=first|assumption|omega|(simp;done)|(simp;omega)) only[List.take_of_length_le,qab,qaK,qaL];try simp only[go_sem,seval,Try.results60])|(with_reducible first|apply And.intro|intro _)|(refine qac ?_;simp only[go_sem,seval,Try.results60])|exact lexT|((try rw[qaa]);omega)
   exact⟨i+1,by omega,by omega,e1.symm,rfl⟩
  ·simp only[go_sem,seval,Try.results60]
   repeat' first|assumption|(simp (disch:=first|assumption|omega|(simp;done)|(simp;omega)) only[List.take_of_length_le,qab,qaK,qaL];try simp only[go_sem,seval,Try.results60])|(with_reducible first|apply And.intro|intro _)|(refine qac ?_;simp only[go_sem,seval,Try.results60])|exact lexT|((try rw[qaa]);omega)
   rfl
theorem Try.c_l5Cuts (c:Circ) (hc:c.Valid):PureF Try.prog 54 [dC c] (qou (qbJ c)):=by
 have hf:=hc.first_bd
 have hi0:=hc.i0
 have hi1:=hc.i1
 have hfst:=Try.c_l1First c (by omega)
 have hl0:=qby (c:=c) hf.1 0
 refine qde (E:=Try.envf 0) Try.tok rfl 1000 Try.func54 rfl rfl Try.ntmps54 (by simp) fun ok=>?_
 simp only[go_sem,seval] at ok
 simp only[go_sem,seval,Try.results54]
 repeat' first|assumption|(simp (disch:=first|assumption|omega|(simp;done)|(simp;omega)) only[List.take_of_length_le,qab,qaK,qaL];try simp only[go_sem,seval,Try.results54])|(with_reducible first|apply And.intro|intro _)|(refine qag hfst ?_;simp only[go_sem,seval,Try.results54])|(refine qac ?_;simp only[go_sem,seval,Try.results54])|exact lexT|((try rw[qaa]);omega)
 refine qas (E:=Try.envf 0) Try.tok (σ:=Nat) (fun v=>[(0,.d (dC c)),(1,.ptr 0 0),(3,.sl 3 (v-1) 1 0 v),(4,.d (dI v))]) (fun v=>[.box [.d (dI c.inputs),.d (dIs c.next),.d (dPs c.gates),.d (dIs c.outs)],.dead 0,.dead 0,.row (v-1) 1 false (((qaQ c 0).take v).map fun x=>dIss x)])
  (fun v=>1≤v∧(v:Int)≤c.first) (fun v=>c.first.toNat-v) [] [] 1000 1000 ?_ ?_
 ·simp only[go_sem,seval]
  exact⟨1,⟨by omega,by omega⟩,⟨⟨rfl,rfl⟩,rfl⟩,rfl,by simp[qaQ]⟩
 ·rintro v ⟨hv1,hv⟩
  by_cases hlt:(v:Int)<c.first
  ·have hg:(qaQ c 0).getD v []=[[(v:Int)]]:=by
    obtain⟨m,rfl⟩ : ∃ m,v=m+1:=⟨v-1,by omega⟩
    simp[qaQ,List.getD,show m<c.first.toNat-1 by omega]
   have hts:=qdA (f:=fun x=>dIss x) ([]:List (List Int)) (show v<(qaQ c 0).length by omega)
   simp only[go_sem,seval,Try.results54]
   repeat' first|assumption|(simp (disch:=first|assumption|omega|(simp;done)|(simp;omega)) only[List.take_of_length_le,qab,qaK,qaL];try simp only[go_sem,seval,Try.results54])|(with_reducible first|apply And.intro|intro _)|(refine qag hfst ?_;simp only[go_sem,seval,Try.results54])|(refine qac ?_;simp only[go_sem,seval,Try.results54])|exact lexT|((try rw[qaa]);omega)
   ·simp;omega
   ·refine⟨v+1,⟨by omega,by omega⟩,by omega,⟨⟨by omega,rfl⟩,by omega⟩,by omega,?_⟩
    rw[hts,hg]
    rfl
  ·simp only[go_sem,seval,Try.results54]
   repeat' first|assumption|(simp (disch:=first|assumption|omega|(simp;done)|(simp;omega)) only[List.take_of_length_le,qab,qaK,qaL];try simp only[go_sem,seval,Try.results54])|(with_reducible first|apply And.intro|intro _)|(refine qag hfst ?_;simp only[go_sem,seval,Try.results54])|(refine qac ?_;simp only[go_sem,seval,Try.results54])|exact lexT|((try rw[qaa]);omega)
   have hv3:v=c.first.toNat:=by omega
   subst hv3
   clear hlt hv hv1
   have hlg:=hc.lg
   refine qas (E:=Try.envf 0) Try.tok (σ:=Nat) (fun i=>[(0,.d (dC c)),(1,.ptr 0 0),(3,.sl 3 (c.first.toNat-1+i) 1 0 (c.first.toNat+i)),(5,.d (dI i))]) (fun i=>[.box [.d (dI c.inputs),.d (dIs c.next),.d (dPs c.gates),.d (dIs c.outs)],.dead 0,.dead 0,.row (c.first.toNat-1+i) 1 false ((qaQ c i).map fun x=>dIss x)])
    (fun i=>i≤c.gates.length) (fun i=>c.gates.length-i) [] [] 1000 1000 ?_ ?_
   ·simp only[go_sem,seval]
    exact⟨0,by omega,⟨⟨rfl,rfl⟩,rfl⟩,rfl,rfl⟩
   ·intro i hi
    have hli:=qby (c:=c) hf.1 i
    by_cases hlt:i<c.gates.length
    ·obtain⟨g1,g2⟩:=hc.g i hlt
     have hco:=qcT hc i hi
     unfold qba at g1 g2
     simp only[go_sem,seval,Try.results54]
     repeat' first|assumption|(simp (disch:=first|assumption|omega|(simp;done)|(simp;omega)) only[List.take_of_length_le,qab,qaK,qaL];try simp only[go_sem,seval,Try.results54])|(with_reducible first|apply And.intro|intro _)|(refine qag hfst ?_;simp only[go_sem,seval,Try.results54])|(refine qac ?_;simp only[go_sem,seval,Try.results54])|exact lexT|((try rw[qaa]);omega)
     have hA:(qbM c i/2).toNat<(qaQ c i).length:=by unfold qbM;omega
     have hB:(qbN c i/2).toNat<(qaQ c i).length:=by unfold qbN;omega
     obtain⟨pa,-,-,pl⟩:=hco _ hA
     obtain⟨qa,-,-,ql⟩:=hco _ hB
     have hjn:(qaQ c (i+1))=qaQ c i ++ [qfW ((qaQ c i).getD (qbM c i/2).toNat []) ((qaQ c i).getD (qbN c i/2).toNat []) ++ [[c.first+(i:Int)]]]:=rfl
     have hgA:(c.gates.getD i (0,0)).1=qbM c i:=rfl
     have hgB:(c.gates.getD i (0,0)).2=qbN c i:=rfl
     rw[hgA,hgB]
     have hjl:=qkx ((qaQ c i).getD (qbM c i/2).toNat []) ((qaQ c i).getD (qbN c i/2).toNat [])
     generalize (qaQ c i).getD (qbM c i/2).toNat []=P at *
     generalize (qaQ c i).getD (qbN c i/2).toNat []=Q at *
     refine qas (E:=Try.envf 0) Try.tok (σ:=Nat) (fun a=>[(0,.d (dC c)),(1,.ptr 0 0),(3,.sl 3 (c.first.toNat-1+i) 1 0 (c.first.toNat+i)),(5,.d (dI i)),(6,.d (dI (c.first+(i:Int)))),(7,.sl 4 ((P.take a).foldl (fun l x=>rowC x Q l) []).length 1 0 ((P.take a).foldl (fun l x=>rowC x Q l) []).length),(8,.d (dIss P)),(9,.d (dIss Q)),(10,.d (dI a))])
      (fun a=>[.box [.d (dI c.inputs),.d (dIs c.next),.d (dPs c.gates),.d (dIs c.outs)],.dead 0,.dead 0,.row (c.first.toNat-1+i) 1 false ((qaQ c i).map fun x=>dIss x),.row ((P.take a).foldl (fun l x=>rowC x Q l) []).length 1 false (((P.take a).foldl (fun l x=>rowC x Q l) []).map fun x=>dIs x)])
      (fun a=>a≤P.length∧((P.take a).foldl (fun l x=>rowC x Q l) []).length≤8) (fun a=>P.length-a) [] [] 1000 1000 ?_ ?_
     ·simp only[go_sem,seval]
      exact⟨0,⟨by omega,by simp⟩,by simp⟩
     ·rintro a ⟨ha,hl8⟩
      by_cases hat:a<P.length
      ·have hsa:=qaR (f:=fun l x=>rowC x Q l) (b:=[]) ([]:List Int) hat
       have hpx:=pa _ (qan hat:P.getD a []∈P)
       generalize hx9:P.getD a []=X at *
       generalize (P.take a).foldl (fun l x=>rowC x Q l) []=L0 at *
       simp only[go_sem,seval,Try.results54]
       repeat' first|assumption|(simp (disch:=first|assumption|omega|(simp;done)|(simp;omega)) only[List.take_of_length_le,qab,qaK,qaL];try simp only[go_sem,seval,Try.results54,hx9])|(with_reducible first|apply And.intro|intro _)|(refine qac ?_;simp only[go_sem,seval,Try.results54,hx9])|exact lexT|((try rw[qaa]);omega)
       refine qas (E:=Try.envf 0) Try.tok (σ:=Nat) (fun b=>[(0,.d (dC c)),(1,.ptr 0 0),(3,.sl 3 (c.first.toNat-1+i) 1 0 (c.first.toNat+i)),(5,.d (dI i)),(6,.d (dI (c.first+(i:Int)))),(7,.sl 4 (rowC X (Q.take b) L0).length 1 0 (rowC X (Q.take b) L0).length),(8,.d (dIss P)),(9,.d (dIss Q)),(10,.d (dI a)),(11,.d (dI b))])
        (fun b=>[.box [.d (dI c.inputs),.d (dIs c.next),.d (dPs c.gates),.d (dIs c.outs)],.dead 0,.dead 0,.row (c.first.toNat-1+i) 1 false ((qaQ c i).map fun x=>dIss x),.row (rowC X (Q.take b) L0).length 1 false ((rowC X (Q.take b) L0).map fun x=>dIs x)])
        (fun b=>b≤Q.length) (fun b=>Q.length-b) [] [] 1000 1000 ?_ ?_
       ·simp only[go_sem,seval]
        exact⟨0,by omega,by simp[rowC]⟩
       ·intro b hb
        have hr8:=qid (x:=X) (q:=Q.take b) hl8
        by_cases hbt:b<Q.length
        ·have hsb:rowC X (Q.take (b+1)) L0=addC (rowC X (Q.take b) L0) (qaF X (Q.getD b [])):=qaR (f:=fun l y=>addC l (qaF X y)) (b:=L0) ([]:List Int) hbt
         have hqy:=qa _ (qan hbt:Q.getD b []∈Q)
         generalize hy9:Q.getD b []=Y at *
         generalize rowC X (Q.take b) L0=L1 at *
         have hm:=Try.c_l5Merge X Y (by have:=hpx.len;omega) (by have:=hqy.len;omega)
         have hml:=qdj X Y
         have hh:=Try.c_l5Has L1 (qaF X Y) (by omega) (by have:=hpx.len;have:=hqy.len;omega)
         have had:addC L1 (qaF X Y)=if(qaF X Y).length≤3∧L1.length<8∧qaF X Y∉L1 then L1 ++ [qaF X Y] else L1:=rfl
         generalize qaF X Y=Z at *
         simp only[go_sem,seval,Try.results54]
         repeat' first|assumption|(simp (disch:=first|assumption|omega|(simp;done)|(simp;omega)) only[List.take_of_length_le,qab,qaK,qaL];try simp only[go_sem,seval,Try.results54,hx9,hy9])|(with_reducible first|apply And.intro|intro _)|(refine qac ?_;simp only[go_sem,seval,Try.results54,hx9,hy9])|exact lexT|((try rw[qaa]);omega)
         refine qau (E:=Try.envf 0) Try.tok Try.follows 1000 1000 [] (fsts [0,1,2,4,5,6,3,7] (.one 8 (.fst 9 .done))) (by kernel_rfl) ?_
         simp only[go_sem,seval,Try.results54,hx9,hy9]
         repeat' first|assumption|(simp (disch:=first|assumption|omega|(simp;done)|(simp;omega)) only[List.take_of_length_le,qab,qaK,qaL];try simp only[go_sem,seval,Try.results54,hx9,hy9])|(with_reducible first|apply And.intro|intro _)|(refine qcm hm ?_;simp only[go_sem,seval,Try.results54,hx9,hy9])|(refine qb4 (fun _=>hh) ?_;simp only[go_sem,seval,Try.results54,hx9,hy9])|(refine qac ?_;simp only[go_sem,seval,Try.results54,hx9,hy9])|exact lexT|((try rw[qaa]);omega)
         ·rename_i h9
          have e:rowC X (Q.take (b+1)) L0=L1 ++ [Z]:=by rw[hsb,had,if_pos ⟨by omega,by omega,h9.2⟩]
          refine⟨b+1,by omega,by omega,?_⟩
          rw[e]
          exact⟨⟨by simp,rfl⟩,by simp,by simp⟩
         ·rename_i h9
          have e:rowC X (Q.take (b+1)) L0=L1:=by
           rw[hsb,had,if_neg (by
            rintro⟨q1,q2,q3⟩
            rcases h9 with(h9|h9)|h9
            ·omega
            ·omega
            ·exact q3 h9)]
          refine⟨b+1,by omega,by omega,?_⟩
          rw[e]
          exact⟨⟨rfl,rfl⟩,rfl,rfl⟩
        ·simp only[go_sem,seval,Try.results54]
         repeat' first|assumption|(simp (disch:=first|assumption|omega|(simp;done)|(simp;omega)) only[List.take_of_length_le,qab,qaK,qaL];try simp only[go_sem,seval,Try.results54])|(with_reducible first|apply And.intro|intro _)|(refine qac ?_;simp only[go_sem,seval,Try.results54])|exact lexT|((try rw[qaa]);omega)
         refine⟨a+1,⟨by omega,?_⟩,by omega,?_⟩
         ·rw[hsa];exact qid hl8
         ·rw[hsa];exact⟨⟨rfl,rfl⟩,rfl,rfl⟩
      ·have e1:P.foldl (fun l x=>rowC x Q l) []=qfW P Q:=rfl
       simp only[go_sem,seval,Try.results54]
       repeat' first|assumption|(simp (disch:=first|assumption|omega|(simp;done)|(simp;omega)) only[List.take_of_length_le,qab,qaK,qaL];try simp only[go_sem,seval,Try.results54])|(with_reducible first|apply And.intro|intro _)|(refine qac ?_;simp only[go_sem,seval,Try.results54])|exact lexT|((try rw[qaa]);omega)
       ·rw[e1];omega
       ·refine⟨i+1,by omega,by omega,⟨⟨by omega,by omega⟩,rfl⟩,by omega,?_⟩
        rw[hjn,e1,List.map_append]
        simp
    ·simp only[go_sem,seval,Try.results54]
     repeat' first|assumption|(simp (disch:=first|assumption|omega|(simp;done)|(simp;omega)) only[List.take_of_length_le,qab,qaK,qaL];try simp only[go_sem,seval,Try.results54])|(with_reducible first|apply And.intro|intro _)|(refine qag hfst ?_;simp only[go_sem,seval,Try.results54])|(refine qac ?_;simp only[go_sem,seval,Try.results54])|exact lexT|((try rw[qaa]);omega)
     rw[qbJ,show i=c.gates.length by omega]
def qdK (c:Circ) (l:List (List Int)):List D:=List.replicate c.first.toNat .nil++(l.drop c.first.toNat).map fun x=>dIs x
theorem qgQ {c:Circ}{l:List (List Int)}(h:c.first.toNat≤l.length):(qdK c l).length=l.length:=by simp[qdK];omega
theorem qmN {c:Circ}{l:List (List Int)}{v:Nat}(h1:c.first.toNat≤v) (h2:v<l.length) {z:D}:(qdK c l).getD v z=dIs (l.getD v []):=by
 unfold qdK
 rw[List.getD_eq_getElem?_getD,List.getElem?_append_right (by rw[List.length_replicate];exact h1)]
 simp[List.getD,h2,show c.first.toNat+(v-c.first.toNat)=v by omega]
theorem qlm {c:Circ}{l:List (List Int)}{x:List Int}(h:c.first.toNat≤l.length):qdK c (l ++ [x])=qdK c l ++ [dIs x]:=by
 unfold qdK
 rw[List.drop_append_of_le_length h,List.map_append,List.append_assoc];rfl
theorem Try.c_l5Best (c:Circ) (hc:c.Valid):PureF Try.prog 53 [dC c,qou (qbJ c)] (.tup [.lst 1 (qdK c (qb9 c)),dIs (arrC c)]):=by
 have hf:=hc.first_bd
 have hi0:=hc.i0
 have hi1:=hc.i1
 have hfst:=Try.c_l1First c (by omega)
 refine qde (E:=Try.envf 0) Try.tok rfl 1000 Try.func53 rfl rfl Try.ntmps53 (by simp) fun ok=>?_
 simp only[go_sem,seval] at ok
 simp only[go_sem,seval,Try.results53]
 repeat' first|assumption|(simp (disch:=first|assumption|omega|(simp;done)|(simp;omega)) only[List.take_of_length_le,qab,qaK,qaL];try simp only[go_sem,seval,Try.results53])|(with_reducible first|apply And.intro|intro _)|(refine qag hfst ?_;simp only[go_sem,seval,Try.results53])|(refine qac ?_;simp only[go_sem,seval,Try.results53])|exact lexT|((try rw[qaa]);omega)
 have hbd:=qkA c (qbJ c)
 have hcl:=qby (c:=c) hf.1 c.gates.length
 have hco:=qcT hc c.gates.length (Nat.le_refl _)
 have hlg:=hc.lg
 rw[←qbJ] at hcl hco
 have hgate : ∀ i,i<c.gates.length→∃ x r,(qbJ c).getD (c.first.toNat+i) []=x::r∧r≠[]:=fun i hi=>by
  have h1:=qiV hc hi
  rw[qbJ,qfm hf.1 hi]
  cases hj:qfW ((qaQ c i).getD (qbM c i/2).toNat []) ((qaQ c i).getD (qbN c i/2).toNat []) with
  | nil=>rw[hj] at h1;simp at h1
  | cons x r=>exact⟨x,r ++ [[c.first+(i:Int)]],rfl,by simp⟩
 have hleaf : ∀ i,i<c.gates.length→∀ cut∈((qbJ c).getD (c.first.toNat+i) []).dropLast,∀ z∈cut,0≤z∧z<c.first+(i:Int):=fun i hi cut hcut z hz=>by
  rw[qbJ,qfm hf.1 hi,List.dropLast_concat] at hcut
  have hl:=qby (c:=c) hf.1 i
  obtain⟨g1,g2⟩:=hc.g i hi
  have ha:(qbM c i/2).toNat<c.first.toNat+i:=by unfold qbM;unfold qba at g1;omega
  have hb:(qbN c i/2).toNat<c.first.toNat+i:=by unfold qbN;unfold qba at g2;omega
  obtain⟨a1,-⟩:=qcT hc i (by omega) _ (by rw[hl];exact ha)
  obtain⟨b1,-⟩:=qcT hc i (by omega) _ (by rw[hl];exact hb)
  refine qgM (P:=fun cut=>∀ z∈cut,0≤z∧z<c.first+(i:Int)) (fun x hx y hy hle z hz=>?_) cut hcut z hz
  rcases(qbH _ _).1 hz with h2|h2
  ·have:=(a1 x hx).rng z h2;omega
  ·have:=(b1 y hy).rng z h2;omega
 have efin:qb9 c=(qaS c (qbJ c) c.gates.length).1∧arrC c=(qaS c (qbJ c) c.gates.length).2:=⟨rfl,rfl⟩
 rw[efin.1,efin.2]
 generalize qbJ c=cuts at *
 have hbl:=qdk c cuts
 refine qas (E:=Try.envf 0) Try.tok (σ:=Nat) (fun i=>[(0,.d (dC c)),(1,.d (qou cuts)),(2,.ptr 0 0),(6,.sl 1 i 1 0 (c.first.toNat+i)),(7,.sl 2 i 1 0 (c.first.toNat+i)),(8,.d (dI i))])
  (fun i=>[.box [.d (dI c.inputs),.d (dIs c.next),.d (dPs c.gates),.d (dIs c.outs)],.row i 1 true ((qaS c cuts i).2.map (D.int .i64)),.row i 1 false (qdK c (qaS c cuts i).1)])
  (fun i=>i≤c.gates.length) (fun i=>c.gates.length-i) [] [] 1000 1000 ?_ ?_
 ·simp only[go_sem,seval]
  exact⟨0,by omega,by simp[qaS,qdK]⟩
 ·intro i hi
  have hbli:=hbl i
  by_cases hlt:i<c.gates.length
  ·have hsu:qaS c cuts (i+1)=((qaS c cuts i).1 ++ [qb6 (qaS c cuts i).2 (cuts.getD (c.first.toNat+i) []).dropLast],(qaS c cuts i).2 ++ [1+qcG (qaS c cuts i).2 (qb6 (qaS c cuts i).2 (cuts.getD (c.first.toNat+i) []).dropLast)]):=rfl
   have hlf:=hleaf i hlt
   obtain⟨x,r,hxr,hr0⟩:=hgate i hlt
   have hle:=(hco (c.first.toNat+i) (by omega)).2.2.2
   have hbdi:=hbd i
   generalize hL:cuts.getD (c.first.toNat+i) []=L at *
   have harr:=fun cut hcut=>Try.c_l5Arrive (qaS c cuts i).2 cut (fun z hz=>by have:=hlf cut hcut z hz;omega)
   generalize (qaS c cuts i).2=A at *
   generalize (qaS c cuts i).1=B at *
   have eL:(c.first+(i:Int)).toNat=c.first.toNat+i:=by omega
   have hL2:2≤L.length:=by
    rw[hxr]
    cases r with
    | nil=>exact absurd rfl hr0
    | cons y r=>simp
   have hmem : ∀ j,j<L.length-1→L.getD j []∈L.dropLast:=fun j hj=>by
    have e:L.dropLast.getD j []=L.getD j []:=by rw[List.getD_eq_getElem?_getD,List.getD_eq_getElem?_getD,List.getElem?_dropLast,if_pos hj]
    rw[←e]
    exact qan (by simp;omega)
   have harb:=fun j (hj:j<L.length-1)=>qhv (arr:=A) (cut:=L.getD j []) (m:=i) (fun z _=>(hbdi z.toNat).2) (by omega)
   simp only[go_sem,seval,Try.results53,eL,hL]
   repeat' first|assumption|(simp (disch:=first|assumption|omega|(simp;done)|(simp;omega)) only[List.take_of_length_le,qab,qaK,qaL];try simp only[go_sem,seval,Try.results53,eL,hL])|(with_reducible first|apply And.intro|intro _)|(refine qag hfst ?_;simp only[go_sem,seval,Try.results53,eL,hL])|(refine qac ?_;simp only[go_sem,seval,Try.results53,eL,hL])|exact lexT|((try rw[qaa]);omega)
   refine qas (E:=Try.envf 0) Try.tok (σ:=Nat×Nat) (fun s=>[(0,.d (dC c)),(1,.d (qou cuts)),(2,.ptr 0 0),(6,.sl 1 i 1 0 (c.first.toNat+i)),(7,.sl 2 i 1 0 (c.first.toNat+i)),(8,.d (dI i)),(9,.d (dIss L)),(10,.d (dI s.2)),(11,.d (dI s.1))])
    (fun s=>[.box [.d (dI c.inputs),.d (dIs c.next),.d (dPs c.gates),.d (dIs c.outs)],.row i 1 true (A.map (D.int .i64)),.row i 1 false (qdK c B)])
    (fun s=>1≤s.1∧s.1≤L.length-1∧s.2<s.1∧L.getD s.2 []=qb6 A (L.take s.1)) (fun s=>L.length-s.1) [] [] 1000 1000 ?_ ?_
   ·simp only[go_sem,seval]
    exact⟨(1,0),⟨by simp,by simp only;omega,by simp,by rw[hxr];rfl⟩,by simp⟩
   ·rintro⟨j,k⟩ ⟨hj1,hj2,hk,hinv⟩
    simp only at hj1 hj2 hk hinv
    by_cases hjt:j<L.length-1
    ·have hsn:qb6 A (L.take (j+1))=if qci A (L.getD j []) (L.getD k []) then L.getD j [] else L.getD k []:=by
      have eg:L.getD j []=L[j]'(by omega):=by rw[List.getD_eq_getElem?_getD,List.getElem?_eq_getElem (by omega)];rfl
      rw[List.take_succ_eq_append_getElem (by omega),qjS (by simp;omega),←hinv,eg]
     have q1:=harr _ (hmem j hjt)
     have q2:=harr _ (hmem k (by omega))
     have r1:=harb j hjt
     have r2:=harb k (by omega)
     simp only[go_sem,seval,Try.results53,eL,hL]
     repeat' first|assumption|(simp (disch:=first|assumption|omega|(simp;done)|(simp;omega)) only[List.take_of_length_le,qab,qaK,qaL];try simp only[go_sem,seval,Try.results53,eL,hL])|(with_reducible first|apply And.intro|intro _)|(refine qag q1 ?_;simp only[go_sem,seval,Try.results53,eL,hL])|(refine qag q2 ?_;simp only[go_sem,seval,Try.results53,eL,hL])|(refine qac ?_;simp only[go_sem,seval,Try.results53,eL,hL])|exact lexT|((try rw[qaa]);omega)
     ·exact⟨(j+1,j),⟨by simp only;omega,by simp only;omega,by simp only;omega,by rw[hsn,if_pos (show qci _ _ _ by unfold qci;omega)]⟩,by simp only;omega,rfl,rfl⟩
     ·exact⟨(j+1,k),⟨by simp only;omega,by simp only;omega,by simp only;omega,by rw[hsn,if_neg (show ¬ qci _ _ _ by unfold qci;omega)]⟩,by simp only;omega,rfl,rfl⟩
    ·have q2:=harr _ (hmem k (by omega))
     have r2:=harb k (by omega)
     have hbDl:(qdK c B).length=c.first.toNat+i:=by rw[qgQ (by omega)];omega
     simp only[go_sem,seval,Try.results53,eL,hL,hbDl]
     repeat' first|assumption|(simp (disch:=first|assumption|omega|(simp;done)|(simp;omega)) only[List.take_of_length_le,qab,qaK,qaL];try simp only[go_sem,seval,Try.results53,eL,hL,hbDl])|(with_reducible first|apply And.intro|intro _)|(refine qag q2 ?_;simp only[go_sem,seval,Try.results53,eL,hL,hbDl])|(refine qac ?_;simp only[go_sem,seval,Try.results53,eL,hL,hbDl])|exact lexT|((try rw[qaa]);omega)
     have hd:L.getD k []=qb6 A L.dropLast:=by rw[hinv,List.dropLast_eq_take,show j=L.length-1 by omega]
     refine⟨i+1,by omega,by omega,⟨⟨rfl,by omega⟩,⟨rfl,by omega⟩,rfl⟩,⟨rfl,?_⟩,rfl,?_⟩
     ·rw[hsu,hd]
     ·rw[hsu,hd,qlm (by omega)]
  ·obtain rfl:i=c.gates.length:=by omega
   simp only[go_sem,seval,Try.results53]
   repeat' first|assumption|(simp (disch:=first|assumption|omega|(simp;done)|(simp;omega)) only[List.take_of_length_le,qab,qaK,qaL];try simp only[go_sem,seval,Try.results53])|(with_reducible first|apply And.intro|intro _)|(refine qag hfst ?_;simp only[go_sem,seval,Try.results53])|(refine qac ?_;simp only[go_sem,seval,Try.results53])|exact lexT|((try rw[qaa]);omega)
   all_goals first|rfl|(exact List.take_of_length_le (by rw[qgQ (by omega)];omega))
theorem qln {c:Circ}(hc:c.Valid) {leaves:List Int}{x:Nat}{v:Int}(h0:0≤v) (hv:v<c.vars) (hm:v∈leaves):qeY c leaves x v=x.testBit (leaves.idxOf v):=by
 have hf:=hc.first_bd
 have hvv:c.vars=c.first+(c.gates.length:Int):=rfl
 by_cases h:v<c.first
 ·rw[qiW h0 h,qfI,if_pos hm]
 ·obtain⟨i,rfl⟩ : ∃ i:Nat,v=c.first+(i:Int):=⟨(v-c.first).toNat,by omega⟩
  rw[qhx hc (by omega),qfI,if_pos hm]
theorem qgR : ∀ {l:List Int}{v:Int}{k:Nat},k<l.length→l.getD k 0=v→(∀ j,j<k→l.getD j 0≠v)→l.idxOf v=k
 | [],v,k,h,_,_=>by simp at h
 | y::l,v,0,h,e,_=>by
  obtain rfl:y=v:=e
  simp
 | y::l,v,k+1,h,e,hn=>by
  have hy:y≠v:=hn 0 (by omega)
  have ih:=qgR (k:=k) (l:=l) (v:=v) (by simpa using h) e (fun j hj=>hn (j+1) (by omega))
  rw[List.idxOf_cons,ih,show(y == v)=false by simpa using hy];rfl
theorem qjT {x k:Nat}:decide (remV ((x:Int)/2 ^ k) 2=1)=x.testBit k:=by
 have e:((x:Int)/2 ^ k)=((x/2 ^ k:Nat):Int):=by simp
 rw[e,qab (Int.natCast_nonneg _),Nat.testBit_eq_decide_div_mod_eq]
 generalize x/2 ^ k=m
 exact decide_eq_decide.2 (by omega)
theorem Try.c_l5Cone (c:Circ) (hc:c.Valid) (leaves:List Int) (hl:leaves.length≤3) (x:Nat) (hx:x<8) : ∀ (n:Nat) (v:Int),v.toNat<n→0≤v→v<c.vars→Pure Try.prog 63 [dC c,dI v,dIs leaves,dI x] (dB (qeY c leaves x v)):=by
 have hf:=hc.first_bd
 have hi0:=hc.i0
 have hi1:=hc.i1
 have hvv:=hc.vars_bd
 have hfst:=Try.c_l1First c (by omega)
 intro n
 induction n with
 | zero=>intro v h;omega
 | succ n ih=>
  intro v hvn hv0 hv
  refine qat (E:=Try.env 0) Try.tok rfl 1000 Try.func63 rfl rfl Try.ntmps63 (by simp) fun ok=>?_
  simp only[go_sem,seval] at ok
  simp only[go_sem,seval,Try.results63]
  repeat' first|assumption|(simp (disch:=first|assumption|omega|(simp;done)|(simp;omega)) only[List.take_of_length_le,qab,qaK,qaL];try simp only[go_sem,seval,Try.results63])|(with_reducible first|apply And.intro|intro _)|(refine qac ?_;simp only[go_sem,seval,Try.results63])|exact lexT|((try rw[qaa]);omega)
  refine qaH (E:=Try.env 0) Try.tok (σ:=Nat) (fun k=>[(0,.d (dC c)),(1,.d (dI v)),(2,.d (dIs leaves)),(3,.d (dI x)),(4,.ptr 0 0),(8,.d (dB false)),(9,.d (dI k))]) (fun _=>[.box [.d (dI c.inputs),.d (dIs c.next),.d (dPs c.gates),.d (dIs c.outs)]]) (fun k=>k≤leaves.length∧∀ j,j<k→leaves.getD j 0≠v) (fun k=>leaves.length-k) [] 1000 1000 ?_ ?_ ?_
  ·simp only[go_sem,seval]
  ·simp only[go_sem,seval]
   exact⟨0,⟨by omega,by omega⟩,rfl⟩
  ·rintro k ⟨hk,hinv⟩
   by_cases hlt:k<leaves.length
   ·simp only[go_sem,seval,Try.results63]
    repeat' first|assumption|(simp (disch:=first|assumption|omega|(simp;done)|(simp;omega)) only[List.take_of_length_le,qab,qaK,qaL];try simp only[go_sem,seval,Try.results63])|(with_reducible first|apply And.intro|intro _)|(refine qac ?_;simp only[go_sem,seval,Try.results63])|exact lexT|((try rw[qaa]);omega)
    ·rename_i h9
     rw[qjT,qln hc hv0 hv (by rw[←h9];exact qan hlt),qgR hlt h9 hinv]
    ·rename_i h9
     refine⟨k+1,⟨by omega,fun j hj=>?_⟩,by omega,rfl⟩
     by_cases hjk:j=k
     ·subst hjk;exact h9
     ·exact hinv j (by omega)
   ·have hnm:v∉leaves:=fun h=>by
     obtain⟨j,hj,e⟩:=qbb 0 h
     exact hinv j (by omega) e
    have hvv2:c.vars=c.first+(c.gates.length:Int):=rfl
    simp only[go_sem,seval,Try.results63]
    repeat' first|assumption|(simp (disch:=first|assumption|omega|(simp;done)|(simp;omega)) only[List.take_of_length_le,qab,qaK,qaL];try simp only[go_sem,seval,Try.results63])|(with_reducible first|apply And.intro|intro _)|(refine qag hfst ?_;simp only[go_sem,seval,Try.results63])|(refine qac ?_;simp only[go_sem,seval,Try.results63])|exact lexT|((try rw[qaa]);omega)
    ·rename_i h9
     rw[qiW hv0 h9,qfI,if_neg hnm]
    ·rename_i h9
     obtain⟨i,rfl⟩ : ∃ i:Nat,v=c.first+(i:Int):=⟨(v-c.first).toNat,by omega⟩
     have hi:i<c.gates.length:=by omega
     obtain⟨g1,g2⟩:=hc.g i hi
     rw[qhx hc hi,qfI,if_neg hnm]
     have qa:=ih (qbM c i/2) (by unfold qbM;unfold qba at g1;omega) (by unfold qbM;unfold qba at g1;omega) (by unfold qbM;unfold qba at g1;omega)
     have qb:=ih (qbN c i/2) (by unfold qbN;unfold qba at g2;omega) (by unfold qbN;unfold qba at g2;omega) (by unfold qbN;unfold qba at g2;omega)
     have ga0:0≤(c.gates.getD i (0,0)).1:=g1.1
     have gb0:0≤(c.gates.getD i (0,0)).2:=g2.1
     have ei:(c.first+(i:Int)-c.first).toNat=i:=by omega
     refine qau (E:=Try.env 0) Try.tok Try.follows 1000 1000 [9] (fsts [0,2,1,3] (.two 4 (fsts [5,6] (.two 7 (.one 8 (.one 9 .done)) 8 (.one 7 (.one 9 .done)))) 8 (.one 4 (fsts [5,6] (.one 7 (.one 9 .done)))))) (by kernel_rfl) ?_
     simp only[go_sem,seval,Try.results63,ei]
     repeat' first|assumption|(simp (disch:=first|assumption|omega|(simp;done)|(simp;omega)) only[List.take_of_length_le,qab,qaK,qaL];try simp only[go_sem,seval,Try.results63,ei])|(with_reducible first|apply And.intro|intro _)|(refine qag hfst ?_;simp only[go_sem,seval,Try.results63,ei])|(refine qbP (fun _=>⟨qa,trivial⟩) ?_;simp only[go_sem,seval,Try.results63,ei])|(refine qbP (fun _=>⟨qb,trivial⟩) ?_;simp only[go_sem,seval,Try.results63,ei])|(refine qac ?_;simp only[go_sem,seval,Try.results63,ei])|exact lexT|((try rw[qaa]);omega)
     all_goals rfl
end Go.Proofs

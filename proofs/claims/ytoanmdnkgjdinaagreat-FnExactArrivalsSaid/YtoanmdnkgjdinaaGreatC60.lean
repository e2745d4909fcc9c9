/- Contracts, plain definitions and lemmas. Conditions: none; lemmas. -/
import Derived.Test.YtoanmdnkgjdinaaGreatC7
import Derived.Test.YtoanmdnkgjdinaaGreatVM8
set_option maxRecDepth 20000
set_option linter.unusedVariables false
set_option linter.unusedSimpArgs false
namespace Go.Proofs
open Go Go.VL
theorem qkb {P:Nat→Prop}{n i:Nat}(h1:i<n) (h2:P i) (hinv : ∀ j,j<i→P j) : ∃ s',(s'≤n∧∀ j,j<s'→P j)∧n-s'<n-i∧i+1=s':=
 ⟨i+1,⟨by omega,fun j hj=>by
  by_cases h:j=i
  ·subst h;exact h2
  ·exact hinv j (by omega)⟩,by omega,rfl⟩
theorem no_at {α : Type}{l:List α}{P : α→Prop}{d:Decidable (∀ x∈l,P x)}{i:Nat}(z : α) (h1:i<l.length) (h : ¬ P (l.getD i z)):false=decide (∀ x∈l,P x):=by
 rw[eq_comm,decide_eq_false_iff_not]
 exact fun h2=>h (h2 _ (qak h1))
theorem yes_at {α : Type}{l:List α}{P : α→Prop}{d:Decidable (∀ x∈l,P x)}(z : α) (h : ∀ j,j<l.length→P (l.getD j z)):true=decide (∀ x∈l,P x):=by
 rw[eq_comm,decide_eq_true_eq]
 exact(qlv z).2 h
theorem Tryz.c_l1First (c:Circ) (h : -1000≤c.inputs∧c.inputs≤1000):Pure Tryz.prog 63 [dC c] (dI c.first):=by
 refine qam (E:=Tryz.env 0) Tryz.tok rfl 1000 Tryz.func63 rfl rfl Tryz.ntmps63 (by simp) fun ok=>?_
 simp only[go_sem,seval] at ok
 simp only[go_sem,seval,Tryz.results63]
 repeat' first|assumption|(simp (disch:=first|assumption|omega|(simp;done)|(simp;omega)) only[qaa,qac,List.take_of_length_le,qab];try simp only[go_sem,seval,Tryz.results63])|(with_reducible refine And.intro ?_ ?_)|(with_reducible intro _)|((try rw[qad]);omega)
 unfold Circ.first
 omega
theorem Tryz.c_l1Lits (l:List Int) (n:Int) (hn:0≤n∧n≤1000):Pure Tryz.prog 92 [dIs l,dI n] (.bool (decide (∀ x∈l,qbe x n))):=by
 refine qam (E:=Tryz.env 0) Tryz.tok rfl 1000 Tryz.func92 rfl rfl Tryz.ntmps92 (by simp) fun ok=>?_
 simp only[go_sem,seval] at ok
 simp only[go_sem,seval,Tryz.results92]
 refine qaB (E:=Tryz.env 0) Tryz.tok (σ:=Nat) (fun i=>[(0,.d (dIs l)),(1,.d (dI n)),(5,.d (dI i))]) (fun _=>[]) (fun i=>i≤l.length∧∀ j,j<i→qbe (l.getD j 0) n) (fun i=>l.length-i) [] 1000 1000 ?_ ?_ ?_
 ·simp only[go_sem,seval]
 ·simp only[go_sem,seval]
  exact⟨0,⟨by omega,fun j hj=>absurd hj (by omega)⟩,rfl⟩
 ·rintro i ⟨hi,hinv⟩
  simp only[go_sem,seval,Tryz.results92]
  repeat' first|assumption|(simp (disch:=first|assumption|omega|(simp;done)|(simp;omega)) only[qaa,qac,List.take_of_length_le,qab];try simp only[go_sem,seval,Tryz.results92])|(with_reducible refine And.intro ?_ ?_)|(with_reducible intro _)|(refine qai (Tryz.c_l1In _ _ _) ?_;simp only[go_sem,seval,Tryz.results92])|((try rw[qad]);omega)
  ·rename_i h1 h2
   exact no_at 0 h1 (by unfold qbe;omega)
  ·rename_i h1 h2
   exact qkb h1 (by unfold qbe;omega) hinv
  ·exact yes_at 0 fun j hj=>hinv j (by omega)
theorem Tryz.c_sCircuitValid (c:Circ):Pure Tryz.prog 69 [dC c] (.bool (decide c.Valid)):=by
 refine qam (E:=Tryz.env 0) Tryz.tok rfl 1000 Tryz.func69 rfl rfl Tryz.ntmps69 (by simp) fun ok=>?_
 simp only[go_sem,seval] at ok
 simp only[go_sem,seval,Tryz.results69]
 refine qai (Tryz.c_l1In _ _ _) ?_
 simp only[go_sem,seval,Tryz.results69]
 refine⟨fun h=>Circ.notValid fun hv=>?_,fun h=>?_⟩
 ·have:=hv.i0;have:=hv.i1;have:=hv.ln;have:=hv.lg;have:=hv.lo
  omega
 refine qai (Tryz.c_l1First c (by omega)) ?_
 have hb:1≤c.first∧c.first≤8:=by unfold Circ.first;omega
 simp only[go_sem,seval,Tryz.results69]
 refine qaB (E:=Tryz.env 0) Tryz.tok (σ:=Nat) (fun i=>[(1,.ptr 0 0),(3,.d (dI c.first)),(4,.d (dI i))]) (fun i=>[.box [.d (dI c.inputs),.d (dIs c.next),.d (dPs c.gates),.d (dIs c.outs)]])
  (fun i=>i≤c.gates.length∧∀ j,j<i→qbe (c.gates.getD j (0,0)).1 (c.first+(j:Int))∧qbe (c.gates.getD j (0,0)).2 (c.first+(j:Int))) (fun i=>c.gates.length-i) [] 1000 1000 ?_ ?_ ?_
 ·simp only[go_sem,seval]
 ·simp only[go_sem,seval]
  exact⟨0,⟨by omega,fun j hj=>absurd hj (by omega)⟩,rfl⟩
 ·rintro i ⟨hi,hinv⟩
  simp only[go_sem,seval,Tryz.results69]
  have hv0:c.vars=c.first+c.gates.length:=rfl
  refine⟨fun hlt=>?_,fun hge=>?_⟩
  ·refine qaT (E:=Tryz.env 0) Tryz.tok Tryz.follows 1000 1000 [] (.fst 0 (.fst 2 (.fst 6 (.fst 8 (.fst 13 (.fst 14 (.fst 15 (.fst 1 (.fst 3 (.fst 4 (.fst 5 (.fst 7 (.fst 9 (.fst 10 (.fst 11 (.one 12 (.one 16 (.fst 17 (.done))))))))))))))))))) (by kernel_rfl) ?_
   simp only[go_sem,seval,Tryz.results69]
   repeat' first|assumption|(simp (disch:=first|assumption|omega|(simp;done)|(simp;omega)) only[qaa,qac,List.take_of_length_le,qab];try simp only[go_sem,seval,Tryz.results69])|(with_reducible refine And.intro ?_ ?_)|(with_reducible intro _)|(refine qai (Tryz.c_l1Lits [_,_] _ (by omega)) ?_;simp only[go_sem,seval,Tryz.results69])|((try rw[qad]);omega)
   ·rename_i h2
    exact Circ.notValid fun hv=>h2 (hv.g i hlt)
   ·rename_i h2
    exact qkb hlt h2 hinv
  ·repeat' first|assumption|(simp (disch:=first|assumption|omega|(simp;done)|(simp;omega)) only[qaa,qac,List.take_of_length_le,qab];try simp only[go_sem,seval,Tryz.results69])|(with_reducible refine And.intro ?_ ?_)|(with_reducible intro _)|(refine qai (Tryz.c_l1Lits _ _ (by omega)) ?_;simp only[go_sem,seval,Tryz.results69])|(refine qaR (fun hg=>Tryz.c_l1Lits _ _ (by omega)) ?_;simp only[go_sem,seval,Tryz.results69])|((try rw[qad]);omega)
   rw[Bool.eq_iff_iff]
   simp only[Bool.and_eq_true,decide_eq_true_eq]
   refine⟨fun⟨q1,q2⟩=>⟨by omega,by omega,by omega,by omega,by omega,fun j hj=>hinv j (by omega),q1,q2⟩,fun hv=>⟨hv.n,hv.o⟩⟩
theorem Tryz.c_toIntS (l:List Int) (hl:l.length≤1048576):Pure Tryz.prog 10 [dIs l] (dIs l):=by
 refine qam (E:=Tryz.env 0) Tryz.tok rfl 1000 Tryz.func10 rfl rfl Tryz.ntmps10 (by simp) fun ok=>?_
 simp only[go_sem,seval] at ok
 simp only[go_sem,seval,Tryz.results10]
 refine⟨by omega,?_⟩
 refine qaB (E:=Tryz.env 0) Tryz.tok (σ:=Nat×List Int) (fun s=>[(0,.d (dIs l)),(3,.sl 0 0 1 0 l.length),(4,.d (dI s.1))]) (fun s=>[.row 0 1 true (s.2.map (D.int .i64))]) (fun s=>s.1≤l.length∧s.2.length=l.length∧∀ j,j<s.1→s.2.getD j 0=l.getD j 0) (fun s=>l.length-s.1) [] 1000 1000 ?_ ?_ ?_
 ·simp only[go_sem,seval]
 ·simp only[go_sem,seval]
  exact⟨(0,List.replicate l.length 0),⟨by omega,by simp,fun j hj=>absurd hj (by simp)⟩,by simp⟩
 ·rintro⟨i,b⟩ ⟨hi,hb,hinv⟩
  simp only at hi hb hinv
  simp only[go_sem,seval,Tryz.results10]
  repeat' first|assumption|(simp (disch:=first|assumption|omega|(simp;done)|(simp;omega)) only[qaa,qac,List.take_of_length_le,qab];try simp only[go_sem,seval,Tryz.results10])|(with_reducible refine And.intro ?_ ?_)|(with_reducible intro _)|((try rw[qad]);omega)
  ·refine⟨(i+1,b.set i (l.getD i 0)),⟨by omega,by simpa using hb,fun j hj=>?_⟩,by omega,rfl,rfl⟩
   simp only at hj ⊢
   by_cases hji:j=i
   ·subst hji;rw[qcq _ (by omega)]
   ·rw[qcH _ (by omega)];exact hinv j (by omega)
  ·exact qbV 0 hb fun j hj=>hinv j (by omega)
theorem Tryz.c_szIntS (l:List Int) (k:Int) (hk:0≤k∧k≤1048576):Pure Tryz.prog 36 [dIs l,dI k] (dI (if k<l.length then -1 else k-(l.length:Int))):=by
 refine qam (E:=Tryz.env 0) Tryz.tok rfl 1000 Tryz.func36 rfl rfl Tryz.ntmps36 (by simp) fun ok=>?_
 simp only[go_sem,seval] at ok
 simp only[go_sem,seval,Tryz.results36]
 refine⟨by rw[qad];omega,fun h=>?_,fun h=>?_⟩
 ·rw[if_pos (by omega)]
 ·rw[if_neg (by omega)]
theorem Tryz.c_toGate (p:Int×Int):Pure Tryz.prog 66 [dP p] (dP p):=by
 refine qam (E:=Tryz.env 0) Tryz.tok rfl 1000 Tryz.func66 rfl rfl Tryz.ntmps66 (by simp) fun ok=>?_
 simp only[go_sem,seval] at ok
 simp only[go_sem,seval,Tryz.results66]
 repeat' first|assumption|(simp (disch:=first|assumption|omega|(simp;done)|(simp;omega)) only[qaa,qac,List.take_of_length_le,qab];try simp only[go_sem,seval,Tryz.results66])|(with_reducible refine And.intro ?_ ?_)|(with_reducible intro _)|((try rw[qad]);omega)
theorem Tryz.c_toGateS (l:List (Int×Int)) (hl:l.length≤1048576):Pure Tryz.prog 40 [dPs l] (dPs l):=by
 refine qam (E:=Tryz.env 0) Tryz.tok rfl 1000 Tryz.func40 rfl rfl Tryz.ntmps40 (by simp) fun ok=>?_
 simp only[go_sem,seval] at ok
 simp only[go_sem,seval,Tryz.results40]
 refine⟨by omega,?_⟩
 refine qaB (E:=Tryz.env 0) Tryz.tok (σ:=Nat×List (Int×Int)) (fun s=>[(0,.d (dPs l)),(3,.sl 0 0 2 0 l.length),(4,.d (dI s.1))]) (fun s=>[.row 0 2 true (s.2.map dP)]) (fun s=>s.1≤l.length∧s.2.length=l.length∧∀ j,j<s.1→s.2.getD j (0,0)=l.getD j (0,0)) (fun s=>l.length-s.1) [] 1000 1000 ?_ ?_ ?_
 ·simp only[go_sem,seval]
 ·simp only[go_sem,seval]
  exact⟨(0,List.replicate l.length (0,0)),⟨by omega,by simp,fun j hj=>absurd hj (by simp)⟩,by simp⟩
 ·rintro⟨i,b⟩ ⟨hi,hb,hinv⟩
  simp only at hi hb hinv
  simp only[go_sem,seval,Tryz.results40]
  repeat' first|assumption|(simp (disch:=first|assumption|omega|(simp;done)|(simp;omega)) only[qaa,qac,List.take_of_length_le,qab];try simp only[go_sem,seval,Tryz.results40])|(with_reducible refine And.intro ?_ ?_)|(with_reducible intro _)|(refine qai (Tryz.c_toGate _) ?_;simp only[go_sem,seval,Tryz.results40])|((try rw[qad]);omega)
  ·refine⟨(i+1,b.set i (l.getD i (0,0))),⟨by omega,by simpa using hb,fun j hj=>?_⟩,by omega,rfl,rfl⟩
   simp only at hj ⊢
   by_cases hji:j=i
   ·subst hji;rw[qcq _ (by omega)]
   ·rw[qcH _ (by omega)];exact hinv j (by omega)
  ·exact qbV (0,0) hb fun j hj=>hinv j (by omega)
theorem Tryz.c_toCircuit (c:Circ) (h1:c.next.length≤1048576) (h2:c.gates.length≤1048576) (h3:c.outs.length≤1048576):Pure Tryz.prog 9 [dC c] (dC c):=by
 refine qam (E:=Tryz.env 0) Tryz.tok rfl 1000 Tryz.func9 rfl rfl Tryz.ntmps9 (by simp) fun ok=>?_
 simp only[go_sem,seval] at ok
 simp only[go_sem,seval,Tryz.results9]
 repeat' first|assumption|(simp (disch:=first|assumption|omega|(simp;done)|(simp;omega)) only[qaa,qac,List.take_of_length_le,qab];try simp only[go_sem,seval,Tryz.results9])|(with_reducible refine And.intro ?_ ?_)|(with_reducible intro _)|(refine qa6 (Tryz.c_toIntS _ (by omega)) ?_;simp only[go_sem,seval,Tryz.results9])|(refine qa6 (Tryz.c_toGateS _ (by omega)) ?_;simp only[go_sem,seval,Tryz.results9])|((try rw[qad]);omega)
theorem Tryz.c_szGateS (l:List (Int×Int)) (k:Int) (hk:0≤k∧k≤1048576):Pure Tryz.prog 37 [dPs l,dI k] (dI (if k<l.length then -1 else k-(l.length:Int))):=by
 refine qam (E:=Tryz.env 0) Tryz.tok rfl 1000 Tryz.func37 rfl rfl Tryz.ntmps37 (by simp) fun ok=>?_
 simp only[go_sem,seval] at ok
 simp only[go_sem,seval,Tryz.results37]
 refine⟨by rw[qad];omega,fun h=>?_,fun h=>?_⟩
 ·rw[if_pos (by omega)]
 ·rw[if_neg (by omega)]
end Go.Proofs

set_option linter.unusedVariables false
set_option linter.unusedSimpArgs false
namespace Go.VL
theorem qaH {α β : Type}{f : β→α→β}{b : β}{l:List α}{i:Nat}(z : α) (h:i<l.length):(l.take (i+1)).foldl f b=f ((l.take i).foldl f b) (l.getD i z):=by
 rw[List.take_succ_eq_append_getElem h,List.foldl_append]
 simp[List.getD,h]
def qaI:List Int→List Int→List Int
 | [],b=>b
 | x::a,[]=>x::a
 | x::a,y::b=>if x<y then x::qaI a (y::b) else if y<x then y::qaI (x::a) b else x::qaI a b
termination_by a b=>a.length+b.length
theorem qc8 (b:List Int):qaI [] b=b:=by rw[qaI]
theorem qde (a:List Int):qaI a []=a:=by cases a <;> rw[qaI]
theorem qfQ {x y:Int}{a b:List Int}(h:x<y):qaI (x::a) (y::b)=x::qaI a (y::b):=by rw[qaI,if_pos h]
theorem qfR {x y:Int}{a b:List Int}(h:y<x):qaI (x::a) (y::b)=y::qaI (x::a) b:=by rw[qaI,if_neg (by omega),if_pos h]
theorem qfS {x:Int}{a b:List Int}:qaI (x::a) (x::b)=x::qaI a b:=by rw[qaI,if_neg (by omega),if_neg (by omega)]
theorem qbJ {z:Int} : ∀ (a b:List Int),z∈qaI a b↔z∈a∨z∈b
 | [],b=>by rw[qc8];simp
 | x::a,[]=>by rw[qde];simp
 | x::a,y::b=>by
  have i1:=qbJ (z:=z) a (y::b)
  have i2:=qbJ (z:=z) (x::a) b
  have i3:=qbJ (z:=z) a b
  rcases Int.lt_trichotomy x y with h|h|h
  ·rw[qfQ h,List.mem_cons,i1];simp only[List.mem_cons,or_assoc]
  ·subst h
   rw[qfS,List.mem_cons,i3]
   simp only[List.mem_cons]
   constructor
   ·rintro(h|h|h) <;> simp[h]
   ·rintro((h|h)|h|h) <;> simp[h]
  ·rw[qfR h,List.mem_cons,i2]
   simp only[List.mem_cons]
   constructor
   ·rintro(h|(h|h)|h) <;> simp[h]
   ·rintro((h|h)|h|h) <;> simp[h]
termination_by a b=>a.length+b.length
def asc (l:List Int):Prop:=l.Pairwise (· < ·)
theorem qdJ : ∀ {a b:List Int},asc a→asc b→asc (qaI a b)
 | [],b,_,hb=>by rw[qc8];exact hb
 | x::a,[],ha,_=>by rw[qde];exact ha
 | x::a,y::b,ha,hb=>by
  obtain⟨ha1,ha2⟩:=List.pairwise_cons.1 ha
  obtain⟨hb1,hb2⟩:=List.pairwise_cons.1 hb
  rcases Int.lt_trichotomy x y with h|h|h
  ·rw[qfQ h]
   refine List.pairwise_cons.2 ⟨fun z hz=>?_,qdJ ha2 hb⟩
   rcases(qbJ _ _).1 hz with h1|h1
   ·exact ha1 z h1
   ·rcases List.mem_cons.1 h1 with rfl|h2
    ·exact h
    ·have:=hb1 z h2;omega
  ·subst h
   rw[qfS]
   refine List.pairwise_cons.2 ⟨fun z hz=>?_,qdJ ha2 hb2⟩
   rcases(qbJ _ _).1 hz with h1|h1
   ·exact ha1 z h1
   ·exact hb1 z h1
  ·rw[qfR h]
   refine List.pairwise_cons.2 ⟨fun z hz=>?_,qdJ ha hb2⟩
   rcases(qbJ _ _).1 hz with h1|h1
   ·rcases List.mem_cons.1 h1 with rfl|h2
    ·exact h
    ·have:=ha1 z h2;omega
   ·exact hb1 z h1
termination_by a b=>a.length+b.length
theorem qnJ : ∀ {a b:List Int},asc a→asc b→(∀ z,z∈a↔z∈b)→a=b
 | [],[],_,_,_=>rfl
 | [],y::b,_,_,h=>by have:=(h y).2 (by simp);simp at this
 | x::a,[],_,_,h=>by have:=(h x).1 (by simp);simp at this
 | x::a,y::b,ha,hb,h=>by
  obtain⟨ha1,ha2⟩:=List.pairwise_cons.1 ha
  obtain⟨hb1,hb2⟩:=List.pairwise_cons.1 hb
  have hxy:x=y:=by
   rcases List.mem_cons.1 ((h x).1 (by simp)) with h1|h1
   ·exact h1
   ·rcases List.mem_cons.1 ((h y).2 (by simp)) with h2|h2
    ·exact h2.symm
    ·have:=hb1 x h1;have:=ha1 y h2;omega
  subst hxy
  congr 1
  refine qnJ ha2 hb2 fun z=>⟨fun hz=>?_,fun hz=>?_⟩
  ·have hlt:=ha1 z hz
   rcases List.mem_cons.1 ((h z).1 (by simp[hz])) with h1|h1
   ·omega
   ·exact h1
  ·have hlt:=hb1 z hz
   rcases List.mem_cons.1 ((h z).2 (by simp[hz])) with h1|h1
   ·omega
   ·exact h1
theorem qdK : ∀ (a b:List Int),(qaI a b).length≤a.length+b.length
 | [],b=>by rw[qc8];simp
 | x::a,[]=>by rw[qde];simp
 | x::a,y::b=>by
  have i1:=qdK a (y::b)
  have i2:=qdK (x::a) b
  have i3:=qdK a b
  rcases Int.lt_trichotomy x y with h|h|h
  ·rw[qfQ h];simp only[List.length_cons] at *;omega
  ·subst h;rw[qfS];simp only[List.length_cons] at *;omega
  ·rw[qfR h];simp only[List.length_cons] at *;omega
termination_by a b=>a.length+b.length
def addC (l:List (List Int)) (cut:List Int):List (List Int):=if cut.length≤3∧l.length<8∧cut∉l then l ++ [cut] else l
def rowC (x:List Int) (q:List (List Int)) (l:List (List Int)):List (List Int):=q.foldl (fun l y=>addC l (qaI x y)) l
def qe1 (p q:List (List Int)):List (List Int):=p.foldl (fun l x=>rowC x q l) []
def qbA (c:Circ) (i:Nat):Int:=(c.gates.getD i (0,0)).1
def qbB (c:Circ) (i:Nat):Int:=(c.gates.getD i (0,0)).2
def qaM (c:Circ):Nat→List (List (List Int))
 | 0=>[[]]::(List.range (c.first.toNat-1)).map fun(v:Nat)=>[[(v:Int)+1]]
 | i+1=>qaM c i ++ [qe1 ((qaM c i).getD (qbA c i/2).toNat []) ((qaM c i).getD (qbB c i/2).toNat []) ++ [[c.first+(i:Int)]]]
def qa7 (c:Circ):List (List (List Int)):=qaM c c.gates.length
theorem qbi {c:Circ}(h:1≤c.first) : ∀ i,(qaM c i).length=c.first.toNat+i
 | 0=>by simp[qaM];omega
 | i+1=>by rw[qaM,List.length_append,qbi h i];simp;omega
theorem addC_le {l:List (List Int)}{cut:List Int}(h:l.length≤8):(addC l cut).length≤8:=by
 unfold addC;split
 ·rename_i h2;simp;omega
 ·exact h
theorem qgo {x:List Int} : ∀ {q l:List (List Int)},l.length≤8→(rowC x q l).length≤8
 | [],l,h=>h
 | y::q,l,h=>qgo (q:=q) (addC_le h)
theorem qjp (p q:List (List Int)):(qe1 p q).length≤8:=by
 have : ∀ (p l:List (List Int)),l.length≤8→(p.foldl (fun l x=>rowC x q l) l).length≤8:=by
  intro p
  induction p with
  | nil=>exact fun l h=>h
  | cons x p ih=>exact fun l h=>ih _ (qgo h)
 exact this p [] (by simp)
theorem qpE {P:List Int→Prop}{l:List (List Int)}{cut:List Int}(h : ∀ x∈l,P x) (hc:cut.length≤3→P cut) : ∀ x∈addC l cut,P x:=by
 unfold addC;split
 ·rename_i h2
  intro x hx
  rcases List.mem_append.1 hx with h1|h1
  ·exact h x h1
  ·obtain rfl:x=cut:=by simpa using h1
   exact hc h2.1
 ·exact h
theorem qlE {P:List Int→Prop}{x:List Int} : ∀ {q l:List (List Int)},(∀ z∈l,P z)→(∀ y∈q,(qaI x y).length≤3→P (qaI x y))→∀ z∈rowC x q l,P z
 | [],l,h,_=>h
 | y::q,l,h,hq=>qlE (q:=q) (qpE h (hq y (by simp))) fun z hz=>hq z (by simp[hz])
theorem qfT {P:List Int→Prop}{p q:List (List Int)}(h : ∀ x∈p,∀ y∈q,(qaI x y).length≤3→P (qaI x y)) : ∀ z∈qe1 p q,P z:=by
 have : ∀ (p l:List (List Int)),(∀ z∈l,P z)→(∀ x∈p,∀ y∈q,(qaI x y).length≤3→P (qaI x y))→∀ z∈p.foldl (fun l x=>rowC x q l) l,P z:=by
  intro p
  induction p with
  | nil=>exact fun l h _=>h
  | cons x p ih=>exact fun l h hp=>ih _ (qlE h (hp x (by simp))) fun z hz=>hp z (by simp[hz])
 exact this p [] (by simp) h
theorem qnK {l:List (List Int)}{cut:List Int}:l.length≤(addC l cut).length:=by
 unfold addC;split <;> simp
theorem qhI {x:List Int} : ∀ {q l:List (List Int)},l.length≤(rowC x q l).length
 | [],l=>Nat.le_refl _
 | y::q,l=>Nat.le_trans qnK (qhI (q:=q))
theorem qpF {l:List (List Int)}{cut:List Int}(h:cut.length≤3):0<(addC l cut).length:=by
 unfold addC
 split
 ·simp
 ·rename_i h2
  cases l with
  | nil=>exact absurd ⟨h,by simp,by simp⟩ h2
  | cons x r=>simp
theorem qlF {x y:List Int}(h:(qaI x y).length≤3) : ∀ {q l:List (List Int)},y∈q→0<(rowC x q l).length
 | [],l,hy=>by simp at hy
 | z::q,l,hy=>by
  rcases List.mem_cons.1 hy with rfl|h1
  ·exact Nat.lt_of_lt_of_le (qpF (l:=l) h) (qhI (q:=q))
  ·exact qlF h (q:=q) h1
theorem qnL {p q:List (List Int)}{x y:List Int}(hx:x∈p) (hy:y∈q) (h:(qaI x y).length≤3):0<(qe1 p q).length:=by
 have mono : ∀ (p l:List (List Int)),l.length≤(p.foldl (fun l x=>rowC x q l) l).length:=by
  intro p
  induction p with
  | nil=>exact fun l=>Nat.le_refl _
  | cons x p ih=>exact fun l=>Nat.le_trans (qhI (q:=q)) (ih _)
 have : ∀ (p l:List (List Int)),x∈p→0<(p.foldl (fun l x=>rowC x q l) l).length:=by
  intro p
  induction p with
  | nil=>exact fun l h=>by simp at h
  | cons z p ih=>
   intro l hz
   rcases List.mem_cons.1 hz with rfl|h1
   ·exact Nat.lt_of_lt_of_le (qlF h (l:=l) hy) (mono p _)
   ·exact ih _ h1
 exact this p [] hx
structure CutOk (c:Circ) (v:Int) (cut:List Int):Prop where
 asc:asc cut
 len:cut.length≤3
 rng : ∀ z∈cut,1≤z∧z≤v
theorem qcn {c:Circ}(hc:c.Valid) : ∀ i,i≤c.gates.length→∀ v,v<(qaM c i).length→(∀ cut∈(qaM c i).getD v [],CutOk c (v:Int) cut)∧(qaM c i).getD v []≠[]∧(∃ s∈(qaM c i).getD v [],s.length≤1)∧((qaM c i).getD v []).length≤9:=by
 have hf:=hc.first_bd
 intro i
 induction i with
 | zero=>
  intro _ v hv
  rw[qbi hf.1] at hv
  cases v with
  | zero=>
   have e:(qaM c 0).getD 0 []=[[]]:=rfl
   rw[e]
   refine⟨fun cut h=>?_,by simp,⟨[],by simp,by simp⟩,by simp⟩
   obtain rfl:cut=[]:=by simpa using h
   exact⟨List.Pairwise.nil,by simp,by simp⟩
  | succ v=>
   have e:(qaM c 0).getD (v+1) []=[[(v:Int)+1]]:=by
    simp[qaM,List.getD,show v<c.first.toNat-1 by omega]
   rw[e]
   refine⟨fun cut h=>?_,by simp,⟨[(v:Int)+1],by simp,by simp⟩,by simp⟩
   obtain rfl:cut=[(v:Int)+1]:=by simpa using h
   exact⟨by simp[asc],by simp,fun z hz=>by
    obtain rfl:z=(v:Int)+1:=by simpa using hz
    omega⟩
 | succ i ih=>
  intro hi v hv
  have hl:=qbi (c:=c) hf.1 i
  rw[qbi hf.1] at hv
  by_cases h:v<c.first.toNat+i
  ·have e:(qaM c (i+1)).getD v []=(qaM c i).getD v []:=by rw[qaM];exact qay (by omega)
   rw[e]
   exact ih (by omega) v (by omega)
  ·have hv2:v=(qaM c i).length:=by omega
   have e:(qaM c (i+1)).getD v []=qe1 ((qaM c i).getD (qbA c i/2).toNat []) ((qaM c i).getD (qbB c i/2).toNat []) ++ [[c.first+(i:Int)]]:=by
    rw[qaM,hv2];simp[List.getD]
   obtain⟨g1,g2⟩:=hc.g i (by omega)
   have ha:(qbA c i/2).toNat<c.first.toNat+i:=by unfold qbA;unfold qbe at g1;omega
   have hb:(qbB c i/2).toNat<c.first.toNat+i:=by unfold qbB;unfold qbe at g2;omega
   obtain⟨a1,a2,⟨sa,a3,a4⟩,a5⟩:=ih (by omega) _ (by rw[hl];exact ha)
   obtain⟨b1,b2,⟨sb,b3,b4⟩,b5⟩:=ih (by omega) _ (by rw[hl];exact hb)
   rw[e]
   have hj:=qjp ((qaM c i).getD (qbA c i/2).toNat []) ((qaM c i).getD (qbB c i/2).toNat [])
   refine⟨fun cut h=>?_,by simp,⟨[c.first+(i:Int)],by simp,by simp⟩,by rw[List.length_append,List.length_singleton];omega⟩
   rcases List.mem_append.1 h with h1|h1
   ·refine qfT (P:=fun cut=>CutOk c (v:Int) cut) (fun x hx y hy hle=>?_) cut h1
    have hx':=a1 x hx
    have hy':=b1 y hy
    refine⟨qdJ hx'.asc hy'.asc,hle,fun z hz=>?_⟩
    rcases(qbJ _ _).1 hz with h2|h2
    ·have:=hx'.rng z h2;omega
    ·have:=hy'.rng z h2;omega
   ·obtain rfl:cut=[c.first+(i:Int)]:=by simpa using h1
    exact⟨by simp[asc],by simp,fun z hz=>by
     obtain rfl:z=c.first+(i:Int):=by simpa using hz
     omega⟩
theorem qdL {c:Circ}(hf:1≤c.first) {n i:Nat}(h:i<n):(qaM c n).getD (c.first.toNat+i) []=qe1 ((qaM c i).getD (qbA c i/2).toNat []) ((qaM c i).getD (qbB c i/2).toNat []) ++ [[c.first+(i:Int)]]:=by
 induction n with
 | zero=>omega
 | succ n ih=>
  have hl:=qbi (c:=c) hf n
  by_cases hin:i<n
  ·rw[qaM,qay (by omega)];exact ih hin
  ·obtain rfl:i=n:=by omega
   rw[qaM,←hl]
   simp[List.getD]
theorem qhJ {c:Circ}(hc:c.Valid) {i:Nat}(h:i<c.gates.length):0<(qe1 ((qaM c i).getD (qbA c i/2).toNat []) ((qaM c i).getD (qbB c i/2).toNat [])).length:=by
 have hf:=hc.first_bd
 have hl:=qbi (c:=c) hf.1 i
 obtain⟨g1,g2⟩:=hc.g i h
 have ha:(qbA c i/2).toNat<c.first.toNat+i:=by unfold qbA;unfold qbe at g1;omega
 have hb:(qbB c i/2).toNat<c.first.toNat+i:=by unfold qbB;unfold qbe at g2;omega
 obtain⟨a1,a2,⟨sa,a3,a4⟩,a5⟩:=qcn hc i (by omega) _ (by rw[hl];exact ha)
 obtain⟨b1,b2,⟨sb,b3,b4⟩,b5⟩:=qcn hc i (by omega) _ (by rw[hl];exact hb)
 exact qnL a3 b3 (by have:=qdK sa sb;omega)
end Go.VL

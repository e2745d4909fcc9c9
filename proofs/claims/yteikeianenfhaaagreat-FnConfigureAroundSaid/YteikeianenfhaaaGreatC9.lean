/- Contracts, plain definitions and lemmas. Conditions: none; lemmas. -/
import Derived.Test.YteikeianenfhaaaGreatC7
set_option maxRecDepth 20000
set_option linter.unusedSimpArgs false
set_option linter.unusedVariables false
set_option maxHeartbeats 2000000
namespace Go.Proofs
set_option linter.defProp false
open Go Go.VL Tryz
variable {i:Nat}{α:Type}
def Tryz.c_litValue (v:List Bool) (l:Int) (h:0<=l/\l<2*v.length):Pure prog 198 [dBs v,dI l] (.bool (litV v l)):=by
 refine qax func198 rfl ntmps198 fun ok=>?_
 simp only[go_sem,seval] at ok
 repeat' first|assumption|(simp (disch:=first|assumption|omega|(simp;done)|(simp;omega)) only[go_sem,seval,qag,yaa])|(with_reducible first|apply And.intro|intro _)|((try rw[qaa]);omega)
 simp only[land1 h.1];rfl
def Tryz.c_litValues (v:List Bool) (ls:List Int) (h : ∀ l∈ls,0<=l/\l<2*v.length) (hl:ls.length<=1000000):Pure prog 146 [dBs v,dIs ls] (dBs (qcG v ls)):=by
 refine qax func146 rfl ntmps146 fun ok=>?_
 simp only[go_sem,seval] at ok
 repeat' first|assumption|(simp (disch:=first|assumption|omega|(simp;done)|(simp;omega)) only[go_sem,seval,qag,yaa])|(with_reducible first|apply And.intro|intro _)|((try rw[qaa]);omega)
 refine qaw (E:=env 0) tok (σ:=Nat) (fun i=>[(0,.d (dBs v)),(5,.sl 0 i 1 0 i),(11,.d (dIs ls)),(12,.d (dI ls.length)),(13,.d (dI i))]) (fun i=>[.row i 1 true ((qcG v (ls.take i)).map D.bool)]) (fun i=>i<=ls.length) (fun i=>ls.length-i) [] 1000 1000 ?_ ?_ ?_
 ·simp only[go_sem,seval]
 ·simp only[go_sem,seval];exact⟨0,by simp[qcG]⟩
 ·intro i hi;simp only[go_sem,seval];have hl2:(qcG v (ls.take i)).length=i:=by simp[qcG];omega
  by_cases hlt:i<ls.length
  ·have hx:=h (ls.getD i 0) (qad hlt)
   repeat' first|assumption|(simp (disch:=first|assumption|omega|(simp;done)|(simp;omega)) only[go_sem,seval,qag,yaa])|(with_reducible first|apply And.intro|intro _)|(refine qac (c_litValue v _ hx) ?_)|((try rw[qaa]);omega)
   refine⟨i+1,by omega,by omega,rfl,rfl,?_⟩;rw[yaB hlt];simp only[qcG,yaz,yaL,List.map_nil,List.getD,List.getElem?_eq_getElem hlt,yag]
  ·have:=qek (v:=v) (ls:=ls)
   repeat' first|assumption|(simp (disch:=first|assumption|omega|(simp;done)|(simp;omega)) only[go_sem,seval,qag,yaa])|(with_reducible first|apply And.intro|intro _)|((try rw[qaa]);omega)
def qpM (c:Circ) (rows:List (List Bool)):Prop:=c.Valid/\rows.length<=40/\∀ r∈rows,(r.length:Int)=c.inputs
noncomputable instance (c:Circ) (rows:List (List Bool)):Decidable (qpM c rows):=Classical.propDecidable _
def Tryz.c_rowsFit (c:Circ) (rows:List (List Bool)):Pure prog 78 [pC c,dBss rows] (.bool (decide (qpM c rows))):=by
 refine qax func78 rfl ntmps78 fun ok=>?_
 simp only[go_sem,seval] at ok
 repeat' first|assumption|(simp (disch:=first|assumption|omega|(simp;done)|(simp;omega)) only[go_sem,seval,qag,yaa])|(with_reducible first|apply And.intro|intro _)|(refine qac (c_CircuitValid c) ?_)|((try rw[qaa]);omega)
 ·rename_i h;simp only[false_eq_decide_iff];rintro⟨h1,h2,h3⟩;rcases h with h|h
  ·exact h h1
  ·omega
 rename_i h;refine qaw (E:=env 0) tok (σ:=Nat) (fun i=>[(0,.d (pC c)),(17,.d (dBss rows)),(18,.d (dI rows.length)),(19,.d (dI i))]) (fun _=>[]) (fun i=>i<=rows.length/\∀ j,j<i->((rows.getD j []).length:Int)=c.inputs) (fun i=>rows.length-i) [] 1000 1000 ?_ ?_ ?_
 ·simp only[go_sem,seval]
 ·simp only[go_sem,seval];exact⟨0,⟨by omega,by omega⟩,rfl⟩
 ·rintro i ⟨hi,hinv⟩
  repeat' first|assumption|(simp (disch:=first|assumption|omega|(simp;done)|(simp;omega)) only[go_sem,seval,qag,yaa])|(with_reducible first|apply And.intro|intro _)|((try rw[qaa]);omega)
  ·rename_i h1 h2;simp only[false_eq_decide_iff];rintro⟨_,_,h3⟩;exact h2 (h3 _ (qad h1))
  ·rename_i h1 h2;refine⟨i+1,⟨by omega,fun j hj=>?_⟩,by omega,rfl⟩;by_cases hji:j=i
   ·subst hji;exact h2
   ·exact hinv j (by omega)
  ·simp only[true_eq_decide_iff];exact⟨h.1,by omega,(qhY []).2 fun j hj=>hinv j (by omega)⟩
def Tryz.c_evaluate (c:Circ) (hv:c.Valid) (st ins:List Bool) (h1:st.length=c.next.length) (h2:(ins.length:Int)=c.inputs) (b:Bool) :
  Pure prog 197 [pC c,dBs st,dBs ins,dI (-1),dB b] (dBs (values c st ins)):=by
 refine qax func197 rfl ntmps197 fun ok=>?_
 simp only[go_sem,seval] at ok⊢;have hb:=hv.vars_bd;have hf:=hv.first_bd;have hi0:=hv.i0;have hi1:=hv.i1;have hvv:c.vars=1+(ins.length:Int)+st.length+c.gates.length:=by rw[h2,h1];rfl
 have e0:(1+c.inputs).toNat=1+ins.length:=by omega
 have e1:c.vars.toNat=1+ins.length+st.length+c.gates.length:=by omega
 repeat' first|assumption|(simp (disch:=first|assumption|omega|(simp;done)|(simp;omega)) only[go_sem,seval,qag,yaa])|(with_reducible first|apply And.intro|intro _)|(refine qac (c_vars c (by omega)) ?_)|((try rw[qaa]);omega)
 ·rw[qog (by simp;omega)];simp;omega
 rw[e0,e1,qoh false ins st _ (by omega),show 1+ins.length+st.length+c.gates.length-(1+ins.length+st.length)=c.gates.length by omega];refine qaw (E:=env 0) tok (σ:=Nat) (fun i=>[(0,.d (pC c)),(3,.d (dI (-1))),(11,.sl 0 0 1 0 (1+ins.length+st.length+c.gates.length)),(40,.d (dPs c.gates)),(41,.d (dI c.gates.length)),(42,.d (dI i))]) (fun i=>[.row 0 1 true ((qdu c st ins i++List.replicate (c.gates.length-i) false).map D.bool)]) (fun i=>i<=c.gates.length) (fun i=>c.gates.length-i) [] 1000 1000 ?_ ?_ ?_
 ·simp only[go_sem,seval]
 ·simp only[go_sem,seval];exact⟨0,by simp[qg9]⟩
 ·intro i hi;have hln:=qff c st ins i;by_cases hlt:i<c.gates.length
  ·obtain⟨g1,g2⟩:=hv.g i hlt;unfold qaY at g1 g2;have hfe:c.first=1+ins.length+st.length:=by rw[Circ.first];omega
   have q1:litV (qdu c st ins i++List.replicate (c.gates.length-i) false) (c.gates.getD i (0,0)).1=litV (qdu c st ins i) (c.gates.getD i (0,0)).1:=qnh g1.1 (by omega);have q2:litV (qdu c st ins i++List.replicate (c.gates.length-i) false) (c.gates.getD i (0,0)).2=litV (qdu c st ins i) (c.gates.getD i (0,0)).2:=qnh g2.1 (by omega);have hlen:(qdu c st ins i++List.replicate (c.gates.length-i) false).length=1+ins.length+st.length+c.gates.length:=by simp;omega
   repeat' first|assumption|(simp (disch:=first|assumption|omega|(simp;done)|(simp;omega)) only[go_sem,seval,qag,yaa])|(with_reducible first|apply And.intro|intro _)|(refine qac (c_firstGate c (by omega)) ?_)|(refine qac (c_litValue _ _ (by rw[hlen];omega)) ?_)|(refine qaN (fun _=>c_litValue _ _ (by rw[hlen];omega)) ?_)|((try rw[qaa]);omega)
   refine⟨i+1,by omega,by omega,rfl,?_⟩;rw[q1,q2,show(c.first+(i:Int)).toNat=(qdu c st ins i).length by omega,qel rfl (by omega),Nat.sub_sub];rfl
  ·repeat' first|assumption|(simp (disch:=first|assumption|omega|(simp;done)|(simp;omega)) only[go_sem,seval,qag,yaa])|(with_reducible first|apply And.intro|intro _)|((try rw[qaa]);omega)
   rw[values,show i=c.gates.length by omega,Nat.sub_self];simp
def qcH (c:Circ) (rows:List (List Bool)):Nat->List Bool
 | 0=>List.replicate c.next.length false
 | i+1=>qcG (values c (qcH c rows i) (rows.getD i [])) c.next
def qfS (c:Circ) (rows:List (List Bool)) (i:Nat):List Bool:=values c (qcH c rows i) (rows.getD i [])

def qiN {P:Nat->Prop}{n:Nat}(h1:i<n) (h2:P i) (hinv : ∀ j,j<i->P j) : ∃ s',(s'<=n/\∀ j,j<s'->P j)/\n-s'<n-i/\i+1=s':=
 ⟨i+1,⟨by omega,fun j hj=>by
  by_cases h:j=i
  ·subst h;exact h2
  ·exact hinv j (by omega)⟩,by omega,rfl⟩
def no_at {l:List α}{P : α->Prop}{d:Decidable (∀ x∈l,P x)}(z : α) (h1:i<l.length) (h : ¬ P (l.getD i z)):false=decide (∀ x∈l,P x):=by
 rw[eq_comm,decide_eq_false_iff_not];exact fun h2=>h (h2 _ (qad h1))
def yes_at {l:List α}{P : α->Prop}{d:Decidable (∀ x∈l,P x)}(z : α) (h : ∀ j,j<l.length->P (l.getD j z)):true=decide (∀ x∈l,P x):=by
 rw[eq_comm,decide_eq_true_eq];exact(qhY z).2 h
def Tryz.c_l1First (c:Circ) (h : -1000<=c.inputs/\c.inputs<=1000):Pure prog 135 [dC c] (dI c.first):=by
 refine qax func135 rfl ntmps135 fun ok=>?_
 simp only[go_sem,seval] at ok
 repeat' first|assumption|(simp (disch:=first|assumption|omega|(simp;done)|(simp;omega)) only[go_sem,seval])|(with_reducible first|apply And.intro|intro _)|((try rw[qaa]);omega)
 unfold Circ.first
 omega
def Tryz.c_l1Lits (l:List Int) (n:Int) (hn:0<=n/\n<=1000):Pure prog 136 [dIs l,dI n] (.bool (decide (∀ x∈l,qaY x n))):=by
 refine qax func136 rfl ntmps136 fun ok=>?_
 simp only[go_sem,seval] at ok⊢;refine qaw (E:=env 0) tok (σ:=Nat) (fun i=>[(0,.d (dIs l)),(1,.d (dI n)),(5,.d (dI i))]) (fun _=>[]) (fun i=>i<=l.length/\∀ j,j<i->qaY (l.getD j 0) n) (fun i=>l.length-i) [] 1000 1000 ?_ ?_ ?_
 ·simp only[go_sem,seval]
 ·simp only[go_sem,seval];exact⟨0,⟨by omega,fun j hj=>absurd hj (by omega)⟩,rfl⟩
 ·rintro i ⟨hi,hinv⟩
  repeat' first|assumption|(simp (disch:=first|assumption|omega|(simp;done)|(simp;omega)) only[go_sem,seval])|(with_reducible first|apply And.intro|intro _)|(refine qac (c_l1In _ _ _) ?_)|((try rw[qaa]);omega)
  ·rename_i h1 h2;exact no_at 0 h1 (by unfold qaY;omega)
  ·rename_i h1 h2;exact qiN h1 (by unfold qaY;omega) hinv
  ·exact yes_at 0 fun j hj=>hinv j (by omega)
def Tryz.c_sCircuitValid (c:Circ):Pure prog 72 [dC c] (.bool (decide c.Valid)):=by
 refine qax func72 rfl ntmps72 fun ok=>?_
 simp only[go_sem,seval] at ok⊢;refine qac (c_l1In _ _ _) ?_;simp only[go_sem,seval];refine⟨fun h=>Circ.notValid fun hv=>?_,fun h=>?_⟩
 ·have:=hv.i0;have:=hv.i1;have:=hv.ln;have:=hv.lg;have:=hv.lo;omega
 refine qac (c_l1First c (by omega)) ?_;have hb:1<=c.first/\c.first<=8:=by unfold Circ.first;omega
 simp only[go_sem,seval];refine qaw (E:=env 0) tok (σ:=Nat) (fun i=>[(1,.ptr 0 0),(3,.d (dI c.first)),(4,.d (dI i))]) (fun i=>[.box [.d (dI c.inputs),.d (dIs c.next),.d (dPs c.gates),.d (dIs c.outs)]])
  (fun i=>i<=c.gates.length/\∀ j,j<i->qaY (c.gates.getD j (0,0)).1 (c.first+(j:Int))/\qaY (c.gates.getD j (0,0)).2 (c.first+(j:Int))) (fun i=>c.gates.length-i) [] 1000 1000 ?_ ?_ ?_
 ·simp only[go_sem,seval]
 ·simp only[go_sem,seval];exact⟨0,⟨by omega,fun j hj=>absurd hj (by omega)⟩,rfl⟩
 ·rintro i ⟨hi,hinv⟩;simp only[go_sem,seval];have hv0:c.vars=c.first+c.gates.length:=rfl
  refine⟨fun hlt=>?_,fun hge=>?_⟩
  ·refine qaL (n:=0) [] (fsts [0,2,6,8,13,14,15,1,3,4,5,7,9,10,11] (.one 12 (.one 16 (.fst 17 .done)))) ?_
   repeat' first|assumption|(simp (disch:=first|assumption|omega|(simp;done)|(simp;omega)) only[go_sem,seval])|(with_reducible first|apply And.intro|intro _)|(refine qac (c_l1Lits [_,_] _ (by omega)) ?_)|((try rw[qaa]);omega)
   ·rename_i h2;exact Circ.notValid fun hv=>h2 (hv.g i hlt)
   ·rename_i h2;exact qiN hlt h2 hinv
  ·repeat' first|assumption|(simp (disch:=first|assumption|omega|(simp;done)|(simp;omega)) only[go_sem,seval])|(with_reducible first|apply And.intro|intro _)|(refine qac (c_l1Lits _ _ (by omega)) ?_)|(refine qaN (fun hg=>c_l1Lits _ _ (by omega)) ?_)|((try rw[qaa]);omega)
   rw[Bool.eq_iff_iff];simp only[yap,decide_eq_true_eq];refine⟨fun⟨q1,q2⟩=>⟨by omega,by omega,by omega,by omega,by omega,fun j hj=>hinv j (by omega),q1,q2⟩,fun hv=>⟨hv.n,hv.o⟩⟩

def tern (x:Int):Prop:=0<=x/\x<=2
instance (x:Int):Decidable (tern x):=by unfold tern;infer_instance
def ternL (l:List Int):Prop:=∀ x∈l,tern x
noncomputable instance (l:List Int):Decidable (ternL l):=Classical.propDecidable _
def ternL.get {l:List Int}(h:ternL l) (i:Nat):tern (l.getD i 0):=by
 by_cases hi:i<l.length
 ·exact h _ (qad hi)
 ·rw[List.getD_eq_getElem?_getD,List.getElem?_eq_none (by omega)];exact⟨by simp,by simp⟩
def evOk (c:Circ) (st ins:List Int):Prop:=c.Valid/\st.length=c.next.length/\(ins.length:Int)=c.inputs/\ternL st/\ternL ins
noncomputable instance (c:Circ) (st ins:List Int):Decidable (evOk c st ins):=Classical.propDecidable _

@[go_sem] def zqV {k:IntKind}{a b z:Int}{m:Nat}:[D.int k a,D.int k b].getD m (D.int k z)=D.int k ([a,b].getD m z):=by
 rcases m with _|_|m <;> rfl
def Tryz.c_l20Circuit (b:List Int) (p n:Int) (hb:Bytes b) (hp:0<=p/\p<=100000000) (hn:0<=n/\n<=1000) :
  ICall prog 66 [.ptr 0 0,.d (dI n)] [rd b p] (fun r H'=>∃ (c:Circ) (q:Int),(p<=q/\q<=p+200)/\(c.next.length<=40/\c.gates.length<=40/\c.outs.length<=40/\-1<=c.inputs/\c.inputs<=5)/\r=.d (dC c)/\H'=[rd b q]):=by
 refine qaz (E:=env 1) tok rfl 1000 func66 rfl rfl ntmps66 (by simp) ?_;simp only[go_sem,seval];refine pick_at hb (by omega) fun x1 hx1=>?_
 simp only[go_sem,seval];refine pick_at hb (by omega) fun x2 hx2=>?_
 simp only[go_sem,seval];refine⟨by rw[qaa];omega,by rw[qaa];omega,?_⟩;refine pick_at hb (by omega) fun x3 hx3=>?_
 simp only[go_sem,seval];refine qkv (E:=env 1) tok (σ:=List (Int×Int)×Int×Int×Int) (fun s=>[(0,.ptr 0 0),(1,.d (dI n)),(4,.ptr 1 0),(5,.ptr 2 0),(6,.d (dI x2)),(7,.d (dI s.2.1)),(8,.d (dI s.2.2.1))])
  (fun s=>[rd b s.2.2.2,.box [.d (dI 0),.d .nil,.d .nil,.d .nil],.box [.d (dI x1),.d .nil,.sl 3 s.1.length 2 0 s.1.length,.d .nil],.row s.1.length 2 true (s.1.map dP)])
  (fun s=>0<=s.2.2.1/\s.1.length+s.2.2.1<=14/\1<=s.2.1/\s.2.1<=8+s.1.length/\p<=s.2.2.2/\s.2.2.2<=p+3+4*s.1.length) (fun s=>s.2.2.1.toNat) [(2,2,2,true)] [] 1000 1000 ?_ ?_ ?_ ?_
 ·simp only[go_sem,seval]
 ·simp only[go_sem,seval]
 ·simp only[go_sem,seval];exact⟨([],x1+x2+1,x3,p+1+1+1),by simp;omega,by simp⟩
 ·rintro⟨G,v,k,q⟩ hi;simp only at hi;simp only[go_sem,seval];refine⟨fun h1=>?_,fun h1=>?_⟩
  ·repeat' first|assumption|(simp (disch:=first|assumption|omega|(simp;done)|(simp;omega)) only[go_sem,seval])|(with_reducible first|apply And.intro|intro _)|(refine pick_at hb (by omega) ?_)|((try rw[qaa]);omega)
   ·exact⟨(G ++ [_],v+1,k-1,_),by simp only[yae,yaf,yam];omega,by simp only;omega,⟨rfl,rfl⟩,rfl,by simp,by simp,rfl⟩
   ·exact⟨(G ++ [_],v+1,k-1,_),by simp only[yae,yaf,yam];omega,by simp only;omega,⟨rfl,rfl⟩,rfl,by simp,by simp,rfl⟩
  ·refine qkv (E:=env 1) tok (σ:=List Int×Int) (fun s=>[(0,.ptr 0 0),(1,.d (dI n)),(4,.ptr 1 0),(5,.ptr 2 0),(6,.d (dI x2)),(7,.d (dI v)),(11,.d (dI s.1.length))])
    (fun s=>[rd b s.2,.box [.d (dI 0),.d .nil,.d .nil,.d .nil],.box [.d (dI x1),.sl 4 s.1.length 1 0 s.1.length,.sl 3 G.length 2 0 G.length,.d .nil],.row G.length 2 true (G.map dP),.row s.1.length 1 true (s.1.map (D.int .i64))])
    (fun s=>s.1.length<=x2/\p<=s.2/\s.2<=p+60+s.1.length) (fun s=>x2.toNat-s.1.length) [(2,1,1,true)] [] 1000 1000 ?_ ?_ ?_ ?_
   ·simp only[go_sem,seval]
   ·simp only[go_sem,seval]
   ·simp only[go_sem,seval];exact⟨([],q),by simp;omega,by simp⟩
   ·rintro⟨N,q2⟩ hi2;simp only at hi2;simp only[go_sem,seval];refine⟨fun h2=>?_,fun h2=>?_⟩
    ·refine qaL (n:=1) [5,7,9] (fsts [0,2,3,4] (.two 1 (.one 5 (.one 6 (.one 7 (.fst 8 (.one 9 .done))))) 5 (.two 1 (.one 6 (.one 7 (.fst 8 (.one 9 .done)))) 6 (.one 1 (.one 7 (.fst 8 (.one 9 .done))))))) ?_
     repeat' first|assumption|(simp (disch:=first|assumption|omega|(simp;done)|(simp;omega)) only[go_sem,seval])|(with_reducible first|apply And.intro|intro _)|(refine pick_at hb (by omega) ?_)|((try rw[qaa]);omega)
     all_goals exact⟨(N ++ [_],_),by simp only[yae,yaf,yam];omega,by simp only[yae,yaf,yam];omega,by simp,rfl,by simp,by simp,rfl⟩
    ·refine pick_at hb (by omega) fun x4 hx4=>?_
     simp only[go_sem,seval];refine qkv (E:=env 1) tok (σ:=List Int×Int×Int) (fun s=>[(0,.ptr 0 0),(1,.d (dI n)),(4,.ptr 1 0),(5,.ptr 2 0),(7,.d (dI v)),(12,.d (dI s.2.1))])
      (fun s=>[rd b s.2.2,.box [.d (dI 0),.d .nil,.d .nil,.d .nil],.box [.d (dI x1),.sl 4 N.length 1 0 N.length,.sl 3 G.length 2 0 G.length,.sl 5 s.1.length 1 0 s.1.length],.row G.length 2 true (G.map dP),.row N.length 1 true (N.map (D.int .i64)),.row s.1.length 1 true (s.1.map (D.int .i64))])
      (fun s=>0<=s.2.1/\s.1.length+s.2.1<=4/\p<=s.2.2/\s.2.2<=p+70+3*s.1.length) (fun s=>s.2.1.toNat) [(2,3,1,true)] [] 1000 1000 ?_ ?_ ?_ ?_
     ·simp only[go_sem,seval]
     ·simp only[go_sem,seval]
     ·simp only[go_sem,seval];exact⟨([],x4,q2+1),by simp;omega,by simp⟩
     ·rintro⟨O,k3,q3⟩ hi3;simp only at hi3;simp only[go_sem,seval];refine⟨fun h3=>?_,fun h3=>?_⟩
      ·refine qaL (n:=1) [9,14,17,21,23] (fsts [0,2,3,4,5,6,7,8,11,12,13,16] (.two 1 (.one 9 (.fst 10 (.one 14 (.two 15 (.one 17 (.fst 18 (.one 19 (.one 20 (.one 21 (.fst 22 (.one 23 .done))))))) 17 (.one 15 (.fst 18 (.one 19 (.one 20 (.one 21 (.fst 22 (.one 23 .done))))))))))) 9 (.fst 10 (.two 1 (.one 14 (.two 15 (.one 17 (.fst 18 (.one 19 (.one 20 (.one 21 (.fst 22 (.one 23 .done))))))) 17 (.one 15 (.fst 18 (.one 19 (.one 20 (.one 21 (.fst 22 (.one 23 .done))))))))) 14 (.three 1 (.two 15 (.one 17 (.fst 18 (.one 19 (.one 20 (.one 21 (.fst 22 (.one 23 .done))))))) 17 (.one 15 (.fst 18 (.one 19 (.one 20 (.one 21 (.fst 22 (.one 23 .done)))))))) 15 (.two 1 (.one 17 (.fst 18 (.one 19 (.one 20 (.one 21 (.fst 22 (.one 23 .done))))))) 17 (.fst 18 (.two 1 (.one 19 (.one 20 (.one 21 (.fst 22 (.one 23 .done))))) 19 (.two 1 (.one 20 (.one 21 (.fst 22 (.one 23 .done)))) 20 (.one 1 (.one 21 (.fst 22 (.one 23 .done)))))))) 17 (.two 1 (.one 15 (.fst 18 (.one 19 (.one 20 (.one 21 (.fst 22 (.one 23 .done))))))) 15 (.fst 18 (.two 1 (.one 19 (.one 20 (.one 21 (.fst 22 (.one 23 .done))))) 19 (.two 1 (.one 20 (.one 21 (.fst 22 (.one 23 .done)))) 20 (.one 1 (.one 21 (.fst 22 (.one 23 .done))))))))))))) ?_
       repeat' first|assumption|(simp (disch:=first|assumption|omega|(simp;done)|(simp;omega)) only[go_sem,seval])|(with_reducible first|apply And.intro|intro _)|(refine pick_at hb (by omega) ?_)|((try rw[qaa]);omega)
       all_goals exact⟨(O ++ [_],k3-1,_),by simp only[yae,yaf,yam];omega,by simp only;omega,rfl,rfl,by simp,by simp,rfl⟩
      ·refine odd_at hb (by omega) hn fun x5 q5 hq5 hx5=>?_
       simp only[go_sem,seval];refine⟨fun h4=>?_,fun h4=>?_⟩
       ·refine pick_at hb (by omega) fun x6 hx6=>?_
        repeat' first|assumption|(simp (disch:=first|assumption|omega|(simp;done)|(simp;omega)) only[go_sem,seval])|(with_reducible first|apply And.intro|intro _)|(refine pick_at hb (by omega) ?_)|((try rw[qaa]);omega)
        ·rename_i z hz;have hz5 : -1<=([-1,5]:List Int).getD z.toNat 0/\([-1,5]:List Int).getD z.toNat 0<=5:=by
          rcases(show z=0∨z=1 by omega) with rfl|rfl <;> decide
         refine qaK (r0:=.d (dC ⟨[-1,5].getD z.toNat 0,N,G,O⟩)) (H1:=[rd b (q5+1+1)]) ?_ ⟨⟨_,N,G,O⟩,q5+1+1,by omega,by simp only;omega,rfl,rfl⟩;simp only[go_sem,seval]
        ·refine qaL (n:=1) [6,10,12] (fsts [0,2,3,5] (.three 1 (.two 4 (.one 6 (.fst 7 (.one 8 (.one 9 (.one 10 (.fst 11 (.one 12 .done))))))) 6 (.one 4 (.fst 7 (.one 8 (.one 9 (.one 10 (.fst 11 (.one 12 .done)))))))) 4 (.two 1 (.one 6 (.fst 7 (.one 8 (.one 9 (.one 10 (.fst 11 (.one 12 .done))))))) 6 (.fst 7 (.two 1 (.one 8 (.one 9 (.one 10 (.fst 11 (.one 12 .done))))) 8 (.two 1 (.one 9 (.one 10 (.fst 11 (.one 12 .done)))) 9 (.one 1 (.one 10 (.fst 11 (.one 12 .done)))))))) 6 (.two 1 (.one 4 (.fst 7 (.one 8 (.one 9 (.one 10 (.fst 11 (.one 12 .done))))))) 4 (.fst 7 (.two 1 (.one 8 (.one 9 (.one 10 (.fst 11 (.one 12 .done))))) 8 (.two 1 (.one 9 (.one 10 (.fst 11 (.one 12 .done)))) 9 (.one 1 (.one 10 (.fst 11 (.one 12 .done)))))))))) ?_
         repeat' first|assumption|(simp (disch:=first|assumption|omega|(simp;done)|(simp;omega)) only[go_sem,seval])|(with_reducible first|apply And.intro|intro _)|(refine pick_at hb (by omega) ?_)|((try rw[qaa]);omega)
         all_goals (
          rename_i z hz;refine qaK (r0:=.d (dC ⟨x1,N,G,O ++ [[-1,2*v].getD z.toNat 0]⟩)) (H1:=[rd b (q5+1+1)]) ?_ ⟨⟨x1,N,G,O ++ [[-1,2*v].getD z.toNat 0]⟩,q5+1+1,by omega,by simp only[yae,yaf,yam];omega,rfl,rfl⟩;simp only[go_sem,seval];rw[yaa (by simp)])
        ·refine qaK (r0:=.d (dC ⟨x1,N ++ [-1],G,O⟩)) (H1:=[rd b (q5+1)]) ?_ ⟨⟨x1,N ++ [-1],G,O⟩,q5+1,by omega,by simp;omega,rfl,rfl⟩;simp only[go_sem,seval];rw[yaa (by simp)]
        ·refine qaK (r0:=.d (dC ⟨x1,N,G ++ [(2*v,0)],O⟩)) (H1:=[rd b (q5+1)]) ?_ ⟨⟨x1,N,G ++ [(2*v,0)],O⟩,q5+1,by omega,by simp;omega,rfl,rfl⟩;simp only[go_sem,seval];rw[yaa (by simp)]
        ·refine qaw (E:=env 1) tok (σ:=List (Int×Int)) (fun s=>[(0,.ptr 0 0),(1,.d (dI n)),(4,.ptr 1 0),(5,.ptr 2 0)])
          (fun s=>[rd b (q5+1),.box [.d (dI 0),.d .nil,.d .nil,.d .nil],.box [.d (dI x1),.sl 4 N.length 1 0 N.length,.sl 3 s.length 2 0 s.length,.sl 5 O.length 1 0 O.length],.row s.length 2 true (s.map dP),.row N.length 1 true (N.map (D.int .i64)),.row O.length 1 true (O.map (D.int .i64))])
          (fun s=>s.length<=15) (fun s=>15-s.length) [] 1000 1000 ?_ ?_ ?_
         ·simp only[go_sem,seval]
         ·simp only[go_sem,seval];exact⟨G,by omega,by simp⟩
         ·intro s hs
          repeat' first|assumption|(simp (disch:=first|assumption|omega|(simp;done)|(simp;omega)) only[go_sem,seval])|(with_reducible first|apply And.intro|intro _)|((try rw[qaa]);omega)
          ·exact⟨s ++ [(0,0)],by simp;omega,by simp;omega,by simp,by simp,rfl⟩
          ·refine qaK (r0:=.d (dC ⟨x1,N,s,O⟩)) (H1:=[rd b (q5+1)]) ?_ ⟨⟨x1,N,s,O⟩,q5+1,by omega,by simp only;omega,rfl,rfl⟩;simp only[go_sem,seval]
        ·refine qaK (r0:=.d (dC ⟨x1,N,G,O ++ [0,0,0,0]⟩)) (H1:=[rd b (q5+1)]) ?_ ⟨⟨x1,N,G,O ++ [0,0,0,0]⟩,q5+1,by omega,by simp only[yae,yaf,yam];omega,rfl,rfl⟩;simp only[go_sem,seval];rw[yaa (by simp)];simp
       ·refine qaK (r0:=.d (dC ⟨x1,N,G,O⟩)) (H1:=[rd b q5]) ?_ ⟨⟨x1,N,G,O⟩,q5,by omega,by simp only;omega,rfl,rfl⟩;simp only[go_sem,seval]
end Go.Proofs

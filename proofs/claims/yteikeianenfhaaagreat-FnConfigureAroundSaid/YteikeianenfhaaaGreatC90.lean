/- Contracts, plain definitions and lemmas. Conditions: none; lemmas. -/
import Derived.Test.YteikeianenfhaaaGreatC92
import Derived.Test.YteikeianenfhaaaGreatC70
import Derived.Test.YteikeianenfhaaaGreatC61
set_option maxRecDepth 20000
set_option linter.unusedSimpArgs false
set_option linter.unusedVariables false
set_option maxHeartbeats 2000000
namespace Go.Proofs
set_option linter.defProp false
open Go Go.VL Tryz
variable {c:Circ}{leaves m l:List Int}{x n j i:Nat}
def shr_and (x k:Nat):((((x:Int)/2 ^ k).toNat &&& 1:Nat):Int)=if x.testBit k then 1 else 0:=by
 have e:((x:Int)/2 ^ k).toNat=x/2 ^ k:=by
  have:((x:Int)/2 ^ k)=((x/2 ^ k:Nat):Int):=by simp
  rw[this,yba]
 rw[e,Nat.and_one_is_mod,Nat.testBit_eq_decide_div_mod_eq];by_cases h:x/2 ^ k%2=1
 ·simp[h]
 ·have h2:x/2 ^ k%2=0:=by omega
  simp[h2]
structure KnTo (c:Circ) (leaves:List Int) (x:Nat) (n:Nat) (m:Kn):Prop where
 val : ∀ k b,kn m k=some b->b=qco c leaves x k
 leaf : ∀ j,j<n->kn m (leaves.getD j 0)≠none
def KnTo.zero (h0:qco c leaves x 0=false):KnTo c leaves x 0 [(0,false)]:=by
 refine⟨fun k b hk=>?_,fun j hj=>by omega⟩;by_cases h:(0:Int)=k
 ·subst h;cases b with
  | false=>exact h0.symm
  | true=>simp[kn] at hk
 ·simp[kn,h] at hk
def KnTo.up {m:Kn}(h:KnTo c leaves x n m) {b:Bool}(hb:b=qco c leaves x (leaves.getD n 0)):KnTo c leaves x (n+1) (knUp m (leaves.getD n 0) b):=by
 refine⟨fun k b' hk=>?_,fun j hj=>?_⟩
 ·rw[qmO] at hk;split at hk
  ·rename_i e;rw[e,<-hb];simpa using hk.symm
  ·exact h.val k b' hk
 ·rw[qmO];split
  ·simp
  ·rename_i hne;by_cases hjn:j=n
   ·subst hjn;exact absurd rfl hne
   ·exact h.leaf j (by omega)
def KnTo.ok {m:Kn}(h:KnTo c leaves x leaves.length m):KnOk c leaves x m:=by
 refine⟨h.val,fun z hz=>?_⟩;obtain⟨j,hj,rfl⟩:=qaV (0:Int) hz;exact h.leaf j hj
def Tryz.c_coneTable (c:Circ) (hc:c.Valid) (v:Int) (hv0:0<=v) (hv:v<c.vars) (leaves:List Int) (hl:leaves.length<=3) (ha:asc leaves) (hz : ∀ z∈leaves,1<=z/\z<c.vars) :
  Pure prog 174 [pC c,dI v,dIs leaves] (dI (qgx c v leaves)):=by
 have hvv:=hc.vars_bd;refine qax func174 rfl ntmps174 fun ok=>?_
 simp only[go_sem,seval] at ok
 repeat' first|assumption|(simp (disch:=first|assumption|omega|(simp;done)|(simp;omega)) only[go_sem,seval])|(with_reducible first|apply And.intro|intro _)|((try rw[qaa]);omega)
 ·rw[qaa];match leaves.length,hl with
  | 0,_|1,_|2,_|3,_=>decide
 have hN:(2:Int) ^ leaves.length=((2 ^ leaves.length:Nat):Int):=by simp
 have hN8:2 ^ leaves.length<=8:=by
  match leaves.length,hl with
  | 0,_|1,_|2,_|3,_=>decide
 rw[hN];refine qaw (E:=env 0) tok (σ:=Nat) (fun x=>[(7,.d (dI (qdg c v leaves x:Nat))),(15,.d (dI x)),(14,.d (dI (2 ^ leaves.length:Nat))),(0,.d (pC c)),(1,.d (dI v)),(2,.d (dIs leaves))]) (fun _=>[])
  (fun x=>x<=2 ^ leaves.length) (fun x=>2 ^ leaves.length-x) [] 1000 1000 ?_ ?_ ?_
 ·simp only[go_sem,seval]
 ·simp only[go_sem,seval];exact⟨0,yaZ _,rfl,rfl⟩
 ·intro x hx;have htl:=qfj c v leaves x;by_cases hlt:x<2 ^ leaves.length
  ·repeat' first|assumption|(simp (disch:=first|assumption|omega|(simp;done)|(simp;omega)) only[go_sem,seval])|(with_reducible first|apply And.intro|intro _)|((try rw[qaa]);omega)
   have hc0:qco c leaves x 0=false:=by
    rw[qfi (Int.le_refl 0) (by have:=hc.first_bd;omega),qdS,if_neg (fun h=>by have:=(hz 0 h).1;omega)]
   refine qaw (E:=env 0) tok (σ:=Nat×Kn) (fun s=>[(9,.map 0),(22,.d (dI s.1)),(20,.d (dIs leaves)),(21,.d (dI leaves.length)),(8,.d (dI x)),(7,.d (dI (qdg c v leaves x:Nat))),(15,.d (dI x)),(14,.d (dI (2 ^ leaves.length:Nat))),(0,.d (pC c)),(1,.d (dI v)),(2,.d (dIs leaves))]) (fun s=>[.map (knE s.2)])
    (fun s=>s.1<=leaves.length/\KnTo c leaves x s.1 s.2) (fun s=>leaves.length-s.1) [] 1000 1000 ?_ ?_ ?_
   ·simp only[go_sem,seval]
   ·simp only[go_sem,seval];exact⟨(0,[(0,false)]),⟨yaZ _,KnTo.zero hc0⟩,rfl,rfl⟩
   ·rintro⟨k,m⟩ ⟨hk,hm⟩;simp only at hk hm;have hks:=qh4 m;by_cases hlk:k<leaves.length
    ·have hzk:=hz _ (qad hlk:leaves.getD k 0∈leaves);have hid:leaves.idxOf (leaves.getD k 0)=k:=by
      refine qf7 hlk rfl fun j hj=>?_
      have h1:leaves.getD j 0=leaves[j]:=by simp[List.getD,show j<leaves.length by omega]
      have h2:leaves.getD k 0=leaves[k]:=by simp[List.getD,hlk]
      rw[h1,h2];have:=List.pairwise_iff_getElem.1 ha j k (by omega) hlk hj;omega
     have hcl:=qjM hc (leaves:=leaves) (x:=x) (by omega) hzk.2 (qad hlk);rw[hid] at hcl;have hsa:=shr_and x k;have eu:=qkP (leaves.getD k 0) (x.testBit k) m;have hup:=hm.up (b:=x.testBit k) hcl.symm;generalize hz9:leaves.getD k 0=z at *
     repeat' first|assumption|(simp (disch:=first|assumption|omega|(simp;done)|(simp;omega)) only[go_sem,seval,hz9])|(with_reducible first|apply And.intro|intro _)|((try rw[qaa]);omega)
     ·exact Int.ediv_nonneg (by omega) (Int.pow_nonneg (by decide))
     ·refine⟨(k+1,knUp m z (x.testBit k)),⟨by omega,hup⟩,by omega,rfl,?_⟩;have hb:decide (((((x:Int)/2 ^ k).toNat &&& 1:Nat):Int)=1)=x.testBit k:=by
       rw[hsa];cases x.testBit k <;> simp
      rw[hb,eu]
    ·obtain rfl:k=leaves.length:=by omega
     have hok:=hm.ok
     repeat' first|assumption|(simp (disch:=first|assumption|omega|(simp;done)|(simp;omega)) only[go_sem,seval])|(with_reducible first|apply And.intro|intro _)|((try rw[qaa]);omega)
     refine qan (c_coneValue c hc leaves x (v.toNat+1) v m (by omega) hv0 hv hok) [0] (by simp only[go_sem,seval]) ?_;rintro r0 H1 ⟨m2,hm2,rfl,rfl⟩;simp only[go_sem,seval]
     repeat' first|assumption|(simp (disch:=first|assumption|omega|(simp;done)|(simp;omega)) only[go_sem,seval])|(with_reducible first|apply And.intro|intro _)|((try rw[qaa]);omega)
     ·rw[qaa];have h2:2 ^ x<=2 ^ 8:=ybb (by decide) (by omega);have hc2:(2:Int) ^ x=((2 ^ x:Nat):Int):=by simp
      rw[hc2];omega
     ·exact Int.pow_nonneg (by decide)
     ·have hp2:(2:Int) ^ x=((2 ^ x:Nat):Int):=by simp
      refine⟨x+1,hlt,by omega,?_,rfl⟩;rw[hp2,yba,qdg];rw[if_pos (by assumption)];have:=Nat.two_pow_add_eq_or_of_lt htl 1;simp only[yaR] at this;rw[Nat.or_comm,<-this,Nat.add_comm]
     ·refine⟨x+1,hlt,by omega,?_,rfl⟩;rw[qdg,if_neg (by simp_all)];rfl
  ·obtain rfl:x=2 ^ leaves.length:=by omega
   repeat' first|assumption|(simp (disch:=first|assumption|omega|(simp;done)|(simp;omega)) only[go_sem,seval])|(with_reducible first|apply And.intro|intro _)|((try rw[qaa]);omega)
   rfl

def qbY:List Int->List Int
 | []=>[]
 | [x]=>[x]
 | x::y::r=>if x=y then qbY (y::r) else x::qbY (y::r)
def qhq {z:Int} : ∀ (l:List Int),z∈qbY l↔z∈l
 | []=>Iff.rfl
 | [x]=>Iff.rfl
 | x::y::r=>by
  have ih:=qhq (z:=z) (y::r);by_cases hxy:x=y
  ·subst hxy;rw[qbY,if_pos rfl,ih];simp
  ·rw[qbY,if_neg hxy,yaE,ih,yaE (a:=z) (b:=x)]
def qj4 : ∀ (l:List Int),l.Pairwise (·<=·)->asc (qbY l)
 | [],_=>List.Pairwise.nil
 | [x],_=>by show List.Pairwise _ [x];simp
 | x::y::r,h=>by
  have h2:=(List.pairwise_cons.1 h).2;have ih:=qj4 (y::r) h2;by_cases hxy:x=y
  ·rw[qbY,if_pos hxy];exact ih
  ·rw[qbY,if_neg hxy];refine List.pairwise_cons.2 ⟨fun z hz=>?_,ih⟩;rw[qhq] at hz;have hxz:=(List.pairwise_cons.1 h).1 z hz;have hxy':=(List.pairwise_cons.1 h).1 y (yaC ..);rcases List.mem_cons.1 hz with rfl|hz'
   ·omega
   ·have:=(List.pairwise_cons.1 h2).1 z hz';omega
def join_eq {a b:List Int}(ha:asc a) (hb:asc b) (hp:l.Perm (a++b)) (hs:l.Pairwise (·<=·)):qbY l=qaH a b:=by
 refine qpN (qj4 l hs) (qeo ha hb) fun z=>?_
 rw[qhq,hp.mem_iff,yax,qbo]
def qeA (l:List Int) (n:Nat):List Int:=qbY (l.take n)
def qjc (x:Int) : ∀ (l:List Int),l≠[]->qbY (l ++ [x])=if l.getLast?=some x then qbY l else qbY l ++ [x]
 | [],h=>absurd rfl h
 | [y],_=>by
  by_cases h:y=x
  ·subst h;simp[qbY]
  ·simp[qbY,h]
 | y::z::r,_=>by
  have ih:=qjc x (z::r) (by simp);have e:(y::z::r).getLast?=(z::r).getLast?:=by simp[List.getLast?_cons_cons]
  rw[e];show qbY (y::z::(r ++ [x]))=_
  rw[qbY,qbY];have e2:z::(r ++ [x])=(z::r) ++ [x]:=rfl;rw[e2,ih];by_cases hyz:y=z
  ·rw[if_pos hyz,if_pos hyz]
  ·rw[if_neg hyz,if_neg hyz];by_cases h:(z::r).getLast?=some x
   ·rw[if_pos h,if_pos h]
   ·rw[if_neg h,if_neg h];rfl
def qeS (h0:0<n) (h:n<l.length):qeA l (n+1)=if l.getD n 0=l.getD (n-1) 0 then qeA l n else qeA l n ++ [l.getD n 0]:=by
 unfold qeA;have hg:l.getD n 0=l[n]:=by simp[List.getD,h]
 have hg1:l.getD (n-1) 0=l[n-1]:=by simp[List.getD,show n-1<l.length by omega]
 have hne:l.take n≠[]:=by
  intro e;have:=congrArg List.length e;rw[yaP,yam] at this;omega
 have hl:(l.take n).getLast?=some l[n-1]:=by
  rw[List.getLast?_eq_getElem?,yaP,show min n l.length=n by omega,List.getElem?_take,if_pos (by omega)];simp[show n-1<l.length by omega]
 rw[yaB h,qjc _ _ hne,hl,hg,hg1];by_cases e:l[n]=l[n-1]
 ·rw[if_pos (by rw[e]),if_pos e]
 ·rw[if_neg (by simpa using fun h=>e h.symm),if_neg e]
def qor (h:0<l.length):qeA l 1=[l.getD 0 0]:=by
 match l,h with
 | x::r,_=>rfl
def qhr (l:List Int):qeA l l.length=qbY l:=by unfold qeA;rw[yaA]
structure InsOk (l m:List Int) (i j:Nat):Prop where
 perm:m.Perm l
 low : ∀ p q,p<q->q<=i->p≠j->q≠j->m.getD p 0<=m.getD q 0
 up : ∀ q,j<q->q<=i->m.getD j 0<=m.getD q 0
def qlW (m:List Int) (j:Nat):List Int:=(m.set j (m.getD (j-1) 0)).set (j-1) (m.getD j 0)
def qjd {a p:Nat}{x:Int}(h:a<m.length):(m.set a x).getD p 0=if p=a then x else m.getD p 0:=by
 by_cases e:p=a
 ·subst e;rw[if_pos rfl];simp[List.getD,h]
 ·rw[if_neg e];simp[List.getD,List.getElem?_set,Ne.symm e]
def qqd (h:j<m.length) (h0:0<j) (p:Nat):(qlW m j).getD p 0=if p=j then m.getD (j-1) 0 else if p=j-1 then m.getD j 0 else m.getD p 0:=by
 unfold qlW;rw[qjd (by rw[yas];omega),qjd h];by_cases e1:p=j-1
 ·rw[if_pos e1,if_neg (by omega),if_pos e1]
 ·rw[if_neg e1];by_cases e2:p=j
  ·rw[if_pos e2,if_pos e2]
  ·rw[if_neg e2,if_neg e2,if_neg e1]
def qj5 : ∀ {m:List Int}{j:Nat},j<m.length->0<j->(qlW m j).Perm m
 | x::y::r,1,_,_=>by
  show(y::x::r).Perm (x::y::r)
  exact List.Perm.swap x y r
 | x::r,j+2,h,_=>by
  have ih:=qj5 (m:=r) (j:=j+1) (by simp at h;omega) (by omega);have e:qlW (x::r) (j+2)=x::qlW r (j+1):=by simp[qlW,List.set]
  rw[e];exact ih.cons x
def InsOk.swap (h:InsOk l m i j) (hi:i<m.length) (hj:j<=i) (h0:0<j) (hlt:m.getD j 0<m.getD (j-1) 0):InsOk l (qlW m j) i (j-1):=by
 have g:=qqd (m:=m) (j:=j) (by omega) h0;refine⟨(qj5 (by omega) h0).trans h.perm,fun p q hpq hq hp1 hq1=>?_,fun q hq hqi=>?_⟩
 ·rw[g,g];rw[if_neg hp1,if_neg hq1] at *
  by_cases e1:p=j
  ·rw[if_pos e1,if_neg (by omega)];have:=h.low (j-1) q (by omega) hq (by omega) (by omega);exact this
  ·rw[if_neg e1];by_cases e2:q=j
   ·rw[if_pos e2];exact h.low p (j-1) (by omega) (by omega) e1 (by omega)
   ·rw[if_neg e2];exact h.low p q hpq hq e1 e2
 ·rw[g,g,if_neg (by omega),if_pos rfl];by_cases e1:q=j
  ·rw[if_pos e1];omega
  ·rw[if_neg e1,if_neg (by omega)];exact h.up q (by omega) hqi
def SortTo (l m:List Int) (i:Nat):Prop:=m.Perm l/\∀ p q,p<q->q<i->m.getD p 0<=m.getD q 0
def InsOk.start (h:SortTo l m i):InsOk l m i i:=
 ⟨h.1,fun p q hpq hq _ hq1=>h.2 p q hpq (by omega),fun q hq hqi=>by omega⟩
def InsOk.done (h:InsOk l m i j) (hj:j<=i) (hd:j=0∨m.getD (j-1) 0<=m.getD j 0):SortTo l m (i+1):=by
 refine⟨h.perm,fun p q hpq hq=>?_⟩;by_cases e1:p=j
 ·subst e1;exact h.up q hpq (by omega)
 ·by_cases e2:q=j
  ·subst e2;rcases hd with hd|hd
   ·omega
   ·by_cases e3:p=q-1
    ·rw[e3];exact hd
    ·exact Int.le_trans (h.low p (q-1) (by omega) (by omega) e1 (by omega)) hd
  ·exact h.low p q hpq (by omega) e1 e2
def SortTo.pairwise (h:SortTo l m m.length):m.Pairwise (·<=·):=by
 rw[ybn];intro i j hi hj hij;have:=h.2 i j hij hj;simpa [List.getD,hi,hj] using this
end Go.Proofs

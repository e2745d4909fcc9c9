/- Contracts, plain definitions and lemmas. Conditions: none; lemmas. -/
import Derived.Test.YteikeianenfhaaaGreatC61
import Derived.Test.YteikeianenfhaaaGreatC12
import Derived.Test.YteikeianenfhaaaGreatC93
set_option maxRecDepth 20000
set_option linter.unusedSimpArgs false
set_option linter.unusedVariables false
set_option maxHeartbeats 2000000
set_option linter.defProp false
namespace Go.Proofs
open Go Go.VL Tryz
variable {l m:ZA}{n j i k q:Nat}
def i7:ZA->ZA
 | []=>[]
 | [x]=>[x]
 | x::y::r=>if x=y then i7 (y::r) else x::i7 (y::r)
def ED {z:Int} : ∀ (l:ZA),z∈i7 l↔z∈l
 | []=>Iff.rfl
 | [x]=>Iff.rfl
 | x::y::r=>by
  have ih:=ED (z:=z) (y::r);by_cases hxy:x=y
  ·subst hxy;rw[i7,if_pos rfl,ih];simp
  ·rw[i7,if_neg hxy,jY,ih,jY (a:=z) (b:=x)]
def MP : ∀ (l:ZA),l.Pairwise (·<=·)->iq (i7 l)
 | [],_=>List.Pairwise.nil
 | [x],_=>by show List.Pairwise _ [x];simp
 | x::y::r,h=>by
  have h2:=(List.pairwise_cons.1 h).2;have ih:=MP (y::r) h2;by_cases hxy:x=y
  ·rw[i7,if_pos hxy];exact ih
  ·rw[i7,if_neg hxy];refine List.pairwise_cons.2 ⟨fun z hz=>?_,ih⟩;rw[ED] at hz;have hxz:=(List.pairwise_cons.1 h).1 z hz;have hxy':=(List.pairwise_cons.1 h).1 y (kE ..);rcases List.mem_cons.1 hz with rfl|hz'
   ·omega
   ·have:=(List.pairwise_cons.1 h2).1 z hz';omega
def join_eq {a b:ZA}(ha:iq a) (hb:iq b) (hp:l.Perm (a++b)) (hs:l.Pairwise (·<=·)):i7 l=cG a b:=by
 refine KY (MP l hs) (zX ha hb) fun z=>?_
 rw[ED,hp.mem_iff,gM,pQ]
def pE (l:ZA) (n:Nat):ZA:=i7 (l.take n)
def IX (x:Int) : ∀ (l:ZA),l≠[]->i7 (l ++ [x])=if l.getLast?=some x then i7 l else i7 l ++ [x]
 | [],h=>absurd rfl h
 | [y],_=>by
  by_cases h:y=x
  ·subst h;simp[i7]
  ·simp[i7,h]
 | y::z::r,_=>by
  have ih:=IX x (z::r) (by simp);have e:(y::z::r).getLast?=(z::r).getLast?:=by simp[List.getLast?_cons_cons]
  rw[e];show i7 (y::z::(r ++ [x]))=_
  rw[i7,i7];have e2:z::(r ++ [x])=(z::r) ++ [x]:=rfl;rw[e2,ih];by_cases hyz:y=z
  ·rw[if_pos hyz,if_pos hyz]
  ·rw[if_neg hyz,if_neg hyz];by_cases h:(z::r).getLast?=some x
   ·rw[if_pos h,if_pos h]
   ·rw[if_neg h,if_neg h];rfl
def Dw (h0:0<n) (h:n<l.length):pE l (n+1)=if l.getD n 0=l.getD (n-1) 0 then pE l n else pE l n ++ [l.getD n 0]:=by
 unfold pE;have hg:l.getD n 0=l[n]:=by simp[List.getD,h]
 have hg1:l.getD (n-1) 0=l[n-1]:=by simp[List.getD,show n-1<l.length by omega]
 have hne:l.take n≠[]:=by
  intro e;have:=congrArg List.length e;rw[iy,kr] at this;omega
 have hl:(l.take n).getLast?=some l[n-1]:=by
  rw[List.getLast?_eq_getElem?,iy,show min n l.length=n by omega,List.getElem?_take,if_pos (by omega)];simp[show n-1<l.length by omega]
 rw[la h,IX _ _ hne,hl,hg,hg1];by_cases e:l[n]=l[n-1]
 ·rw[if_pos (by rw[e]),if_pos e]
 ·rw[if_neg (by simpa using fun h=>e h.symm),if_neg e]
def QH (h:0<l.length):pE l 1=[l.getD 0 0]:=by
 match l,h with
 | x::r,_=>rfl
def FD (l:ZA):pE l l.length=i7 l:=by unfold pE;rw[ig]
structure gX (l m:ZA) (i j:Nat):Prop where
 perm:m.Perm l
 low : ∀ p q,p<q->q<=i->p≠j->q≠j->m.getD p 0<=m.getD q 0
 up : ∀ q,j<q->q<=i->m.getD j 0<=m.getD q 0
def vR (m:ZA) (j:Nat):ZA:=(m.set j (m.getD (j-1) 0)).set (j-1) (m.getD j 0)
def GV {a p:Nat}{x:Int}(h:a<m.length):(m.set a x).getD p 0=if p=a then x else m.getD p 0:=by
 by_cases e:p=a
 ·subst e;rw[if_pos rfl];simp[List.getD,h]
 ·rw[if_neg e];simp[List.getD,List.getElem?_set,Ne.symm e]
def Pu (h:j<m.length) (h0:0<j) (p:Nat):(vR m j).getD p 0=if p=j then m.getD (j-1) 0 else if p=j-1 then m.getD j 0 else m.getD p 0:=by
 unfold vR;rw[GV (by rw[gh];omega),GV h];by_cases e1:p=j-1
 ·rw[if_pos e1,if_neg (by omega),if_pos e1]
 ·rw[if_neg e1];by_cases e2:p=j
  ·rw[if_pos e2,if_pos e2]
  ·rw[if_neg e2,if_neg e2,if_neg e1]
def Lh : ∀ {m:ZA}{j:Nat},j<m.length->0<j->(vR m j).Perm m
 | x::y::r,1,_,_=>by
  show(y::x::r).Perm (x::y::r)
  exact List.Perm.swap x y r
 | x::r,j+2,h,_=>by
  have ih:=Lh (m:=r) (j:=j+1) (by simp at h;omega) (by omega);have e:vR (x::r) (j+2)=x::vR r (j+1):=by simp[vR,List.set]
  rw[e];exact ih.cons x
def gX.swap (h:gX l m i j) (hi:i<m.length) (hj:j<=i) (h0:0<j) (hlt:m.getD j 0<m.getD (j-1) 0):gX l (vR m j) i (j-1):=by
 have g:=Pu (m:=m) (j:=j) (by omega) h0;refine⟨(Lh (by omega) h0).trans h.perm,fun p q hpq hq hp1 hq1=>?_,fun q hq hqi=>?_⟩
 ·rw[g,g];rw[if_neg hp1,if_neg hq1] at *
  by_cases e1:p=j
  ·rw[if_pos e1,if_neg (by omega)];have:=h.low (j-1) q (by omega) hq (by omega) (by omega);exact this
  ·rw[if_neg e1];by_cases e2:q=j
   ·rw[if_pos e2];exact h.low p (j-1) (by omega) (by omega) e1 (by omega)
   ·rw[if_neg e2];exact h.low p q hpq hq e1 e2
 ·rw[g,g,if_neg (by omega),if_pos rfl];by_cases e1:q=j
  ·rw[if_pos e1];omega
  ·rw[if_neg e1,if_neg (by omega)];exact h.up q (by omega) hqi
def bZ (l m:ZA) (i:Nat):Prop:=m.Perm l/\∀ p q,p<q->q<i->m.getD p 0<=m.getD q 0
def gX.start (h:bZ l m i):gX l m i i:=
 ⟨h.1,fun p q hpq hq _ hq1=>h.2 p q hpq (by omega),fun q hq hqi=>by omega⟩
def gX.done (h:gX l m i j) (hj:j<=i) (hd:j=0∨m.getD (j-1) 0<=m.getD j 0):bZ l m (i+1):=by
 refine⟨h.perm,fun p q hpq hq=>?_⟩;by_cases e1:p=j
 ·subst e1;exact h.up q hpq (by omega)
 ·by_cases e2:q=j
  ·subst e2;rcases hd with hd|hd
   ·omega
   ·by_cases e3:p=q-1
    ·rw[e3];exact hd
    ·exact Int.le_trans (h.low p (q-1) (by omega) (by omega) e1 (by omega)) hd
  ·exact h.low p q hpq (by omega) e1 e2
def bZ.pairwise (h:bZ l m m.length):m.Pairwise (·<=·):=by
 rw[A9];intro i j hi hj hij;have:=h.2 i j hij hj;simpa [List.getD,hi,hj] using this

def bZ.all (h:bZ l m i) (hi:l.length<=i):bZ l m l.length:=⟨h.1,fun p q hpq hq=>h.2 p q hpq (by omega)⟩
def bZ.len (h:bZ l m i):m.length=l.length:=h.1.length_eq
def HX (s:ByteArray) (i:Nat):0<=sK s i/\sK s i<=255:=by
 unfold sK;split
 ·rename_i b _;have:=b.toNat_lt;omega
 ·omega
def J6 (s:ByteArray) (i:Nat):cp .i64 (sK s i):=by
 have:=HX s i;rw[ae];omega
def bZ.self (l:ZA):bZ l l 1:=⟨List.Perm.refl _,fun p q hpq hq=>by omega⟩
def Tryz.oA (x:Int):Pure prog 246 [dI x] (.bool false):=by
 refine bz func246 rfl ntmps246 fun ok=>?_
 simp only[go_sem,seval] at ok⊢
def Tryz.xU (x y:Int):Pure prog 236 [dI x,dI y] (.bool (decide (x<y))):=by
 have hx:=oA x;refine bz func236 rfl ntmps236 fun ok=>?_
 simp only[go_sem,seval] at ok
 repeat' first|simp (disch:=omega) only[go_sem,seval,ag]|(with_reducible first|apply aa|intro)|(refine az hx ?_)|(refine iu (fun _=>oA _) ?_)|exact ah|(try rw[ae]);omega
def Tryz.pX (g:Nat) (l:ZA) (hl:l.length<=1000):aA prog 230 [.sl 0 g 1 0 l.length,.d (dI 0),.d (dI l.length)] [.row g 1 true (l.map (D.int .i64))] (fun _ H'=>∃ m,bZ l m l.length/\H'=[.row g 1 true (m.map (D.int .i64))]):=by
 refine i9 rfl 1000 func230 rfl rfl ntmps230 (by simp) ?_
 repeat' first|simp (disch:=omega) only[go_sem,seval,ag]|(with_reducible first|apply aa|intro)|exact ah|(try rw[ae]);omega
 refine pA (σ:=Nat×ZA) (fun s=>[(6,.d (dI s.1)),(0,.sl 0 g 1 0 l.length),(1,.d (dI 0)),(2,.d (dI l.length))]) (fun s=>[.row g 1 true (s.2.map (D.int .i64))])
  (fun s=>bZ l s.2 s.1/\1<=s.1/\s.1<=1001) (fun s=>1001-s.1) [] 1000 1000 ?_ ?_ ?_
 ·simp only[go_sem,seval]
 ·simp only[go_sem,seval];exact⟨(1,l),⟨bZ.self l,by simp,by simp⟩,rfl,rfl⟩
 ·rintro⟨i,m⟩ ⟨hs,hi1,bJ⟩;simp only at hs hi1 bJ;have hlen:=hs.len;by_cases hlt:i<l.length
  ·repeat' first|simp (disch:=omega) only[go_sem,seval,ag]|(with_reducible first|apply aa|intro)|exact ah|(try rw[ae]);omega
   refine pA (σ:=Nat×ZA) (fun s=>[(7,.d (dI s.1)),(6,.d (dI i)),(0,.sl 0 g 1 0 l.length),(1,.d (dI 0)),(2,.d (dI l.length))]) (fun s=>[.row g 1 true (s.2.map (D.int .i64))])
    (fun s=>gX l s.2 i s.1/\s.1<=i) (fun s=>s.1) [] 1000 1000 ?_ ?_ ?_
   ·simp only[go_sem,seval]
   ·simp only[go_sem,seval];exact⟨(i,m),⟨gX.start hs,aD _⟩,rfl,rfl⟩
   ·rintro⟨j,m2⟩ ⟨ho,hji⟩;simp only at ho hji;have hlen2:m2.length=l.length:=ho.perm.length_eq;have hle:=xU (m2.getD j 0) (m2.getD (j-1) 0);have ej:((j:Int)-1).toNat=j-1:=by omega
    repeat' first|simp (disch:=omega) only[go_sem,seval,ej,ag]|(with_reducible first|apply aa|intro)|(refine iu (fun _=>hle) ?_)|(refine qD (fun _=>⟨hle,trivial⟩) ?_)|exact ah|(try rw[ae]);omega
    ·rename_i h9;refine co (n:=1) [15,17] (ax [0,1,2,3,4,5,6,7,8,10,11,12,9,13,14] (.one 15 (.fst 16 (.one 17 .done)))) ?_
     repeat' first|simp (disch:=omega) only[go_sem,seval,ej,ag]|(with_reducible first|apply aa|intro)|exact ah|(try rw[ae]);omega
     have hj9:0<j:=by omega
     have hlt9:m2.getD j 0<m2.getD (j-1) 0:=by omega
     exact⟨(j-1,vR m2 j),⟨ho.swap (by omega) hji hj9 hlt9,by simp only;omega⟩,by simp only;omega,by simp only;omega,rfl⟩
    ·rename_i h9;refine⟨(i+1,m2),⟨ho.done hji ?_,by simp only;omega,by simp only;omega⟩,by simp only;omega,rfl,rfl⟩;by_cases h0:j=0
     ·exact .inl h0
     ·right;have h0':(0:Int)<(j:Int):=by omega
      first|omega|(rcases h9 with h9|h9 <;> omega)|(simp only[h0',true_and,Int.not_lt] at h9;exact h9)
  ·repeat' first|simp (disch:=omega) only[go_sem,seval,ag]|(with_reducible first|apply aa|intro)|exact ah|(try rw[ae]);omega
   refine fI (r0:=.tup []) (H1:=[.row g 1 true (m.map (D.int .i64))]) ?_ ⟨m,hs.all (by omega),rfl⟩;simp only[go_sem,seval]
def Tryz.vh (x:Int) (h:0<=x/\x<=255):ep prog 240 [.int .u64 x] (fun y=>∃ n:Int,y=dI n/\0<=n/\n<=255):=by
 refine CX (E:=env 0) tok rfl 1000 func240 rfl rfl ntmps240 (by simp) fun ok=>?_
 simp only[go_sem,seval] at ok
 repeat' first|simp (disch:=omega) only[go_sem,seval,ag]|(with_reducible first|apply aa|intro)|exact ah|(try rw[ae]);omega
 ·refine Nat.lt_of_lt_of_eq (m:=256) (by omega) (by decide)
 ·exact J6 _ _
 ·exact J6 _ _
 ·exact⟨_,rfl,_,rfl,HX _ _⟩
def Tryz.AA (x:Int) (h:0<=x/\x<=255):ep prog 228 [.int .u64 x] (fun y=>∃ n:Int,y=dI n/\0<=n/\n<=255):=by
 refine CX (E:=env 0) tok rfl 1000 func228 rfl rfl ntmps228 (by simp) fun ok=>?_
 simp only[go_sem,seval] at ok
 repeat' first|simp (disch:=omega) only[go_sem,seval,ag]|(with_reducible first|apply aa|intro)|exact ah|(try rw[ae]);omega
 refine Ca (vh x h) ?_;rintro y ⟨n,rfl,hn⟩
 repeat' first|simp (disch:=omega) only[go_sem,seval,ag]|(with_reducible first|apply aa|intro)|exact ah|(try rw[ae]);omega
 exact⟨_,rfl,n,rfl,hn⟩
def Tryz.Ae (g:Nat) (l:ZA) (hl:l.length<=12) (fW:Int):aA prog 227 [.sl 0 g 1 0 l.length,.d (dI 0),.d (dI l.length),.d (dI fW)] [.row g 1 true (l.map (D.int .i64))] (fun _ H'=>∃ m,bZ l m l.length/\H'=[.row g 1 true (m.map (D.int .i64))]):=by
 refine i9 rfl 1000 func227 rfl rfl ntmps227 (by simp) ?_
 repeat' first|simp (disch:=omega) only[go_sem,seval,ag]|(with_reducible first|apply aa|intro)|exact ah|(try rw[ae]);omega
 refine Rm 2 1000 1000 ?_;refine sM ?_;have hin:=pX g l (by omega)
 repeat' first|simp (disch:=omega) only[go_sem,seval,ag]|(with_reducible first|apply aa|intro)|exact ah|(try rw[ae]);omega
 refine c7 hin [0] (by simp only[go_sem,seval]) ?_;rintro r0 H1 ⟨m,hm,rfl⟩
 repeat' first|simp (disch:=omega) only[go_sem,seval,ag]|(with_reducible first|apply aa|intro)|exact ah|(try rw[ae]);omega
 refine fI (r0:=.tup []) (H1:=[.row g 1 true (m.map (D.int .i64))]) ?_ ⟨m,hm,rfl⟩;simp only[go_sem,seval]
def Tryz.xI (g:Nat) (l:ZA) (hl:l.length<=12):aA prog 218 [.sl 0 g 1 0 l.length] [.row g 1 true (l.map (D.int .i64))] (fun _ H'=>∃ m,bZ l m l.length/\H'=[.row g 1 true (m.map (D.int .i64))]):=by
 refine i9 rfl 1000 func218 rfl rfl ntmps218 (by simp) ?_
 repeat' first|simp (disch:=omega) only[go_sem,seval,ag]|(with_reducible first|apply aa|intro)|exact ah|(try rw[ae]);omega
 ·rw[uc];omega
 refine Ca (AA (l.length:Int) (by omega)) ?_;rintro y ⟨n,rfl,hn⟩
 repeat' first|simp (disch:=omega) only[go_sem,seval,ag]|(with_reducible first|apply aa|intro)|exact ah|(try rw[ae]);omega
 refine c7 (Ae g l hl n) [0] (by simp only[go_sem,seval]) ?_;rintro r0 H1 ⟨m,hm,rfl⟩
 repeat' first|simp (disch:=omega) only[go_sem,seval,ag]|(with_reducible first|apply aa|intro)|exact ah|(try rw[ae]);omega
 refine fI (r0:=.tup []) (H1:=[.row g 1 true (m.map (D.int .i64))]) ?_ ⟨m,hm,rfl⟩;simp only[go_sem,seval]
structure gB (l m:ZA) (k q:Nat):Prop where
 len:m.length=l.length
 pre:m.take k=pE l q
 kl:k=(pE l q).length
 lt:k<q
 rest : ∀ p,q<=p+1->m.getD p 0=l.getD p 0
def gB.same (h:gB l m k q) (hq:q<l.length) (h0:0<q) (he:l.getD q 0=l.getD (q-1) 0):gB l m k (q+1):=by
 have hd:=Dw h0 hq;rw[if_pos he] at hd;exact⟨h.len,by rw[hd];exact h.pre,by rw[hd];exact h.kl,by have:=h.lt;omega,fun p hp=>h.rest p (by omega)⟩
def gB.put (h:gB l m k q) (hq:q<l.length) (h0:0<q) (he:l.getD q 0≠l.getD (q-1) 0):gB l (m.set k (l.getD q 0)) (k+1) (q+1):=by
 have hd:=Dw h0 hq;rw[if_neg he] at hd;have hkq:=h.lt;have hlen:=h.len;refine⟨by rw[gh];exact h.len,?_,by rw[hd,b8,<-h.kl];rfl,by omega,fun p hp=>?_⟩
 ·rw[hd,<-h.pre];apply List.ext_getElem?;intro p;rw[List.getElem?_take,List.getElem?_append,iy];by_cases h1:p<k
  ·rw[if_pos (by omega),if_pos (by omega),List.getElem?_take,if_pos h1,List.getElem?_set,if_neg (by omega)]
  ·rw[if_neg (by omega : ¬ p<min k m.length)];by_cases h2:p=k
   ·subst h2;rw[if_pos (by omega),List.getElem?_set,if_pos rfl,if_pos (by omega),show p-min p m.length=0 by omega];rfl
   ·rw[if_neg (by omega)];simp[show min k m.length=k by omega];omega
 ·rw[GV (by omega),if_neg (by omega)];exact h.rest p (by omega)
def gB.start (hk:k<l.length) (h0:0<k) (hd:pE l k=l.take k) (he:l.getD k 0=l.getD (k-1) 0):gB l l k (k+1):=by
 have h:=Dw h0 hk;rw[if_pos he] at h;refine⟨rfl,by rw[h,hd],by rw[h,hd,iy];omega,by omega,fun _ _=>rfl⟩
def Px (hk:k<l.length) (h0:0<k) (hd:pE l k=l.take k) (he:l.getD k 0≠l.getD (k-1) 0):pE l (k+1)=l.take (k+1):=by
 have h:=Dw h0 hk;rw[if_neg he] at h;rw[h,hd,la hk];simp[List.getD,hk]
def Tryz.pJ (g:Nat) (l:ZA) (hl:l.length<=1000):aA prog 219 [.sl 0 g 1 0 l.length] [.row g 1 true (l.map (D.int .i64))] (fun r H'=>∃ zs:ZA,r=.sl 0 g 1 0 (i7 l).length/\H'=[.row g 1 true ((i7 l++zs).map (D.int .i64))]):=by
 refine i9 rfl 1000 func219 rfl rfl ntmps219 (by simp) ?_
 repeat' first|simp (disch:=omega) only[go_sem,seval,ag]|(with_reducible first|apply aa|intro)|exact ah|(try rw[ae]);omega
 ·rename_i h2;have hd:i7 l=l:=by
   match l,h2 with
   | [],_=>rfl
   | [x],_=>rfl
   | x::y::r,h2=>simp at h2;omega
  refine fI (r0:=.sl 0 g 1 0 l.length) (H1:=[.row g 1 true (l.map (D.int .i64))]) ?_ ⟨[],by rw[hd],by rw[hd,jq];rfl⟩;simp only[go_sem,seval]
 rename_i h2;refine pA (σ:=Nat) (fun k=>[(3,.d (dI k)),(0,.sl 0 g 1 0 l.length)]) (fun _=>[.row g 1 true (l.map (D.int .i64))])
  (fun k=>1<=k/\k<=l.length/\pE l k=l.take k) (fun k=>l.length-k) [] 1000 1000 ?_ ?_ ?_
 ·simp only[go_sem,seval]
 ·simp only[go_sem,seval];refine⟨1,⟨by omega,by omega,?_⟩,rfl⟩;rw[QH (by omega)];match l,h2 with
  | x::r,_=>rfl
 ·rintro k ⟨hk1,hkl,hd⟩;by_cases hlt:k<l.length
  ·have ek:((k:Int)-1).toNat=k-1:=by omega
   repeat' first|simp (disch:=omega) only[go_sem,seval,ek,ag]|(with_reducible first|apply aa|intro)|exact ah|(try rw[ae]);omega
   ·rename_i h9;have en:((l.length:Int)-(k:Int)).toNat=l.length-k:=by omega
    rw[en];refine pA (σ:=Nat×Nat×ZA) (fun s=>[(5,.d (dI s.1)),(4,.sl 0 g 1 k (l.length-k)),(3,.d (dI s.2.1)),(0,.sl 0 g 1 0 l.length)]) (fun s=>[.row g 1 true (s.2.2.map (D.int .i64))])
     (fun s=>1<=s.1/\s.1<=l.length-k/\gB l s.2.2 s.2.1 (k+s.1)) (fun s=>l.length-s.1) [] 1000 1000 ?_ ?_ ?_
    ·simp only[go_sem,seval]
    ·simp only[go_sem,seval];exact⟨(1,k,l),⟨by simp,by simp only;omega,gB.start hlt hk1 hd h9⟩,⟨rfl,rfl⟩,rfl⟩
    ·rintro⟨k2,kk,m⟩ ⟨hk21,hk22,hm⟩;simp only at hk21 hk22 hm;have hml:=hm.len;have hmlt:=hm.lt;by_cases hlt2:k2<l.length-k
     ·have e1:((k2:Int)-1).toNat=k2-1:=by omega
      have r1:=hm.rest (k+k2) (by omega);have r2:=hm.rest (k+(k2-1)) (by omega);have e2:k+(k2-1)=k+k2-1:=by omega
      have e3:k+k2+1=k+(k2+1):=by omega
      repeat' first|simp (disch:=omega) only[go_sem,seval,e1,r1,r2,ag]|(with_reducible first|apply aa|intro)|exact ah|(try rw[ae]);omega
      ·rename_i h10;rw[e2] at h10;exact⟨(k2+1,kk+1,m.set kk (l.getD (k+k2) 0)),⟨by simp only;omega,by simp only;omega,by simp only;rw[<-e3];exact hm.put (by omega) (by omega) (by simpa using h10)⟩,by simp only;omega,⟨rfl,rfl⟩,rfl⟩
      ·rename_i h10;rw[e2] at h10;exact⟨(k2+1,kk,m),⟨by simp only;omega,by simp only;omega,by simp only;rw[<-e3];exact hm.same (by omega) (by omega) (by simpa using h10)⟩,by simp only;omega,⟨rfl,rfl⟩,rfl⟩
     ·obtain rfl:k2=l.length-k:=by omega
      have hke:k+(l.length-k)=l.length:=by omega
      rw[hke] at hm hmlt;have hpre:m.take kk=i7 l:=by rw[hm.pre,FD]
      have hkd:(i7 l).length=kk:=by rw[<-FD];exact hm.kl.symm
      repeat' first|simp (disch:=omega) only[go_sem,seval,ag]|(with_reducible first|apply aa|intro)|exact ah|(try rw[ae]);omega
      have hsp:(VL.splice m kk (List.replicate ((l.length:Int)-(kk:Int)).toNat 0)).take kk=m.take kk:=by
       unfold VL.splice;rw[fA,List.take_append_of_le_length (by rw[iy];omega),ag (by rw[iy];omega)]
      refine n5 ⟨(VL.splice m kk (List.replicate ((l.length:Int)-(kk:Int)).toNat 0)).drop kk,by rw[hkd],?_⟩;rw[<-hpre,<-hsp,xS]
   ·rename_i h9;exact⟨k+1,⟨by omega,by omega,Px hlt hk1 hd h9⟩,by omega,rfl⟩
  ·obtain rfl:k=l.length:=by omega
   have hda:i7 l=l:=by rw[<-FD,hd,ig]
   repeat' first|simp (disch:=omega) only[go_sem,seval,ag]|(with_reducible first|apply aa|intro)|exact ah|(try rw[ae]);omega
   refine fI (r0:=.sl 0 g 1 0 l.length) (H1:=[.row g 1 true (l.map (D.int .i64))]) ?_ ⟨[],by rw[hda],by rw[hda,jq];rfl⟩;simp only[go_sem,seval]
def Tryz.xR (n:Nat) (hn:0<n/\n<=1000):aA prog 226 [.d .nil,.d (dI n)] [] (fun r H'=>∃ g',r=.sl 0 g' 1 0 0/\H'=[.row g' 1 true []]):=by
 refine xx rfl 1000 func226 rfl rfl ntmps226 (by simp) ?_
 repeat' first|simp (disch:=omega) only[go_sem,seval,ag]|(with_reducible first|apply aa|intro)|exact ah|(try rw[ae]);omega
 refine RK (i:=0) (g:=0) (m:=0) rfl rfl ?_;exact n5 ⟨1,rfl,by simp⟩

def So {Po:I->ZF->Prop}{H:ZF}(hk:0<k) (h:Po (.sl H.length 0 k 0 0) (H ++ [.row 0 k true []])):gI n Po (.d .nil) H:=by
 refine⟨_,_,Aj [(0,k,true)] ⟨rfl,by show 0<1;omega,hk,trivial⟩,rfl,?_⟩;exact h
def JB {x y:ZA}{z:D}(h:i<2):([aj x,aj y]:ZD).getD i z=aj (if i=0 then x else y):=by
 match i,h with
 | 0,_|1,_=>rfl
def py (x y:ZA):Nat->ZA
 | 0=>[]
 | 1=>x
 | _=>x++y
def Tryz.tT (n:Nat) (hn:n<=1000):aA prog 226 [.d .nil,.d (dI n)] [] (fun r H'=>∃ g',r=.sl 0 g' 1 0 0/\H'=[.row g' 1 true []]):=by
 by_cases h0:n=0
 ·subst h0;refine xx rfl 1000 func226 rfl rfl ntmps226 (by simp) ?_
  repeat' first|simp (disch:=omega) only[go_sem,seval,ag,cx]|(with_reducible first|apply aa|intro)|exact ah|(try rw[ae]);omega
  exact So (by decide) ⟨0,rfl,rfl⟩
 ·exact xR n ⟨by omega,hn⟩
def Tryz.se (x y:ZA) (hx:x.length<=100) (hy:y.length<=100):aA prog 217 [.sl 0 0 1 0 2] [.row 0 1 false [aj x,aj y]] (fun r H'=>∃ g',r=.sl 1 g' 1 0 (x++y).length/\H'=[.row 0 1 false [aj x,aj y],.row g' 1 true ((x++y).map (D.int .i64))]):=by
 refine i9 rfl 1000 func217 rfl rfl ntmps217 (by simp) ?_
 repeat' first|simp (disch:=omega) only[go_sem,seval,ag,cx]|(with_reducible first|apply aa|intro)|exact ah|(try rw[ae]);omega
 refine pA (σ:=Nat) (fun i=>[(11,.d (dI i)),(10,.d (dI 2)),(9,.sl 0 0 1 0 2),(3,.d (dI (if i=0 then 0 else if i=1 then x.length else x.length+y.length:Nat))),(0,.sl 0 0 1 0 2)]) (fun _=>[.row 0 1 false [aj x,aj y]])
  (fun i=>i<=2) (fun i=>2-i) [] 1000 1000 ?_ ?_ ?_
 ·simp only[go_sem,seval]
 ·simp only[go_sem,seval];exact⟨0,by omega,rfl,rfl⟩
 ·intro i hi;by_cases hlt:i<2
  ·have hg:=fun z:D=>JB (x:=x) (y:=y) (z:=z) hlt
   repeat' first|simp (disch:=omega) only[go_sem,seval,hg,ag,cx]|(with_reducible first|apply aa|intro)|exact ah|(try rw[ae]);omega
   ·match i,hlt with
    | 0,_|1,_=>simp[ae];omega
   ·refine⟨i+1,by omega,by omega,by omega,?_⟩;match i,hlt with
    | 0,_|1,_=>simp
  ·obtain rfl:i=2:=by omega
   repeat' first|simp (disch:=omega) only[go_sem,seval,ag,cx]|(with_reducible first|apply aa|intro)|exact ah|(try rw[ae]);omega
   refine c7 (tT (x.length+y.length) (by omega)) [] (by simp only[go_sem,seval]) ?_;rintro r0 H1 ⟨g',rfl,rfl⟩;simp only[go_sem,seval]
   repeat' first|simp (disch:=omega) only[go_sem,seval,ag,cx]|(with_reducible first|apply aa|intro)|exact ah|(try rw[ae]);omega
   refine pA (σ:=Nat) (fun i=>[(27,.d (dI i)),(26,.d (dI 2)),(25,.sl 0 0 1 0 2),(6,.sl 1 (g'+i) 1 0 (py x y i).length)]) (fun i=>[.row 0 1 false [aj x,aj y],.row (g'+i) 1 true ((py x y i).map (D.int .i64))])
    (fun i=>i<=2) (fun i=>2-i) [] 1000 1000 ?_ ?_ ?_
   ·simp only[go_sem,seval]
   ·simp only[go_sem,seval];exact⟨0,by omega,⟨rfl,rfl,rfl⟩,rfl,rfl⟩
   ·intro i hi;by_cases hlt:i<2
    ·have hg:=fun z:D=>JB (x:=x) (y:=y) (z:=z) hlt
     repeat' first|simp (disch:=omega) only[go_sem,seval,hg,ag,cx]|(with_reducible first|apply aa|intro)|exact ah|(try rw[ae]);omega
     ·match i,hlt with
      | 0,_|1,_=>simp[py];omega
     ·refine⟨i+1,by omega,by omega,⟨rfl,by omega,?_⟩,by omega,?_⟩
      ·match i,hlt with
       | 0,_|1,_=>simp[py]
      ·match i,hlt with
       | 0,_|1,_=>simp[py]
    ·obtain rfl:i=2:=by omega
     repeat' first|simp (disch:=omega) only[go_sem,seval,ag,cx]|(with_reducible first|apply aa|intro)|exact ah|(try rw[ae]);omega
     exact n5 ⟨_,by simp[py],rfl⟩
def Tryz.rJ (a b:ZA):Pure prog 222 [aj a,aj b] (.bool (decide (a=b))):=by
 refine bz func222 rfl ntmps222 fun ok=>?_
 simp only[go_sem,seval] at ok⊢;refine⟨fun h=>?_,fun hlen=>?_⟩
 ·simp only[false_eq_decide_iff];rintro rfl;exact h rfl
 refine cQ (σ:=Nat) (fun i=>[(11,.d (aj a)),(12,.d (dI a.length)),(13,.d (dI i)),(0,.d (aj a)),(1,.d (aj b))]) (fun _=>[]) (fun i=>i<=a.length/\∀ j,j<i->a.getD j 0=b.getD j 0) (fun i=>a.length-i) [] 1000 1000 ?_ ?_ ?_
 ·simp only[go_sem,seval]
 ·simp only[go_sem,seval];exact⟨0,⟨by omega,by omega⟩,rfl⟩
 ·rintro i ⟨hi,hinv⟩;by_cases hlt:i<a.length
  ·repeat' first|simp (disch:=omega) only[go_sem,seval,ag,cx]|(with_reducible first|apply aa|intro)|exact ah|(try rw[ae]);omega
   ·rename_i h1;simp only[false_eq_decide_iff];rintro rfl;exact h1 rfl
   ·rename_i h1;exact⟨i+1,⟨by omega,fun j hj=>by
     by_cases hji:j=i
     ·subst hji;exact h1
     ·exact hinv j (by omega)⟩,by omega,rfl⟩
  ·repeat' first|simp (disch:=omega) only[go_sem,seval,ag,cx]|(with_reducible first|apply aa|intro)|exact ah|(try rw[ae]);omega
   simp only[true_eq_decide_iff];exact wq 0 hlen fun j hj=>hinv j (by omega)
def Tryz.mZ (z cut:ZA):Pure prog 221 [aj z,.ptr [aj cut]] (.bool (decide (z=cut))):=by
 refine bz func221 rfl ntmps221 fun ok=>?_
 simp only[go_sem,seval] at ok
 repeat' first|simp (disch:=omega) only[go_sem,seval,ag,cx]|(with_reducible first|apply aa|intro)|(refine az (rJ z cut) ?_)|exact ah|(try rw[ae]);omega
def Tryz.mG (l:List ZA) (cut:ZA) (hl:l.length<=1000):ep prog 229 [cg l,.fn 221 [.ptr [aj cut]]] (fun y=>∃ n:Int,y=dI n/\(0<=n↔cut∈l)):=by
 have hq:=fun z=>mZ z cut
 refine CX (E:=env 0) tok rfl 1000 func229 rfl rfl ntmps229 (by simp) fun ok=>?_
 simp only[go_sem,seval] at ok
 repeat' first|simp (disch:=omega) only[go_sem,seval,ag,cx]|(with_reducible first|apply aa|intro)|exact ah|(try rw[ae]);omega
 refine cQ (σ:=Nat) (fun i=>[(8,.d (dI i)),(7,.d (dI l.length)),(6,.d (cg l)),(0,.d (cg l)),(1,.d (.fn 221 [.ptr [aj cut]]))]) (fun _=>[])
  (fun i=>i<=l.length/\cut∉l.take i) (fun i=>l.length-i) [] 1000 1000 ?_ ?_ ?_
 ·simp only[go_sem,seval]
 ·simp only[go_sem,seval];exact⟨0,⟨by omega,by simp⟩,rfl⟩
 ·rintro i ⟨hi,hinv⟩;by_cases hlt:i<l.length
  ·have hts:l.take (i+1)=l.take i ++ [l.getD i []]:=by simpa using nm (f:=fun x:ZA=>x) [] hlt
   have hmm:=aO hlt (z:=([]:ZA));generalize hz9:l.getD i []=z at *
   have hqz:=hq z
   repeat' first|simp (disch:=omega) only[go_sem,seval,hz9,ag,cx]|(with_reducible first|apply aa|intro)|(refine az hqz ?_)|exact ah|(try rw[ae]);omega
   ·rename_i h1;exact⟨_,rfl,_,rfl,by rw[<-h1];exact⟨fun _=>hmm,fun _=>by omega⟩⟩
   ·rename_i h1;refine⟨i+1,⟨by omega,?_⟩,by omega,rfl⟩;rw[hts,gM,m5];rintro(h2|h2)
    ·exact hinv h2
    ·exact h1 h2.symm
  ·obtain rfl:i=l.length:=by omega
   rw[ig] at hinv
   repeat' first|simp (disch:=omega) only[go_sem,seval,ag,cx]|(with_reducible first|apply aa|intro)|exact ah|(try rw[ae]);omega
   exact⟨_,rfl,_,rfl,⟨fun h=>absurd h (by decide),fun h=>absurd h hinv⟩⟩
def Tryz.ka (l:List ZA) (cut:ZA) (hl:l.length<=1000):Pure prog 220 [cg l,.fn 221 [.ptr [aj cut]]] (.bool (decide (cut∈l))):=by
 refine bz func220 rfl ntmps220 fun ok=>?_
 simp only[go_sem,seval] at ok
 repeat' first|simp (disch:=omega) only[go_sem,seval,ag,cx]|(with_reducible first|apply aa|intro)|exact ah|(try rw[ae]);omega
 refine Ca (mG l cut hl) ?_;rintro y ⟨n,rfl,hn⟩
 repeat' first|simp (disch:=omega) only[go_sem,seval,ag,cx]|(with_reducible first|apply aa|intro)|exact ah|(try rw[ae]);omega
 exact decide_eq_decide.2 hn

def Tryz.nH (P Q:List ZA) (hP:P.length<=9) (hQ:Q.length<=9) (pa : ∀ x∈P,iq x/\x.length<=3) (qa : ∀ x∈Q,iq x/\x.length<=3):aA prog 209 [.d (cg P),.d (cg Q)] []
  (fun r H'=>∃ g,r=.sl 0 g 1 0 (nq P Q).length/\H'=[.row g 1 false ((nq P Q).map fun x=>aj x)]):=by
 refine xx rfl 1000 func209 rfl rfl ntmps209 (by simp) ?_
 repeat' first|simp (disch:=omega) only[go_sem,seval,ag,cx]|(with_reducible first|apply aa|intro)|(try rw[ae]);omega
 refine cD (σ:=Nat) (fun a=>[(13,.d (dI a)),(12,.d (dI P.length)),(11,.d (cg P)),(5,.sl 0 ((P.take a).foldl (fun l x=>bp x Q l) []).length 1 0 ((P.take a).foldl (fun l x=>bp x Q l) []).length),(1,.d (cg Q))])
  (fun a=>[.row ((P.take a).foldl (fun l x=>bp x Q l) []).length 1 false (((P.take a).foldl (fun l x=>bp x Q l) []).map fun x=>aj x)])
  (fun a=>a<=P.length/\((P.take a).foldl (fun l x=>bp x Q l) []).length<=8) (fun a=>P.length-a) [] [(5,1,false)] 1000 1000 ?_ ?_
 ·simp only[go_sem,seval];exact⟨0,⟨by omega,by simp⟩,by simp⟩
 ·rintro a ⟨ha,hl8⟩;by_cases hat:a<P.length
  ·have hsa:=iH (f:=fun l x=>bp x Q l) (b:=[]) ([]:ZA) hat;have hpx:=pa _ (aO hat:P.getD a []∈P);generalize hx9:P.getD a []=X at *
   generalize (P.take a).foldl (fun l x=>bp x Q l) []=L0 at *
   repeat' first|simp (disch:=omega) only[go_sem,seval,hx9,ag,cx]|(with_reducible first|apply aa|intro)|(try rw[ae]);omega
   refine cD (σ:=Nat) (fun b=>[(19,.d (dI b)),(18,.d (dI Q.length)),(17,.d (cg Q)),(7,.d (aj X)),(13,.d (dI a)),(12,.d (dI P.length)),(11,.d (cg P)),(5,.sl 0 (bp X (Q.take b) L0).length 1 0 (bp X (Q.take b) L0).length),(1,.d (cg Q))])
    (fun b=>[.row (bp X (Q.take b) L0).length 1 false ((bp X (Q.take b) L0).map fun x=>aj x)])
    (fun b=>b<=Q.length) (fun b=>Q.length-b) [] [] 1000 1000 ?_ ?_
   ·simp only[go_sem,seval];exact⟨0,by omega,by simp[bp]⟩
   ·intro b hb;have hr8:=zW (x:=X) (q:=Q.take b) hl8;by_cases hbt:b<Q.length
    ·have hsb:bp X (Q.take (b+1)) L0=gK (bp X (Q.take b) L0) (cG X (Q.getD b [])):=iH (f:=fun l y=>gK l (cG X y)) (b:=L0) ([]:ZA) hbt;have hqy:=qa _ (aO hbt:Q.getD b []∈Q);generalize hy9:Q.getD b []=Y at *
     generalize bp X (Q.take b) L0=L1 at *
     have had:gK L1 (cG X Y)=if(cG X Y).length<=3/\L1.length<8/\cG X Y∉L1 then L1 ++ [cG X Y] else L1:=rfl
     repeat' first|simp (disch:=omega) only[go_sem,seval,hx9,hy9,ag,cx]|(with_reducible first|apply aa|intro)|(try rw[ae]);omega
     refine c7 (se X Y (by omega) (by omega)) [1] (by simp only[go_sem,seval]) ?_;rintro r0 H1 ⟨g',rfl,rfl⟩
     repeat' first|simp (disch:=omega) only[go_sem,seval,hx9,hy9,ag,cx]|(with_reducible first|apply aa|intro)|(try rw[ae]);omega
     have hxy:X.length+Y.length=(X++Y).length:=by simp
     rw[hxy];refine c7 (xI g' (X++Y) (by simp;omega)) [2] (by simp only[go_sem,seval]) ?_;rintro r0 H1 ⟨m,hm,rfl⟩;have hml:=hm.len;rw[<-hxy] at hml
     repeat' first|simp (disch:=omega) only[go_sem,seval,hx9,hy9,ag,cx]|(with_reducible first|apply aa|intro)|(try rw[ae]);omega
     rw[<-hml];refine c7 (pJ g' m (by omega)) [2] (by simp only[go_sem,seval]) ?_;have hz:i7 m=cG X Y:=join_eq hpx.1 hqy.1 hm.1 (bZ.pairwise (by rw[hxy,<-hm.len] at hml;rw[hm.len];exact hm));rw[hz];generalize cG X Y=Z at *
     rintro r0 H1 ⟨zs,rfl,rfl⟩;have tz:((Z++zs).map (D.int .i64)).take Z.length=Z.map (D.int .i64):=by rw[gw,List.take_left' (by simp)]
     repeat' first|simp (disch:=omega) only[go_sem,seval,hx9,hy9,tz,ag,cx]|(with_reducible first|apply aa|intro)|(refine az (ka L1 Z (by omega)) ?_)|(try rw[ae]);omega
     ·rename_i h9;have e:bp X (Q.take (b+1)) L0=L1:=by rw[hsb,had,if_neg (by rintro⟨q1,q2,q3⟩;omega)]
      refine⟨b+1,by omega,by omega,?_⟩;rw[e];exact⟨⟨rfl,rfl⟩,rfl,rfl⟩
     ·rename_i h9 h8;have e:bp X (Q.take (b+1)) L0=L1 ++ [Z]:=by rw[hsb,had,if_pos ⟨by omega,by omega,h8⟩]
      refine⟨b+1,by omega,by omega,?_⟩;rw[e];exact⟨⟨by simp,by simp⟩,by simp,by simp⟩
     ·rename_i h9 h8;have e:bp X (Q.take (b+1)) L0=L1:=by rw[hsb,had,if_neg (by rintro⟨q1,q2,q3⟩;exact q3 h8)]
      refine⟨b+1,by omega,by omega,?_⟩;rw[e];exact⟨⟨rfl,rfl⟩,rfl,rfl⟩
    ·repeat' first|simp (disch:=omega) only[go_sem,seval,ag,cx]|(with_reducible first|apply aa|intro)|(try rw[ae]);omega
     refine⟨a+1,⟨by omega,?_⟩,by omega,?_⟩
     ·rw[hsa];exact zW hl8
     ·rw[hsa];exact⟨⟨rfl,rfl⟩,rfl,rfl⟩
  ·obtain rfl:a=P.length:=by omega
   repeat' first|simp (disch:=omega) only[go_sem,seval,ag,cx]|(with_reducible first|apply aa|intro)|(try rw[ae]);omega
   exact n5 ⟨_,rfl,rfl⟩

def Tryz.yl (c:ac) (hc:c.Valid):bk prog 176 [dC c] (wn (iF c)):=by
 have hf:=hc.al;have hi0:=hc.i0;have hi1:=hc.i1;have hfst:=bi c (by omega);have hl0:=lS (c:=c) hf.1 0;have hcv:=aR c;refine wD rfl 1000 func176 rfl rfl ntmps176 (by simp) fun ok=>?_
 simp only[go_sem,seval] at ok⊢
 repeat' first|simp (disch:=first|assumption|omega|simp;try omega) only[ag,dJ];try simp only[go_sem,seval]|(with_reducible first|apply aa|intro)|(refine az hfst ?_;simp only[go_sem,seval])|(refine az hcv ?_;simp only[go_sem,seval])|(try rw[ae]);omega
 ·rename_i h9;exact absurd hc h9
 rename_i h9;refine cD (σ:=Nat) (fun v=>[(1,.ptr 0 0),(3,.sl 3 (v-1) 1 0 v),(4,.d (dI v))]) (fun v=>[.box [.d (dI c.inputs),.d (aj c.next),.d (aY c.gates),.d (aj c.outs)],.dead 0,.dead 0,.row (v-1) 1 false (((bC c 0).take v).map fun x=>cg x)])
  (fun v=>1<=v/\(v:Int)<=c.first) (fun v=>c.first.toNat-v) [] [] 1000 1000 ?_ ?_
 ·simp only[go_sem,seval];exact⟨1,⟨by omega,by omega⟩,⟨⟨rfl,rfl⟩,rfl⟩,rfl,by simp[bC]⟩
 ·rintro v ⟨hv1,hv⟩;by_cases hlt:(v:Int)<c.first
  ·have hg:(bC c 0).getD v []=[[(v:Int)]]:=by
    obtain⟨m,rfl⟩ : ∃ m,v=m+1:=⟨v-1,by omega⟩;simp[bC,List.getD,show m<c.first.toNat-1 by omega]
   have hts:=nm (f:=fun x=>cg x) ([]:List ZA) (show v<(bC c 0).length by omega);simp only[go_sem,seval]
   repeat' first|simp (disch:=first|assumption|omega|simp;try omega) only[ag,dJ];try simp only[go_sem,seval]|(with_reducible first|apply aa|intro)|(refine az hfst ?_;simp only[go_sem,seval])|(try rw[ae]);omega
   ·simp;omega
   ·refine⟨v+1,⟨by omega,by omega⟩,by omega,⟨⟨by omega,rfl⟩,by omega⟩,by omega,?_⟩;rw[hts,hg];rfl
  ·simp only[go_sem,seval]
   repeat' first|simp (disch:=first|assumption|omega|simp;try omega) only[ag,dJ];try simp only[go_sem,seval]|(with_reducible first|apply aa|intro)|(refine az hfst ?_;simp only[go_sem,seval])|(try rw[ae]);omega
   have hv3:v=c.first.toNat:=by omega
   subst hv3;clear hlt hv hv1;have hlg:=hc.lg;refine cD (σ:=Nat) (fun i=>[(28,.d (dI i)),(27,.d (dI c.gates.length)),(26,.d (aY c.gates)),(1,.ptr 0 0),(3,.sl 3 (c.first.toNat-1+i) 1 0 (c.first.toNat+i))]) (fun i=>[.box [.d (dI c.inputs),.d (aj c.next),.d (aY c.gates),.d (aj c.outs)],.dead 0,.dead 0,.row (c.first.toNat-1+i) 1 false ((bC c i).map fun x=>cg x)])
    (fun i=>i<=c.gates.length) (fun i=>c.gates.length-i) [] [] 1000 1000 ?_ ?_
   ·simp only[go_sem,seval];exact⟨0,by omega,⟨rfl,rfl,rfl⟩,rfl,rfl⟩
   ·intro i hi;have hli:=lS (c:=c) hf.1 i;by_cases hlt:i<c.gates.length
    ·obtain⟨g1,g2⟩:=hc.g i hlt;have hco:=qv hc i hi;unfold bm at g1 g2;simp only[go_sem,seval]
     repeat' first|simp (disch:=first|assumption|omega|simp;try omega) only[ag,dJ];try simp only[go_sem,seval]|(with_reducible first|apply aa|intro)|(refine az hfst ?_;simp only[go_sem,seval])|(try rw[ae]);omega
     have hA:(cV c i/2).toNat<(bC c i).length:=by unfold cV;omega
     have hB:(cU c i/2).toNat<(bC c i).length:=by unfold cU;omega
     obtain⟨pa,-,-,pl⟩:=hco _ hA;obtain⟨qa,-,-,ql⟩:=hco _ hB;have hjn:(bC c (i+1))=bC c i ++ [nq ((bC c i).getD (cV c i/2).toNat []) ((bC c i).getD (cU c i/2).toNat []) ++ [[c.first+(i:Int)]]]:=rfl;have hgA:(c.gates.getD i (0,0)).1=cV c i:=rfl;have hgB:(c.gates.getD i (0,0)).2=cU c i:=rfl;rw[hgA] at g1 ⊢;rw[hgB] at g2 ⊢;have hjl:=EY ((bC c i).getD (cV c i/2).toNat []) ((bC c i).getD (cU c i/2).toNat []);have hjo:=nH _ _ pl ql (fun x hx=>⟨(pa x hx).iq,(pa x hx).len⟩) (fun x hx=>⟨(qa x hx).iq,(qa x hx).len⟩);generalize hP9:(bC c i).getD (cV c i/2).toNat []=P at *
     generalize hQ9:(bC c i).getD (cU c i/2).toNat []=Q at *
     refine co (n:=0) [12] (ax [0,1,6,7,2,3,4,5,8,9,10,11] (.one 12 (.fst 13 .done))) ?_;simp only[go_sem,seval,hP9,hQ9]
     repeat' first|simp (disch:=first|assumption|omega|simp;try omega) only[ag,dJ];try simp only[go_sem,seval,hP9,hQ9]|(with_reducible first|apply aa|intro)|(refine az hfst ?_;simp only[go_sem,seval,hP9,hQ9])|(try rw[ae]);omega
     refine c7 hjo [] (by simp only[go_sem,seval]) ?_;rintro r0 H1 ⟨g',rfl,rfl⟩;simp only[go_sem,seval,hP9,hQ9]
     repeat' first|simp (disch:=first|assumption|omega|simp;try omega) only[ag,dJ];try simp only[go_sem,seval,hP9,hQ9]|(with_reducible first|apply aa|intro)|(refine az hfst ?_;simp only[go_sem,seval,hP9,hQ9])|(try rw[ae]);omega
     refine⟨i+1,by omega,by omega,⟨rfl,by omega,by omega⟩,by omega,?_⟩;rw[hjn,gw];simp
    ·simp only[go_sem,seval]
     repeat' first|simp (disch:=first|assumption|omega|simp;try omega) only[ag,dJ];try simp only[go_sem,seval]|(with_reducible first|apply aa|intro)|(refine az hfst ?_;simp only[go_sem,seval])|(try rw[ae]);omega
     rw[iF,show i=c.gates.length by omega]
end Go.Proofs

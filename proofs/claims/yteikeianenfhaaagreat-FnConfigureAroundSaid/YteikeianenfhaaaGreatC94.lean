/- Contracts, plain definitions and lemmas. Conditions: none; lemmas. -/
import Derived.Test.YteikeianenfhaaaGreatC90
import Derived.Test.YteikeianenfhaaaGreatC7
set_option maxRecDepth 20000
set_option linter.unusedSimpArgs false
set_option linter.unusedVariables false
set_option maxHeartbeats 2000000
namespace Go.Proofs
set_option linter.defProp false
open Go Go.VL Tryz
variable {l m:List Int}{i k q:Nat}
def SortTo.all (h:SortTo l m i) (hi:l.length<=i):SortTo l m l.length:=⟨h.1,fun p q hpq hq=>h.2 p q hpq (by omega)⟩
def SortTo.len (h:SortTo l m i):m.length=l.length:=h.1.length_eq
def qnH (s:ByteArray) (i:Nat):0<=qjl s i/\qjl s i<=255:=by
 unfold qjl;split
 ·rename_i b _;have:=b.toNat_lt;omega
 ·omega
def qlX (s:ByteArray) (i:Nat):InK .i64 (qjl s i):=by
 have:=qnH s i;rw[qaa];omega
def SortTo.self (l:List Int):SortTo l l 1:=⟨List.Perm.refl _,fun p q hpq hq=>by omega⟩
def Tryz.c_isNaN (x:Int):Pure prog 246 [dI x] (.bool false):=by
 refine qax func246 rfl ntmps246 fun ok=>?_
 simp only[go_sem,seval] at ok⊢
def Tryz.c_Less (x y:Int):Pure prog 236 [dI x,dI y] (.bool (decide (x<y))):=by
 have hx:=c_isNaN x;refine qax func236 rfl ntmps236 fun ok=>?_
 simp only[go_sem,seval] at ok
 repeat' first|assumption|(simp (disch:=first|assumption|omega|(simp;done)|(simp;omega)) only[go_sem,seval,yaa])|(with_reducible first|apply And.intro|intro _)|(refine qac hx ?_)|(refine qaN (fun _=>c_isNaN _) ?_)|exact lexT|((try rw[qaa]);omega)
def Tryz.c_insSort (g:Nat) (l:List Int) (hl:l.length<=1000):ICall prog 230 [.sl 0 g 1 0 l.length,.d (dI 0),.d (dI l.length)] [.row g 1 true (l.map (D.int .i64))] (fun _ H'=>∃ m,SortTo l m l.length/\H'=[.row g 1 true (m.map (D.int .i64))]):=by
 refine qaz (E:=env 1) tok rfl 1000 func230 rfl rfl ntmps230 (by simp) ?_
 repeat' first|assumption|(simp (disch:=first|assumption|omega|(simp;done)|(simp;omega)) only[go_sem,seval,yaa])|(with_reducible first|apply And.intro|intro _)|exact lexT|((try rw[qaa]);omega)
 refine qaw (E:=env 1) tok (σ:=Nat×List Int) (fun s=>[(6,.d (dI s.1)),(0,.sl 0 g 1 0 l.length),(1,.d (dI 0)),(2,.d (dI l.length))]) (fun s=>[.row g 1 true (s.2.map (D.int .i64))])
  (fun s=>SortTo l s.2 s.1/\1<=s.1/\s.1<=1001) (fun s=>1001-s.1) [] 1000 1000 ?_ ?_ ?_
 ·simp only[go_sem,seval]
 ·simp only[go_sem,seval];exact⟨(1,l),⟨SortTo.self l,by simp,by simp⟩,rfl,rfl⟩
 ·rintro⟨i,m⟩ ⟨hs,hi1,hi2⟩;simp only at hs hi1 hi2;have hlen:=hs.len;by_cases hlt:i<l.length
  ·repeat' first|assumption|(simp (disch:=first|assumption|omega|(simp;done)|(simp;omega)) only[go_sem,seval,yaa])|(with_reducible first|apply And.intro|intro _)|exact lexT|((try rw[qaa]);omega)
   refine qaw (E:=env 1) tok (σ:=Nat×List Int) (fun s=>[(7,.d (dI s.1)),(6,.d (dI i)),(0,.sl 0 g 1 0 l.length),(1,.d (dI 0)),(2,.d (dI l.length))]) (fun s=>[.row g 1 true (s.2.map (D.int .i64))])
    (fun s=>InsOk l s.2 i s.1/\s.1<=i) (fun s=>s.1) [] 1000 1000 ?_ ?_ ?_
   ·simp only[go_sem,seval]
   ·simp only[go_sem,seval];exact⟨(i,m),⟨InsOk.start hs,yad _⟩,rfl,rfl⟩
   ·rintro⟨j,m2⟩ ⟨ho,hji⟩;simp only at ho hji;have hlen2:m2.length=l.length:=ho.perm.length_eq;have hle:=c_Less (m2.getD j 0) (m2.getD (j-1) 0);have ej:((j:Int)-1).toNat=j-1:=by omega
    repeat' first|assumption|(simp (disch:=first|assumption|omega|(simp;done)|(simp;omega)) only[go_sem,seval,ej,yaa])|(with_reducible first|apply And.intro|intro _)|(refine qaN (fun _=>hle) ?_)|(refine qcD (fun _=>⟨hle,trivial⟩) ?_)|exact lexT|((try rw[qaa]);omega)
    ·rename_i h9;refine qaL (n:=1) [15,17] (fsts [0,1,2,3,4,5,6,7,8,10,11,12,9,13,14] (.one 15 (.fst 16 (.one 17 .done)))) ?_
     repeat' first|assumption|(simp (disch:=first|assumption|omega|(simp;done)|(simp;omega)) only[go_sem,seval,ej,yaa])|(with_reducible first|apply And.intro|intro _)|exact lexT|((try rw[qaa]);omega)
     have hj9:0<j:=by omega
     have hlt9:m2.getD j 0<m2.getD (j-1) 0:=by omega
     exact⟨(j-1,qlW m2 j),⟨ho.swap (by omega) hji hj9 hlt9,by simp only;omega⟩,by simp only;omega,by simp only;omega,rfl⟩
    ·rename_i h9;refine⟨(i+1,m2),⟨ho.done hji ?_,by simp only;omega,by simp only;omega⟩,by simp only;omega,rfl,rfl⟩;by_cases h0:j=0
     ·exact .inl h0
     ·right;have h0':(0:Int)<(j:Int):=by omega
      first|omega|(rcases h9 with h9|h9 <;> omega)|(simp only[h0',true_and,Int.not_lt] at h9;exact h9)
  ·repeat' first|assumption|(simp (disch:=first|assumption|omega|(simp;done)|(simp;omega)) only[go_sem,seval,yaa])|(with_reducible first|apply And.intro|intro _)|exact lexT|((try rw[qaa]);omega)
   refine qaK (r0:=.tup []) (H1:=[.row g 1 true (m.map (D.int .i64))]) ?_ ⟨m,hs.all (by omega),rfl⟩;simp only[go_sem,seval]
def Tryz.c_Len64 (x:Int) (h:0<=x/\x<=255):PureE prog 240 [.int .u64 x] (fun y=>∃ n:Int,y=dI n/\0<=n/\n<=255):=by
 refine qgq (E:=env 0) tok rfl 1000 func240 rfl rfl ntmps240 (by simp) fun ok=>?_
 simp only[go_sem,seval] at ok
 repeat' first|assumption|(simp (disch:=first|assumption|omega|(simp;done)|(simp;omega)) only[go_sem,seval,yaa])|(with_reducible first|apply And.intro|intro _)|exact lexT|((try rw[qaa]);omega)
 ·refine Nat.lt_of_lt_of_eq (m:=256) (by omega) (by decide)
 ·exact qlX _ _
 ·exact qlX _ _
 ·exact⟨_,rfl,_,rfl,qnH _ _⟩
def Tryz.c_Len (x:Int) (h:0<=x/\x<=255):PureE prog 228 [.int .u64 x] (fun y=>∃ n:Int,y=dI n/\0<=n/\n<=255):=by
 refine qgq (E:=env 0) tok rfl 1000 func228 rfl rfl ntmps228 (by simp) fun ok=>?_
 simp only[go_sem,seval] at ok
 repeat' first|assumption|(simp (disch:=first|assumption|omega|(simp;done)|(simp;omega)) only[go_sem,seval,yaa])|(with_reducible first|apply And.intro|intro _)|exact lexT|((try rw[qaa]);omega)
 refine qgn (c_Len64 x h) ?_;rintro y ⟨n,rfl,hn⟩
 repeat' first|assumption|(simp (disch:=first|assumption|omega|(simp;done)|(simp;omega)) only[go_sem,seval,yaa])|(with_reducible first|apply And.intro|intro _)|exact lexT|((try rw[qaa]);omega)
 exact⟨_,rfl,n,rfl,hn⟩
def Tryz.c_pdq (g:Nat) (l:List Int) (hl:l.length<=12) (lim:Int):ICall prog 227 [.sl 0 g 1 0 l.length,.d (dI 0),.d (dI l.length),.d (dI lim)] [.row g 1 true (l.map (D.int .i64))] (fun _ H'=>∃ m,SortTo l m l.length/\H'=[.row g 1 true (m.map (D.int .i64))]):=by
 refine qaz (E:=env 1) tok rfl 1000 func227 rfl rfl ntmps227 (by simp) ?_
 repeat' first|assumption|(simp (disch:=first|assumption|omega|(simp;done)|(simp;omega)) only[go_sem,seval,yaa])|(with_reducible first|apply And.intro|intro _)|exact lexT|((try rw[qaa]);omega)
 refine qgt (E:=env 1) tok 2 1000 1000 ?_;refine qa4 ?_;have hin:=c_insSort g l (by omega)
 repeat' first|assumption|(simp (disch:=first|assumption|omega|(simp;done)|(simp;omega)) only[go_sem,seval,yaa])|(with_reducible first|apply And.intro|intro _)|exact lexT|((try rw[qaa]);omega)
 refine qan hin [0] (by simp only[go_sem,seval]) ?_;rintro r0 H1 ⟨m,hm,rfl⟩
 repeat' first|assumption|(simp (disch:=first|assumption|omega|(simp;done)|(simp;omega)) only[go_sem,seval,yaa])|(with_reducible first|apply And.intro|intro _)|exact lexT|((try rw[qaa]);omega)
 refine qaK (r0:=.tup []) (H1:=[.row g 1 true (m.map (D.int .i64))]) ?_ ⟨m,hm,rfl⟩;simp only[go_sem,seval]
def Tryz.c_Sort (g:Nat) (l:List Int) (hl:l.length<=12):ICall prog 218 [.sl 0 g 1 0 l.length] [.row g 1 true (l.map (D.int .i64))] (fun _ H'=>∃ m,SortTo l m l.length/\H'=[.row g 1 true (m.map (D.int .i64))]):=by
 refine qaz (E:=env 1) tok rfl 1000 func218 rfl rfl ntmps218 (by simp) ?_
 repeat' first|assumption|(simp (disch:=first|assumption|omega|(simp;done)|(simp;omega)) only[go_sem,seval,yaa])|(with_reducible first|apply And.intro|intro _)|exact lexT|((try rw[qaa]);omega)
 ·rw[inK_u64];omega
 refine qgn (c_Len (l.length:Int) (by omega)) ?_;rintro y ⟨n,rfl,hn⟩
 repeat' first|assumption|(simp (disch:=first|assumption|omega|(simp;done)|(simp;omega)) only[go_sem,seval,yaa])|(with_reducible first|apply And.intro|intro _)|exact lexT|((try rw[qaa]);omega)
 refine qan (c_pdq g l hl n) [0] (by simp only[go_sem,seval]) ?_;rintro r0 H1 ⟨m,hm,rfl⟩
 repeat' first|assumption|(simp (disch:=first|assumption|omega|(simp;done)|(simp;omega)) only[go_sem,seval,yaa])|(with_reducible first|apply And.intro|intro _)|exact lexT|((try rw[qaa]);omega)
 refine qaK (r0:=.tup []) (H1:=[.row g 1 true (m.map (D.int .i64))]) ?_ ⟨m,hm,rfl⟩;simp only[go_sem,seval]
structure CmpOk (l m:List Int) (k q:Nat):Prop where
 len:m.length=l.length
 pre:m.take k=qeA l q
 kl:k=(qeA l q).length
 lt:k<q
 rest : ∀ p,q<=p+1->m.getD p 0=l.getD p 0
def CmpOk.same (h:CmpOk l m k q) (hq:q<l.length) (h0:0<q) (he:l.getD q 0=l.getD (q-1) 0):CmpOk l m k (q+1):=by
 have hd:=qeS h0 hq;rw[if_pos he] at hd;exact⟨h.len,by rw[hd];exact h.pre,by rw[hd];exact h.kl,by have:=h.lt;omega,fun p hp=>h.rest p (by omega)⟩
def CmpOk.put (h:CmpOk l m k q) (hq:q<l.length) (h0:0<q) (he:l.getD q 0≠l.getD (q-1) 0):CmpOk l (m.set k (l.getD q 0)) (k+1) (q+1):=by
 have hd:=qeS h0 hq;rw[if_neg he] at hd;have hkq:=h.lt;have hlen:=h.len;refine⟨by rw[yas];exact h.len,?_,by rw[hd,yae,<-h.kl];rfl,by omega,fun p hp=>?_⟩
 ·rw[hd,<-h.pre];apply List.ext_getElem?;intro p;rw[List.getElem?_take,List.getElem?_append,yaP];by_cases h1:p<k
  ·rw[if_pos (by omega),if_pos (by omega),List.getElem?_take,if_pos h1,List.getElem?_set,if_neg (by omega)]
  ·rw[if_neg (by omega : ¬ p<min k m.length)];by_cases h2:p=k
   ·subst h2;rw[if_pos (by omega),List.getElem?_set,if_pos rfl,if_pos (by omega),show p-min p m.length=0 by omega];rfl
   ·rw[if_neg (by omega)];simp[show min k m.length=k by omega];omega
 ·rw[qjd (by omega),if_neg (by omega)];exact h.rest p (by omega)
def CmpOk.start (hk:k<l.length) (h0:0<k) (hd:qeA l k=l.take k) (he:l.getD k 0=l.getD (k-1) 0):CmpOk l l k (k+1):=by
 have h:=qeS h0 hk;rw[if_pos he] at h;refine⟨rfl,by rw[h,hd],by rw[h,hd,yaP];omega,by omega,fun _ _=>rfl⟩
def qmP (hk:k<l.length) (h0:0<k) (hd:qeA l k=l.take k) (he:l.getD k 0≠l.getD (k-1) 0):qeA l (k+1)=l.take (k+1):=by
 have h:=qeS h0 hk;rw[if_neg he] at h;rw[h,hd,yaB hk];simp[List.getD,hk]
def Tryz.c_Compact (g:Nat) (l:List Int) (hl:l.length<=1000):ICall prog 219 [.sl 0 g 1 0 l.length] [.row g 1 true (l.map (D.int .i64))] (fun r H'=>∃ g',r=.sl 0 g' 1 0 (qbY l).length/\H'=[.row g' 1 true ((qbY l).map (D.int .i64))]):=by
 refine qaz (E:=env 1) tok rfl 1000 func219 rfl rfl ntmps219 (by simp) ?_
 repeat' first|assumption|(simp (disch:=first|assumption|omega|(simp;done)|(simp;omega)) only[go_sem,seval,yaa])|(with_reducible first|apply And.intro|intro _)|exact lexT|((try rw[qaa]);omega)
 ·rename_i h2;have hd:qbY l=l:=by
   match l,h2 with
   | [],_=>rfl
   | [x],_=>rfl
   | x::y::r,h2=>simp at h2;omega
  refine qaK (r0:=.sl 0 g 1 0 l.length) (H1:=[.row g 1 true (l.map (D.int .i64))]) ?_ ⟨g,by rw[hd],by rw[hd];rfl⟩;simp only[go_sem,seval]
 rename_i h2;refine qaw (E:=env 1) tok (σ:=Nat) (fun k=>[(3,.d (dI k)),(0,.sl 0 g 1 0 l.length)]) (fun _=>[.row g 1 true (l.map (D.int .i64))])
  (fun k=>1<=k/\k<=l.length/\qeA l k=l.take k) (fun k=>l.length-k) [] 1000 1000 ?_ ?_ ?_
 ·simp only[go_sem,seval]
 ·simp only[go_sem,seval];refine⟨1,⟨by omega,by omega,?_⟩,rfl⟩;rw[qor (by omega)];match l,h2 with
  | x::r,_=>rfl
 ·rintro k ⟨hk1,hkl,hd⟩;by_cases hlt:k<l.length
  ·have ek:((k:Int)-1).toNat=k-1:=by omega
   repeat' first|assumption|(simp (disch:=first|assumption|omega|(simp;done)|(simp;omega)) only[go_sem,seval,ek,yaa])|(with_reducible first|apply And.intro|intro _)|exact lexT|((try rw[qaa]);omega)
   ·rename_i h9;have en:((l.length:Int)-(k:Int)).toNat=l.length-k:=by omega
    rw[en];refine qaw (E:=env 1) tok (σ:=Nat×Nat×List Int) (fun s=>[(5,.d (dI s.1)),(4,.sl 0 g 1 k (l.length-k)),(3,.d (dI s.2.1)),(0,.sl 0 g 1 0 l.length)]) (fun s=>[.row g 1 true (s.2.2.map (D.int .i64))])
     (fun s=>1<=s.1/\s.1<=l.length-k/\CmpOk l s.2.2 s.2.1 (k+s.1)) (fun s=>l.length-s.1) [] 1000 1000 ?_ ?_ ?_
    ·simp only[go_sem,seval]
    ·simp only[go_sem,seval];exact⟨(1,k,l),⟨by simp,by simp only;omega,CmpOk.start hlt hk1 hd h9⟩,⟨rfl,rfl⟩,rfl⟩
    ·rintro⟨k2,kk,m⟩ ⟨hk21,hk22,hm⟩;simp only at hk21 hk22 hm;have hml:=hm.len;have hmlt:=hm.lt;by_cases hlt2:k2<l.length-k
     ·have e1:((k2:Int)-1).toNat=k2-1:=by omega
      have r1:=hm.rest (k+k2) (by omega);have r2:=hm.rest (k+(k2-1)) (by omega);have e2:k+(k2-1)=k+k2-1:=by omega
      have e3:k+k2+1=k+(k2+1):=by omega
      repeat' first|assumption|(simp (disch:=first|assumption|omega|(simp;done)|(simp;omega)) only[go_sem,seval,e1,r1,r2,yaa])|(with_reducible first|apply And.intro|intro _)|exact lexT|((try rw[qaa]);omega)
      ·rename_i h10;rw[e2] at h10;exact⟨(k2+1,kk+1,m.set kk (l.getD (k+k2) 0)),⟨by simp only;omega,by simp only;omega,by simp only;rw[<-e3];exact hm.put (by omega) (by omega) (by simpa using h10)⟩,by simp only;omega,⟨rfl,rfl⟩,rfl⟩
      ·rename_i h10;rw[e2] at h10;exact⟨(k2+1,kk,m),⟨by simp only;omega,by simp only;omega,by simp only;rw[<-e3];exact hm.same (by omega) (by omega) (by simpa using h10)⟩,by simp only;omega,⟨rfl,rfl⟩,rfl⟩
     ·obtain rfl:k2=l.length-k:=by omega
      have hke:k+(l.length-k)=l.length:=by omega
      rw[hke] at hm hmlt;have hpre:m.take kk=qbY l:=by rw[hm.pre,qhr]
      have hkd:(qbY l).length=kk:=by rw[<-qhr];exact hm.kl.symm
      repeat' first|assumption|(simp (disch:=first|assumption|omega|(simp;done)|(simp;omega)) only[go_sem,seval,yaa])|(with_reducible first|apply And.intro|intro _)|exact lexT|((try rw[qaa]);omega)
      refine qjJ (i:=0) (g:=g) (m:=kk) rfl rfl ?_;refine qbS ⟨g+1,by rw[hkd],?_⟩;have hsp:(VL.splice m kk (List.replicate ((l.length:Int)-(kk:Int)).toNat 0)).take kk=m.take kk:=by
       unfold VL.splice;rw[yar,List.take_append_of_le_length (by rw[yaP];omega),yaa (by rw[yaP];omega)]
      show [R.row (g+1) 1 (DP.own []) (List.take kk (List.map _ _))]=_
      rw[<-List.map_take,hsp,hpre]
   ·rename_i h9;exact⟨k+1,⟨by omega,by omega,qmP hlt hk1 hd h9⟩,by omega,rfl⟩
  ·obtain rfl:k=l.length:=by omega
   have hda:qbY l=l:=by rw[<-qhr,hd,yaA]
   repeat' first|assumption|(simp (disch:=first|assumption|omega|(simp;done)|(simp;omega)) only[go_sem,seval,yaa])|(with_reducible first|apply And.intro|intro _)|exact lexT|((try rw[qaa]);omega)
   refine qaK (r0:=.sl 0 g 1 0 l.length) (H1:=[.row g 1 true (l.map (D.int .i64))]) ?_ ⟨g,by rw[hda],by rw[hda];rfl⟩;simp only[go_sem,seval]
def Tryz.c_Grow (n:Nat) (hn:0<n/\n<=1000):ICall prog 226 [.d .nil,.d (dI n)] [] (fun r H'=>∃ g',r=.sl 0 g' 1 0 0/\H'=[.row g' 1 true []]):=by
 refine qaz (E:=env 0) tok rfl 1000 func226 rfl rfl ntmps226 (by simp) ?_
 repeat' first|assumption|(simp (disch:=first|assumption|omega|(simp;done)|(simp;omega)) only[go_sem,seval,yaa])|(with_reducible first|apply And.intro|intro _)|exact lexT|((try rw[qaa]);omega)
 refine qjJ (i:=0) (g:=0) (m:=0) rfl rfl ?_;exact qbS ⟨1,rfl,by simp⟩

def qr7 {n:Nat}{Po:I->List R->Prop}{H:List R}(hk:0<k) (h:Po (.sl H.length 0 k 0 0) (H ++ [.row 0 k true []])):endI n Po (.d .nil) H:=by
 refine⟨_,_,qd0 [(0,k,true)] ⟨rfl,by show 0<1;omega,hk,trivial⟩,rfl,?_⟩;exact h
def qqe {x y:List Int}{z:D}(h:i<2):([dIs x,dIs y]:List D).getD i z=dIs (if i=0 then x else y):=by
 match i,h with
 | 0,_|1,_=>rfl
def catN (x y:List Int):Nat->List Int
 | 0=>[]
 | 1=>x
 | _=>x++y
def Tryz.c_Grow0 (n:Nat) (hn:n<=1000):ICall prog 226 [.d .nil,.d (dI n)] [] (fun r H'=>∃ g',r=.sl 0 g' 1 0 0/\H'=[.row g' 1 true []]):=by
 by_cases h0:n=0
 ·subst h0;refine qaz (E:=env 0) tok rfl 1000 func226 rfl rfl ntmps226 (by simp) ?_
  repeat' first|assumption|(simp (disch:=first|assumption|omega|(simp;done)|(simp;omega)) only[go_sem,seval,yaa,qau])|(with_reducible first|apply And.intro|intro _)|exact lexT|((try rw[qaa]);omega)
  exact qr7 (by decide) ⟨0,rfl,rfl⟩
 ·exact c_Grow n ⟨by omega,hn⟩
def Tryz.c_Concat (x y:List Int) (hx:x.length<=100) (hy:y.length<=100):ICall prog 217 [.sl 0 0 1 0 2] [.row 0 1 false [dIs x,dIs y]] (fun r H'=>∃ g',r=.sl 1 g' 1 0 (x++y).length/\H'=[.row 0 1 false [dIs x,dIs y],.row g' 1 true ((x++y).map (D.int .i64))]):=by
 refine qaz (E:=env 1) tok rfl 1000 func217 rfl rfl ntmps217 (by simp) ?_
 repeat' first|assumption|(simp (disch:=first|assumption|omega|(simp;done)|(simp;omega)) only[go_sem,seval,yaa,qau])|(with_reducible first|apply And.intro|intro _)|exact lexT|((try rw[qaa]);omega)
 refine qaw (E:=env 1) tok (σ:=Nat) (fun i=>[(11,.d (dI i)),(10,.d (dI 2)),(9,.sl 0 0 1 0 2),(3,.d (dI (if i=0 then 0 else if i=1 then x.length else x.length+y.length:Nat))),(0,.sl 0 0 1 0 2)]) (fun _=>[.row 0 1 false [dIs x,dIs y]])
  (fun i=>i<=2) (fun i=>2-i) [] 1000 1000 ?_ ?_ ?_
 ·simp only[go_sem,seval]
 ·simp only[go_sem,seval];exact⟨0,by omega,rfl,rfl⟩
 ·intro i hi;by_cases hlt:i<2
  ·have hg:=fun z:D=>qqe (x:=x) (y:=y) (z:=z) hlt
   repeat' first|assumption|(simp (disch:=first|assumption|omega|(simp;done)|(simp;omega)) only[go_sem,seval,hg,yaa,qau])|(with_reducible first|apply And.intro|intro _)|exact lexT|((try rw[qaa]);omega)
   ·match i,hlt with
    | 0,_|1,_=>simp[qaa];omega
   ·refine⟨i+1,by omega,by omega,by omega,?_⟩;match i,hlt with
    | 0,_|1,_=>simp
  ·obtain rfl:i=2:=by omega
   repeat' first|assumption|(simp (disch:=first|assumption|omega|(simp;done)|(simp;omega)) only[go_sem,seval,yaa,qau])|(with_reducible first|apply And.intro|intro _)|exact lexT|((try rw[qaa]);omega)
   refine qan (c_Grow0 (x.length+y.length) (by omega)) [] (by simp only[go_sem,seval]) ?_;rintro r0 H1 ⟨g',rfl,rfl⟩;simp only[go_sem,seval]
   repeat' first|assumption|(simp (disch:=first|assumption|omega|(simp;done)|(simp;omega)) only[go_sem,seval,yaa,qau])|(with_reducible first|apply And.intro|intro _)|exact lexT|((try rw[qaa]);omega)
   refine qaw (E:=env 1) tok (σ:=Nat) (fun i=>[(27,.d (dI i)),(26,.d (dI 2)),(25,.sl 0 0 1 0 2),(6,.sl 1 (g'+i) 1 0 (catN x y i).length)]) (fun i=>[.row 0 1 false [dIs x,dIs y],.row (g'+i) 1 true ((catN x y i).map (D.int .i64))])
    (fun i=>i<=2) (fun i=>2-i) [] 1000 1000 ?_ ?_ ?_
   ·simp only[go_sem,seval]
   ·simp only[go_sem,seval];exact⟨0,by omega,⟨rfl,rfl,rfl⟩,rfl,rfl⟩
   ·intro i hi;by_cases hlt:i<2
    ·have hg:=fun z:D=>qqe (x:=x) (y:=y) (z:=z) hlt
     repeat' first|assumption|(simp (disch:=first|assumption|omega|(simp;done)|(simp;omega)) only[go_sem,seval,hg,yaa,qau])|(with_reducible first|apply And.intro|intro _)|exact lexT|((try rw[qaa]);omega)
     ·match i,hlt with
      | 0,_|1,_=>simp[catN];omega
     ·refine⟨i+1,by omega,by omega,⟨rfl,by omega,?_⟩,by omega,?_⟩
      ·match i,hlt with
       | 0,_|1,_=>simp[catN]
      ·match i,hlt with
       | 0,_|1,_=>simp[catN]
    ·obtain rfl:i=2:=by omega
     repeat' first|assumption|(simp (disch:=first|assumption|omega|(simp;done)|(simp;omega)) only[go_sem,seval,yaa,qau])|(with_reducible first|apply And.intro|intro _)|exact lexT|((try rw[qaa]);omega)
     exact qbS ⟨_,by simp[catN],rfl⟩
def Tryz.c_EqualJ (a b:List Int):Pure prog 222 [dIs a,dIs b] (.bool (decide (a=b))):=by
 refine qax func222 rfl ntmps222 fun ok=>?_
 simp only[go_sem,seval] at ok⊢;refine⟨fun h=>?_,fun hlen=>?_⟩
 ·simp only[false_eq_decide_iff];rintro rfl;exact h rfl
 refine qaw (E:=env 0) tok (σ:=Nat) (fun i=>[(11,.d (dIs a)),(12,.d (dI a.length)),(13,.d (dI i)),(0,.d (dIs a)),(1,.d (dIs b))]) (fun _=>[]) (fun i=>i<=a.length/\∀ j,j<i->a.getD j 0=b.getD j 0) (fun i=>a.length-i) [] 1000 1000 ?_ ?_ ?_
 ·simp only[go_sem,seval]
 ·simp only[go_sem,seval];exact⟨0,⟨by omega,by omega⟩,rfl⟩
 ·rintro i ⟨hi,hinv⟩;by_cases hlt:i<a.length
  ·repeat' first|assumption|(simp (disch:=first|assumption|omega|(simp;done)|(simp;omega)) only[go_sem,seval,yaa,qau])|(with_reducible first|apply And.intro|intro _)|exact lexT|((try rw[qaa]);omega)
   ·rename_i h1;simp only[false_eq_decide_iff];rintro rfl;exact h1 rfl
   ·rename_i h1;exact⟨i+1,⟨by omega,fun j hj=>by
     by_cases hji:j=i
     ·subst hji;exact h1
     ·exact hinv j (by omega)⟩,by omega,rfl⟩
  ·repeat' first|assumption|(simp (disch:=first|assumption|omega|(simp;done)|(simp;omega)) only[go_sem,seval,yaa,qau])|(with_reducible first|apply And.intro|intro _)|exact lexT|((try rw[qaa]);omega)
   simp only[true_eq_decide_iff];exact qda 0 hlen fun j hj=>hinv j (by omega)
def Tryz.c_joinCuts1 (z cut:List Int):Pure prog 221 [dIs z,.ptr [dIs cut]] (.bool (decide (z=cut))):=by
 refine qax func221 rfl ntmps221 fun ok=>?_
 simp only[go_sem,seval] at ok
 repeat' first|assumption|(simp (disch:=first|assumption|omega|(simp;done)|(simp;omega)) only[go_sem,seval,yaa,qau])|(with_reducible first|apply And.intro|intro _)|(refine qac (c_EqualJ z cut) ?_)|exact lexT|((try rw[qaa]);omega)
def Tryz.c_IndexFunc (l:List (List Int)) (cut:List Int) (hl:l.length<=1000):PureE prog 229 [dIss l,.fn 221 [.ptr [dIs cut]]] (fun y=>∃ n:Int,y=dI n/\(0<=n↔cut∈l)):=by
 have hq:=fun z=>c_joinCuts1 z cut
 refine qgq (E:=env 0) tok rfl 1000 func229 rfl rfl ntmps229 (by simp) fun ok=>?_
 simp only[go_sem,seval] at ok
 repeat' first|assumption|(simp (disch:=first|assumption|omega|(simp;done)|(simp;omega)) only[go_sem,seval,yaa,qau])|(with_reducible first|apply And.intro|intro _)|exact lexT|((try rw[qaa]);omega)
 refine qaw (E:=env 0) tok (σ:=Nat) (fun i=>[(8,.d (dI i)),(7,.d (dI l.length)),(6,.d (dIss l)),(0,.d (dIss l)),(1,.d (.fn 221 [.ptr [dIs cut]]))]) (fun _=>[])
  (fun i=>i<=l.length/\cut∉l.take i) (fun i=>l.length-i) [] 1000 1000 ?_ ?_ ?_
 ·simp only[go_sem,seval]
 ·simp only[go_sem,seval];exact⟨0,⟨by omega,by simp⟩,rfl⟩
 ·rintro i ⟨hi,hinv⟩;by_cases hlt:i<l.length
  ·have hts:l.take (i+1)=l.take i ++ [l.getD i []]:=by simpa using qaT (f:=fun x:List Int=>x) [] hlt
   have hmm:=qad hlt (z:=([]:List Int));generalize hz9:l.getD i []=z at *
   have hqz:=hq z
   repeat' first|assumption|(simp (disch:=first|assumption|omega|(simp;done)|(simp;omega)) only[go_sem,seval,hz9,yaa,qau])|(with_reducible first|apply And.intro|intro _)|(refine qac hqz ?_)|exact lexT|((try rw[qaa]);omega)
   ·rename_i h1;exact⟨_,rfl,_,rfl,by rw[<-h1];exact⟨fun _=>hmm,fun _=>by omega⟩⟩
   ·rename_i h1;refine⟨i+1,⟨by omega,?_⟩,by omega,rfl⟩;rw[hts,yax,yaF];rintro(h2|h2)
    ·exact hinv h2
    ·exact h1 h2.symm
  ·obtain rfl:i=l.length:=by omega
   rw[yaA] at hinv
   repeat' first|assumption|(simp (disch:=first|assumption|omega|(simp;done)|(simp;omega)) only[go_sem,seval,yaa,qau])|(with_reducible first|apply And.intro|intro _)|exact lexT|((try rw[qaa]);omega)
   exact⟨_,rfl,_,rfl,⟨fun h=>absurd h (by decide),fun h=>absurd h hinv⟩⟩
def Tryz.c_ContainsFunc (l:List (List Int)) (cut:List Int) (hl:l.length<=1000):Pure prog 220 [dIss l,.fn 221 [.ptr [dIs cut]]] (.bool (decide (cut∈l))):=by
 refine qax func220 rfl ntmps220 fun ok=>?_
 simp only[go_sem,seval] at ok
 repeat' first|assumption|(simp (disch:=first|assumption|omega|(simp;done)|(simp;omega)) only[go_sem,seval,yaa,qau])|(with_reducible first|apply And.intro|intro _)|exact lexT|((try rw[qaa]);omega)
 refine qgn (c_IndexFunc l cut hl) ?_;rintro y ⟨n,rfl,hn⟩
 repeat' first|assumption|(simp (disch:=first|assumption|omega|(simp;done)|(simp;omega)) only[go_sem,seval,yaa,qau])|(with_reducible first|apply And.intro|intro _)|exact lexT|((try rw[qaa]);omega)
 exact decide_eq_decide.2 hn
end Go.Proofs

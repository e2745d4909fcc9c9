/- Contracts: sorting and joining short lists. Conditions: none; lemmas. -/
import Derived.Test.YteikeianenfhaaaGreatC90
import Derived.Test.YteikeianenfhaaaGreatC6
set_option maxRecDepth 20000
set_option linter.unusedVariables false
set_option linter.unusedSimpArgs false
namespace Go.Proofs
open Go Go.VL
theorem SortTo.all {l m:List Int}{i:Nat}(h:SortTo l m i) (hi:l.length<=i):SortTo l m l.length:=⟨h.1,fun p q hpq hq=>h.2 p q hpq (by omega)⟩
theorem SortTo.len {l m:List Int}{i:Nat}(h:SortTo l m i):m.length=l.length:=h.1.length_eq
theorem qmZ (s:ByteArray) (i:Nat):0<=qiX s i/\qiX s i<=255:=by
 unfold qiX;split
 ·rename_i b _;have:=b.toNat_lt;omega
 ·omega
theorem qlf (s:ByteArray) (i:Nat):InK .i64 (qiX s i):=by
 have:=qmZ s i;rw[qad];omega
theorem SortTo.self (l:List Int):SortTo l l 1:=⟨List.Perm.refl _,fun p q hpq hq=>by omega⟩
theorem Tryz.c_isNaN (x:Int):Pure Tryz.prog 246 [dI x] (.bool false):=by
 refine qas (E:=Tryz.env 0) Tryz.tok rfl 1000 Tryz.func246 rfl rfl Tryz.ntmps246 (by simp) fun ok=>?_
 simp only[go_sem,seval] at ok;simp only[go_sem,seval]
theorem Tryz.c_Less (x y:Int):Pure Tryz.prog 236 [dI x,dI y] (.bool (decide (x<y))):=by
 have hx:=Tryz.c_isNaN x;refine qas (E:=Tryz.env 0) Tryz.tok rfl 1000 Tryz.func236 rfl rfl Tryz.ntmps236 (by simp) fun ok=>?_
 simp only[go_sem,seval] at ok;simp only[go_sem,seval]
 repeat' first|assumption|(simp (disch:=first|assumption|omega|(simp;done)|(simp;omega)) only[qaa,qac,yaa,qab];try simp only[go_sem,seval])|(with_reducible first|refine And.intro ?_ ?_|intro _)|(refine qaj hx ?_;simp only[go_sem,seval])|(refine qaZ (fun _=>Tryz.c_isNaN _) ?_;simp only[go_sem,seval])|((with_reducible (show Region.lexB _ _=true));kernel_rfl)|((try rw[qad]);omega)
theorem Tryz.c_insSort (g:Nat) (l:List Int) (hl:l.length<=1000):ICall Tryz.prog 230 [.sl 0 g 1 0 l.length,.d (dI 0),.d (dI l.length)] [.row g 1 true (l.map (D.int .i64))] (fun _ H'=>∃ m,SortTo l m l.length/\H'=[.row g 1 true (m.map (D.int .i64))]):=by
 refine qaO (E:=Tryz.env 1) Tryz.tok rfl 1000 Tryz.func230 rfl rfl Tryz.ntmps230 (by simp) ?_;simp only[go_sem,seval]
 repeat' first|assumption|(simp (disch:=first|assumption|omega|(simp;done)|(simp;omega)) only[qaa,qac,yaa,qab];try simp only[go_sem,seval])|(with_reducible first|refine And.intro ?_ ?_|intro _)|((with_reducible (show Region.lexB _ _=true));kernel_rfl)|((try rw[qad]);omega)
 refine qaF (E:=Tryz.env 1) Tryz.tok (σ:=Nat×List Int) (fun s=>[(6,.d (dI s.1)),(0,.sl 0 g 1 0 l.length),(1,.d (dI 0)),(2,.d (dI l.length))]) (fun s=>[.row g 1 true (s.2.map (D.int .i64))])
  (fun s=>SortTo l s.2 s.1/\1<=s.1/\s.1<=1001) (fun s=>1001-s.1) [] 1000 1000 ?_ ?_ ?_
 ·simp only[go_sem,seval]
 ·simp only[go_sem,seval];exact⟨(1,l),⟨SortTo.self l,by simp,by simp⟩,rfl,rfl⟩
 ·rintro⟨i,m⟩ ⟨hs,hi1,hi2⟩;simp only at hs hi1 hi2;have hlen:=hs.len;by_cases hlt:i<l.length
  ·simp only[go_sem,seval]
   repeat' first|assumption|(simp (disch:=first|assumption|omega|(simp;done)|(simp;omega)) only[qaa,qac,yaa,qab];try simp only[go_sem,seval])|(with_reducible first|refine And.intro ?_ ?_|intro _)|((with_reducible (show Region.lexB _ _=true));kernel_rfl)|((try rw[qad]);omega)
   refine qaF (E:=Tryz.env 1) Tryz.tok (σ:=Nat×List Int) (fun s=>[(7,.d (dI s.1)),(6,.d (dI i)),(0,.sl 0 g 1 0 l.length),(1,.d (dI 0)),(2,.d (dI l.length))]) (fun s=>[.row g 1 true (s.2.map (D.int .i64))])
    (fun s=>InsOk l s.2 i s.1/\s.1<=i) (fun s=>s.1) [] 1000 1000 ?_ ?_ ?_
   ·simp only[go_sem,seval]
   ·simp only[go_sem,seval];exact⟨(i,m),⟨InsOk.start hs,yad _⟩,rfl,rfl⟩
   ·rintro⟨j,m2⟩ ⟨ho,hji⟩;simp only at ho hji;have hlen2:m2.length=l.length:=ho.perm.length_eq;have hle:=Tryz.c_Less (m2.getD j 0) (m2.getD (j-1) 0);have ej:((j:Int)-1).toNat=j-1:=by omega
    simp only[go_sem,seval,ej]
    repeat' first|assumption|(simp (disch:=first|assumption|omega|(simp;done)|(simp;omega)) only[qaa,qac,yaa,qab];try simp only[go_sem,seval,ej])|(with_reducible first|refine And.intro ?_ ?_|intro _)|(refine qaZ (fun _=>hle) ?_;simp only[go_sem,seval,ej])|(refine qb6 (fun _=>⟨hle,trivial⟩) ?_;simp only[go_sem,seval,ej])|((with_reducible (show Region.lexB _ _=true));kernel_rfl)|((try rw[qad]);omega)
    ·rename_i h9;refine qaL (E:=Tryz.env 1) Tryz.tok Tryz.follows 1000 1000 [15,17] (.fst 0 (.fst 1 (.fst 2 (.fst 3 (.fst 4 (.fst 5 (.fst 6 (.fst 7 (.fst 8 (.fst 10 (.fst 11 (.fst 12 (.fst 9 (.fst 13 (.fst 14 (.one 15 (.fst 16 (.one 17 (.done))))))))))))))))))) (by kernel_rfl) ?_;simp only[go_sem,seval,ej]
     repeat' first|assumption|(simp (disch:=first|assumption|omega|(simp;done)|(simp;omega)) only[qaa,qac,yaa,qab];try simp only[go_sem,seval,ej])|(with_reducible first|refine And.intro ?_ ?_|intro _)|((with_reducible (show Region.lexB _ _=true));kernel_rfl)|((try rw[qad]);omega)
     have hj9:0<j:=by omega
     have hlt9:m2.getD j 0<m2.getD (j-1) 0:=by omega
     exact⟨(j-1,qle m2 j),⟨ho.swap (by omega) hji hj9 hlt9,by simp only;omega⟩,by simp only;omega,by simp only;omega,rfl⟩
    ·rename_i h9;refine⟨(i+1,m2),⟨ho.done hji ?_,by simp only;omega,by simp only;omega⟩,by simp only;omega,rfl,rfl⟩;by_cases h0:j=0
     ·exact .inl h0
     ·right;have h0':(0:Int)<(j:Int):=by omega
      first|omega|(rcases h9 with h9|h9 <;> omega)|(simp only[h0',true_and,Int.not_lt] at h9;exact h9)
  ·simp only[go_sem,seval]
   repeat' first|assumption|(simp (disch:=first|assumption|omega|(simp;done)|(simp;omega)) only[qaa,qac,yaa,qab];try simp only[go_sem,seval])|(with_reducible first|refine And.intro ?_ ?_|intro _)|((with_reducible (show Region.lexB _ _=true));kernel_rfl)|((try rw[qad]);omega)
   refine qcu (r0:=.tup []) (H1:=[.row g 1 true (m.map (D.int .i64))]) ?_ ⟨m,hs.all (by omega),rfl⟩;simp only[go_sem,seval]
theorem Tryz.c_Len64 (x:Int) (h:0<=x/\x<=255):PureE Tryz.prog 240 [.int .u64 x] (fun y=>∃ n:Int,y=dI n/\0<=n/\n<=255):=by
 refine qf8 (E:=Tryz.env 0) Tryz.tok rfl 1000 Tryz.func240 rfl rfl Tryz.ntmps240 (by simp) fun ok=>?_
 simp only[go_sem,seval] at ok;simp only[go_sem,seval]
 repeat' first|assumption|(simp (disch:=first|assumption|omega|(simp;done)|(simp;omega)) only[qaa,qac,yaa,qab];try simp only[go_sem,seval])|(with_reducible first|refine And.intro ?_ ?_|intro _)|((with_reducible (show Region.lexB _ _=true));kernel_rfl)|((try rw[qad]);omega)
 ·refine Nat.lt_of_lt_of_eq (m:=256) (by omega) (by decide)
 ·exact qlf _ _
 ·exact qlf _ _
 ·exact⟨_,rfl,_,rfl,qmZ _ _⟩
theorem Tryz.c_Len (x:Int) (h:0<=x/\x<=255):PureE Tryz.prog 228 [.int .u64 x] (fun y=>∃ n:Int,y=dI n/\0<=n/\n<=255):=by
 refine qf8 (E:=Tryz.env 0) Tryz.tok rfl 1000 Tryz.func228 rfl rfl Tryz.ntmps228 (by simp) fun ok=>?_
 simp only[go_sem,seval] at ok;simp only[go_sem,seval]
 repeat' first|assumption|(simp (disch:=first|assumption|omega|(simp;done)|(simp;omega)) only[qaa,qac,yaa,qab];try simp only[go_sem,seval])|(with_reducible first|refine And.intro ?_ ?_|intro _)|((with_reducible (show Region.lexB _ _=true));kernel_rfl)|((try rw[qad]);omega)
 refine qf4 (Tryz.c_Len64 x h) ?_;rintro y ⟨n,rfl,hn⟩;simp only[go_sem,seval]
 repeat' first|assumption|(simp (disch:=first|assumption|omega|(simp;done)|(simp;omega)) only[qaa,qac,yaa,qab];try simp only[go_sem,seval])|(with_reducible first|refine And.intro ?_ ?_|intro _)|((with_reducible (show Region.lexB _ _=true));kernel_rfl)|((try rw[qad]);omega)
 exact⟨_,rfl,n,rfl,hn⟩
theorem Tryz.c_pdq (g:Nat) (l:List Int) (hl:l.length<=12) (lim:Int):ICall Tryz.prog 227 [.sl 0 g 1 0 l.length,.d (dI 0),.d (dI l.length),.d (dI lim)] [.row g 1 true (l.map (D.int .i64))] (fun _ H'=>∃ m,SortTo l m l.length/\H'=[.row g 1 true (m.map (D.int .i64))]):=by
 refine qaO (E:=Tryz.env 1) Tryz.tok rfl 1000 Tryz.func227 rfl rfl Tryz.ntmps227 (by simp) ?_;simp only[go_sem,seval]
 repeat' first|assumption|(simp (disch:=first|assumption|omega|(simp;done)|(simp;omega)) only[qaa,qac,yaa,qab];try simp only[go_sem,seval])|(with_reducible first|refine And.intro ?_ ?_|intro _)|((with_reducible (show Region.lexB _ _=true));kernel_rfl)|((try rw[qad]);omega)
 refine qga (E:=Tryz.env 1) Tryz.tok 2 1000 1000 ?_;refine qa5 ?_;have hin:=Tryz.c_insSort g l (by omega);simp only[go_sem,seval]
 repeat' first|assumption|(simp (disch:=first|assumption|omega|(simp;done)|(simp;omega)) only[qaa,qac,yaa,qab];try simp only[go_sem,seval])|(with_reducible first|refine And.intro ?_ ?_|intro _)|((with_reducible (show Region.lexB _ _=true));kernel_rfl)|((try rw[qad]);omega)
 refine qaB hin [0] (by simp only[go_sem,seval]) ?_;rintro r0 H1 ⟨m,hm,rfl⟩;simp only[go_sem,seval]
 repeat' first|assumption|(simp (disch:=first|assumption|omega|(simp;done)|(simp;omega)) only[qaa,qac,yaa,qab];try simp only[go_sem,seval])|(with_reducible first|refine And.intro ?_ ?_|intro _)|((with_reducible (show Region.lexB _ _=true));kernel_rfl)|((try rw[qad]);omega)
 refine qcu (r0:=.tup []) (H1:=[.row g 1 true (m.map (D.int .i64))]) ?_ ⟨m,hm,rfl⟩;simp only[go_sem,seval]
theorem Tryz.c_Sort (g:Nat) (l:List Int) (hl:l.length<=12):ICall Tryz.prog 218 [.sl 0 g 1 0 l.length] [.row g 1 true (l.map (D.int .i64))] (fun _ H'=>∃ m,SortTo l m l.length/\H'=[.row g 1 true (m.map (D.int .i64))]):=by
 refine qaO (E:=Tryz.env 1) Tryz.tok rfl 1000 Tryz.func218 rfl rfl Tryz.ntmps218 (by simp) ?_;simp only[go_sem,seval]
 repeat' first|assumption|(simp (disch:=first|assumption|omega|(simp;done)|(simp;omega)) only[qaa,qac,yaa,qab];try simp only[go_sem,seval])|(with_reducible first|refine And.intro ?_ ?_|intro _)|((with_reducible (show Region.lexB _ _=true));kernel_rfl)|((try rw[qad]);omega)
 ·rw[inK_u64];omega
 refine qf4 (Tryz.c_Len (l.length:Int) (by omega)) ?_;rintro y ⟨n,rfl,hn⟩;simp only[go_sem,seval]
 repeat' first|assumption|(simp (disch:=first|assumption|omega|(simp;done)|(simp;omega)) only[qaa,qac,yaa,qab];try simp only[go_sem,seval])|(with_reducible first|refine And.intro ?_ ?_|intro _)|((with_reducible (show Region.lexB _ _=true));kernel_rfl)|((try rw[qad]);omega)
 refine qaB (Tryz.c_pdq g l hl n) [0] (by simp only[go_sem,seval]) ?_;rintro r0 H1 ⟨m,hm,rfl⟩;simp only[go_sem,seval]
 repeat' first|assumption|(simp (disch:=first|assumption|omega|(simp;done)|(simp;omega)) only[qaa,qac,yaa,qab];try simp only[go_sem,seval])|(with_reducible first|refine And.intro ?_ ?_|intro _)|((with_reducible (show Region.lexB _ _=true));kernel_rfl)|((try rw[qad]);omega)
 refine qcu (r0:=.tup []) (H1:=[.row g 1 true (m.map (D.int .i64))]) ?_ ⟨m,hm,rfl⟩;simp only[go_sem,seval]
structure CmpOk (l m:List Int) (k q:Nat):Prop where
 len:m.length=l.length
 pre:m.take k=qei l q
 kl:k=(qei l q).length
 lt:k<q
 rest : ∀ p,q<=p+1->m.getD p 0=l.getD p 0
theorem CmpOk.same {l m:List Int}{k q:Nat}(h:CmpOk l m k q) (hq:q<l.length) (h0:0<q) (he:l.getD q 0=l.getD (q-1) 0):CmpOk l m k (q+1):=by
 have hd:=qeD h0 hq;rw[if_pos he] at hd;exact⟨h.len,by rw[hd];exact h.pre,by rw[hd];exact h.kl,by have:=h.lt;omega,fun p hp=>h.rest p (by omega)⟩
theorem CmpOk.put {l m:List Int}{k q:Nat}(h:CmpOk l m k q) (hq:q<l.length) (h0:0<q) (he:l.getD q 0≠l.getD (q-1) 0):CmpOk l (m.set k (l.getD q 0)) (k+1) (q+1):=by
 have hd:=qeD h0 hq;rw[if_neg he] at hd;have hkq:=h.lt;have hlen:=h.len;refine⟨by rw[yar];exact h.len,?_,by rw[hd,yag,<-h.kl];rfl,by omega,fun p hp=>?_⟩
 ·rw[hd,<-h.pre];apply List.ext_getElem?;intro p;rw[List.getElem?_take,List.getElem?_append,yaR];by_cases h1:p<k
  ·rw[if_pos (by omega),if_pos (by omega),List.getElem?_take,if_pos h1,List.getElem?_set,if_neg (by omega)]
  ·rw[if_neg (by omega : ¬ p<min k m.length)];by_cases h2:p=k
   ·subst h2;rw[if_pos (by omega),List.getElem?_set,if_pos rfl,if_pos (by omega),show p-min p m.length=0 by omega];rfl
   ·rw[if_neg (by omega)];simp[show min k m.length=k by omega];omega
 ·rw[qiw (by omega),if_neg (by omega)];exact h.rest p (by omega)
theorem CmpOk.start {l:List Int}{k:Nat}(hk:k<l.length) (h0:0<k) (hd:qei l k=l.take k) (he:l.getD k 0=l.getD (k-1) 0):CmpOk l l k (k+1):=by
 have h:=qeD h0 hk;rw[if_pos he] at h;refine⟨rfl,by rw[h,hd],by rw[h,hd,yaR];omega,by omega,fun _ _=>rfl⟩
theorem qmj {l:List Int}{k:Nat}(hk:k<l.length) (h0:0<k) (hd:qei l k=l.take k) (he:l.getD k 0≠l.getD (k-1) 0):qei l (k+1)=l.take (k+1):=by
 have h:=qeD h0 hk;rw[if_neg he] at h;rw[h,hd,yaL hk];simp[List.getD,hk]
theorem Tryz.c_Compact (g:Nat) (l:List Int) (hl:l.length<=1000):ICall Tryz.prog 219 [.sl 0 g 1 0 l.length] [.row g 1 true (l.map (D.int .i64))] (fun r H'=>∃ g',r=.sl 0 g' 1 0 (qbX l).length/\H'=[.row g' 1 true ((qbX l).map (D.int .i64))]):=by
 refine qaO (E:=Tryz.env 1) Tryz.tok rfl 1000 Tryz.func219 rfl rfl Tryz.ntmps219 (by simp) ?_;simp only[go_sem,seval]
 repeat' first|assumption|(simp (disch:=first|assumption|omega|(simp;done)|(simp;omega)) only[qaa,qac,yaa,qab];try simp only[go_sem,seval])|(with_reducible first|refine And.intro ?_ ?_|intro _)|((with_reducible (show Region.lexB _ _=true));kernel_rfl)|((try rw[qad]);omega)
 ·rename_i h2;have hd:qbX l=l:=by
   match l,h2 with
   | [],_=>rfl
   | [x],_=>rfl
   | x::y::r,h2=>simp at h2;omega
  refine qcu (r0:=.sl 0 g 1 0 l.length) (H1:=[.row g 1 true (l.map (D.int .i64))]) ?_ ⟨g,by rw[hd],by rw[hd];rfl⟩;simp only[go_sem,seval]
 rename_i h2;refine qaF (E:=Tryz.env 1) Tryz.tok (σ:=Nat) (fun k=>[(3,.d (dI k)),(0,.sl 0 g 1 0 l.length)]) (fun _=>[.row g 1 true (l.map (D.int .i64))])
  (fun k=>1<=k/\k<=l.length/\qei l k=l.take k) (fun k=>l.length-k) [] 1000 1000 ?_ ?_ ?_
 ·simp only[go_sem,seval]
 ·simp only[go_sem,seval];refine⟨1,⟨by omega,by omega,?_⟩,rfl⟩;rw[qnJ (by omega)];match l,h2 with
  | x::r,_=>rfl
 ·rintro k ⟨hk1,hkl,hd⟩;by_cases hlt:k<l.length
  ·have ek:((k:Int)-1).toNat=k-1:=by omega
   simp only[go_sem,seval,ek]
   repeat' first|assumption|(simp (disch:=first|assumption|omega|(simp;done)|(simp;omega)) only[qaa,qac,yaa,qab];try simp only[go_sem,seval,ek])|(with_reducible first|refine And.intro ?_ ?_|intro _)|((with_reducible (show Region.lexB _ _=true));kernel_rfl)|((try rw[qad]);omega)
   ·rename_i h9;have en:((l.length:Int)-(k:Int)).toNat=l.length-k:=by omega
    rw[en];refine qaF (E:=Tryz.env 1) Tryz.tok (σ:=Nat×Nat×List Int) (fun s=>[(5,.d (dI s.1)),(4,.sl 0 g 1 k (l.length-k)),(3,.d (dI s.2.1)),(0,.sl 0 g 1 0 l.length)]) (fun s=>[.row g 1 true (s.2.2.map (D.int .i64))])
     (fun s=>1<=s.1/\s.1<=l.length-k/\CmpOk l s.2.2 s.2.1 (k+s.1)) (fun s=>l.length-s.1) [] 1000 1000 ?_ ?_ ?_
    ·simp only[go_sem,seval]
    ·simp only[go_sem,seval];exact⟨(1,k,l),⟨by simp,by simp only;omega,CmpOk.start hlt hk1 hd h9⟩,⟨rfl,rfl⟩,rfl⟩
    ·rintro⟨k2,kk,m⟩ ⟨hk21,hk22,hm⟩;simp only at hk21 hk22 hm;have hml:=hm.len;have hmlt:=hm.lt;by_cases hlt2:k2<l.length-k
     ·have e1:((k2:Int)-1).toNat=k2-1:=by omega
      have r1:=hm.rest (k+k2) (by omega);have r2:=hm.rest (k+(k2-1)) (by omega);have e2:k+(k2-1)=k+k2-1:=by omega
      have e3:k+k2+1=k+(k2+1):=by omega
      simp only[go_sem,seval,e1,r1,r2]
      repeat' first|assumption|(simp (disch:=first|assumption|omega|(simp;done)|(simp;omega)) only[qaa,qac,yaa,qab];try simp only[go_sem,seval,e1,r1,r2])|(with_reducible first|refine And.intro ?_ ?_|intro _)|((with_reducible (show Region.lexB _ _=true));kernel_rfl)|((try rw[qad]);omega)
      ·rename_i h10;rw[e2] at h10;exact⟨(k2+1,kk+1,m.set kk (l.getD (k+k2) 0)),⟨by simp only;omega,by simp only;omega,by simp only;rw[<-e3];exact hm.put (by omega) (by omega) (by simpa using h10)⟩,by simp only;omega,⟨rfl,rfl⟩,rfl⟩
      ·rename_i h10;rw[e2] at h10;exact⟨(k2+1,kk,m),⟨by simp only;omega,by simp only;omega,by simp only;rw[<-e3];exact hm.same (by omega) (by omega) (by simpa using h10)⟩,by simp only;omega,⟨rfl,rfl⟩,rfl⟩
     ·obtain rfl:k2=l.length-k:=by omega
      have hke:k+(l.length-k)=l.length:=by omega
      rw[hke] at hm hmlt;have hpre:m.take kk=qbX l:=by rw[hm.pre,qgY]
      have hkd:(qbX l).length=kk:=by rw[<-qgY];exact hm.kl.symm
      simp only[go_sem,seval]
      repeat' first|assumption|(simp (disch:=first|assumption|omega|(simp;done)|(simp;omega)) only[qaa,qac,yaa,qab];try simp only[go_sem,seval])|(with_reducible first|refine And.intro ?_ ?_|intro _)|((with_reducible (show Region.lexB _ _=true));kernel_rfl)|((try rw[qad]);omega)
      refine qjq (i:=0) (g:=g) (m:=kk) rfl rfl ?_;refine qci ⟨g+1,by rw[hkd],?_⟩;have hsp:(VL.splice m kk (List.replicate ((l.length:Int)-(kk:Int)).toNat 0)).take kk=m.take kk:=by
       unfold VL.splice;rw[yaq,List.take_append_of_le_length (by rw[yaR];omega),yaa (by rw[yaR];omega)]
      show [R.row (g+1) 1 (DP.own []) (List.take kk (List.map _ _))]=_
      rw[<-List.map_take,hsp,hpre]
   ·rename_i h9;exact⟨k+1,⟨by omega,by omega,qmj hlt hk1 hd h9⟩,by omega,rfl⟩
  ·obtain rfl:k=l.length:=by omega
   have hda:qbX l=l:=by rw[<-qgY,hd,yav]
   simp only[go_sem,seval]
   repeat' first|assumption|(simp (disch:=first|assumption|omega|(simp;done)|(simp;omega)) only[qaa,qac,yaa,qab];try simp only[go_sem,seval])|(with_reducible first|refine And.intro ?_ ?_|intro _)|((with_reducible (show Region.lexB _ _=true));kernel_rfl)|((try rw[qad]);omega)
   refine qcu (r0:=.sl 0 g 1 0 l.length) (H1:=[.row g 1 true (l.map (D.int .i64))]) ?_ ⟨g,by rw[hda],by rw[hda];rfl⟩;simp only[go_sem,seval]
theorem Tryz.c_Grow (n:Nat) (hn:0<n/\n<=1000):ICall Tryz.prog 226 [.d .nil,.d (dI n)] [] (fun r H'=>∃ g',r=.sl 0 g' 1 0 0/\H'=[.row g' 1 true []]):=by
 refine qaO (E:=Tryz.env 0) Tryz.tok rfl 1000 Tryz.func226 rfl rfl Tryz.ntmps226 (by simp) ?_;simp only[go_sem,seval]
 repeat' first|assumption|(simp (disch:=first|assumption|omega|(simp;done)|(simp;omega)) only[qaa,qac,yaa,qab];try simp only[go_sem,seval])|(with_reducible first|refine And.intro ?_ ?_|intro _)|((with_reducible (show Region.lexB _ _=true));kernel_rfl)|((try rw[qad]);omega)
 refine qjq (i:=0) (g:=0) (m:=0) rfl rfl ?_;exact qci ⟨1,rfl,by simp⟩
end Go.Proofs

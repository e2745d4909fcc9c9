/- Contracts, plain definitions and lemmas. Conditions: none; lemmas. -/
import Derived.Test.YteikeianenfhaaaGreatC90
import Derived.Test.YteikeianenfhaaaGreatC91
import Derived.Test.YteikeianenfhaaaGreatC6
set_option maxRecDepth 20000
set_option linter.unusedSimpArgs false
set_option linter.unusedVariables false
namespace Go.Proofs
open Go Go.VL
theorem qq7 {n:Nat}{k:Nat}{Po:I->List R->Prop}{H:List R}(hk:0<k) (h:Po (.sl H.length 0 k 0 0) (H ++ [.row 0 k true []])):endI n Po (.d .nil) H:=by
 refine⟨_,_,qdS [(0,k,true)] ⟨rfl,by show 0<1;omega,hk,trivial⟩,rfl,?_⟩;exact h
theorem qpd {x y:List Int}{i:Nat}{z:D}(h:i<2):([dIs x,dIs y]:List D).getD i z=dIs (if i=0 then x else y):=by
 match i,h with
 | 0,_|1,_=>rfl
def catN (x y:List Int):Nat->List Int
 | 0=>[]
 | 1=>x
 | _=>x++y
theorem Tryz.c_Grow0 (n:Nat) (hn:n<=1000):ICall Tryz.prog 226 [.d .nil,.d (dI n)] [] (fun r H'=>∃ g',r=.sl 0 g' 1 0 0/\H'=[.row g' 1 true []]):=by
 by_cases h0:n=0
 ·subst h0;refine qaO (E:=Tryz.env 0) Tryz.tok rfl 1000 Tryz.func226 rfl rfl Tryz.ntmps226 (by simp) ?_;simp only[go_sem,seval]
  repeat' first|assumption|(simp (disch:=first|assumption|omega|(simp;done)|(simp;omega)) only[qaa,qac,yaa,qab,qae,qaf];try simp only[go_sem,seval])|(with_reducible first|refine And.intro ?_ ?_|intro _)|((with_reducible (show Region.lexB _ _=true));kernel_rfl)|((try rw[qad]);omega)
  exact qq7 (by decide) ⟨0,rfl,rfl⟩
 ·exact Tryz.c_Grow n ⟨by omega,hn⟩
theorem Tryz.c_Concat (x y:List Int) (hx:x.length<=100) (hy:y.length<=100):ICall Tryz.prog 217 [.sl 0 0 1 0 2] [.row 0 1 false [dIs x,dIs y]] (fun r H'=>∃ g',r=.sl 1 g' 1 0 (x++y).length/\H'=[.row 0 1 false [dIs x,dIs y],.row g' 1 true ((x++y).map (D.int .i64))]):=by
 refine qaO (E:=Tryz.env 1) Tryz.tok rfl 1000 Tryz.func217 rfl rfl Tryz.ntmps217 (by simp) ?_;simp only[go_sem,seval]
 repeat' first|assumption|(simp (disch:=first|assumption|omega|(simp;done)|(simp;omega)) only[qaa,qac,yaa,qab,qae,qaf];try simp only[go_sem,seval])|(with_reducible first|refine And.intro ?_ ?_|intro _)|((with_reducible (show Region.lexB _ _=true));kernel_rfl)|((try rw[qad]);omega)
 refine qaF (E:=Tryz.env 1) Tryz.tok (σ:=Nat) (fun i=>[(11,.d (dI i)),(10,.d (dI 2)),(9,.sl 0 0 1 0 2),(3,.d (dI (if i=0 then 0 else if i=1 then x.length else x.length+y.length:Nat))),(0,.sl 0 0 1 0 2)]) (fun _=>[.row 0 1 false [dIs x,dIs y]])
  (fun i=>i<=2) (fun i=>2-i) [] 1000 1000 ?_ ?_ ?_
 ·simp only[go_sem,seval]
 ·simp only[go_sem,seval];exact⟨0,by omega,rfl,rfl⟩
 ·intro i hi;by_cases hlt:i<2
  ·have hg:=fun z:D=>qpd (x:=x) (y:=y) (z:=z) hlt
   simp only[go_sem,seval,hg]
   repeat' first|assumption|(simp (disch:=first|assumption|omega|(simp;done)|(simp;omega)) only[qaa,qac,yaa,qab,qae,qaf];try simp only[go_sem,seval,hg])|(with_reducible first|refine And.intro ?_ ?_|intro _)|((with_reducible (show Region.lexB _ _=true));kernel_rfl)|((try rw[qad]);omega)
   ·match i,hlt with
    | 0,_|1,_=>simp[qad];omega
   ·refine⟨i+1,by omega,by omega,by omega,?_⟩;match i,hlt with
    | 0,_|1,_=>simp
  ·obtain rfl:i=2:=by omega
   simp only[go_sem,seval]
   repeat' first|assumption|(simp (disch:=first|assumption|omega|(simp;done)|(simp;omega)) only[qaa,qac,yaa,qab,qae,qaf];try simp only[go_sem,seval])|(with_reducible first|refine And.intro ?_ ?_|intro _)|((with_reducible (show Region.lexB _ _=true));kernel_rfl)|((try rw[qad]);omega)
   refine qaB (Tryz.c_Grow0 (x.length+y.length) (by omega)) [] (by simp only[go_sem,seval]) ?_;rintro r0 H1 ⟨g',rfl,rfl⟩;simp only[go_sem,seval]
   repeat' first|assumption|(simp (disch:=first|assumption|omega|(simp;done)|(simp;omega)) only[qaa,qac,yaa,qab,qae,qaf];try simp only[go_sem,seval])|(with_reducible first|refine And.intro ?_ ?_|intro _)|((with_reducible (show Region.lexB _ _=true));kernel_rfl)|((try rw[qad]);omega)
   refine qaF (E:=Tryz.env 1) Tryz.tok (σ:=Nat) (fun i=>[(27,.d (dI i)),(26,.d (dI 2)),(25,.sl 0 0 1 0 2),(6,.sl 1 (g'+i) 1 0 (catN x y i).length)]) (fun i=>[.row 0 1 false [dIs x,dIs y],.row (g'+i) 1 true ((catN x y i).map (D.int .i64))])
    (fun i=>i<=2) (fun i=>2-i) [] 1000 1000 ?_ ?_ ?_
   ·simp only[go_sem,seval]
   ·simp only[go_sem,seval];exact⟨0,by omega,⟨rfl,rfl,rfl⟩,rfl,rfl⟩
   ·intro i hi;by_cases hlt:i<2
    ·have hg:=fun z:D=>qpd (x:=x) (y:=y) (z:=z) hlt
     simp only[go_sem,seval,hg]
     repeat' first|assumption|(simp (disch:=first|assumption|omega|(simp;done)|(simp;omega)) only[qaa,qac,yaa,qab,qae,qaf];try simp only[go_sem,seval,hg])|(with_reducible first|refine And.intro ?_ ?_|intro _)|((with_reducible (show Region.lexB _ _=true));kernel_rfl)|((try rw[qad]);omega)
     ·match i,hlt with
      | 0,_|1,_=>simp[catN];omega
     ·refine⟨i+1,by omega,by omega,⟨rfl,by omega,?_⟩,by omega,?_⟩
      ·match i,hlt with
       | 0,_|1,_=>simp[catN]
      ·match i,hlt with
       | 0,_|1,_=>simp[catN]
    ·obtain rfl:i=2:=by omega
     simp only[go_sem,seval]
     repeat' first|assumption|(simp (disch:=first|assumption|omega|(simp;done)|(simp;omega)) only[qaa,qac,yaa,qab,qae,qaf];try simp only[go_sem,seval])|(with_reducible first|refine And.intro ?_ ?_|intro _)|((with_reducible (show Region.lexB _ _=true));kernel_rfl)|((try rw[qad]);omega)
     exact qci ⟨_,by simp[catN],rfl⟩
theorem Tryz.c_EqualJ (a b:List Int):Pure Tryz.prog 222 [dIs a,dIs b] (.bool (decide (a=b))):=by
 refine qas (E:=Tryz.env 0) Tryz.tok rfl 1000 Tryz.func222 rfl rfl Tryz.ntmps222 (by simp) fun ok=>?_
 simp only[go_sem,seval] at ok;simp only[go_sem,seval];refine⟨fun h=>?_,fun hlen=>?_⟩
 ·simp only[false_eq_decide_iff];rintro rfl;exact h rfl
 refine qaF (E:=Tryz.env 0) Tryz.tok (σ:=Nat) (fun i=>[(11,.d (dIs a)),(12,.d (dI a.length)),(13,.d (dI i)),(0,.d (dIs a)),(1,.d (dIs b))]) (fun _=>[]) (fun i=>i<=a.length/\∀ j,j<i->a.getD j 0=b.getD j 0) (fun i=>a.length-i) [] 1000 1000 ?_ ?_ ?_
 ·simp only[go_sem,seval]
 ·simp only[go_sem,seval];exact⟨0,⟨by omega,by omega⟩,rfl⟩
 ·rintro i ⟨hi,hinv⟩;by_cases hlt:i<a.length
  ·simp only[go_sem,seval]
   repeat' first|assumption|(simp (disch:=first|assumption|omega|(simp;done)|(simp;omega)) only[qaa,qac,yaa,qab,qae,qaf];try simp only[go_sem,seval])|(with_reducible first|refine And.intro ?_ ?_|intro _)|((with_reducible (show Region.lexB _ _=true));kernel_rfl)|((try rw[qad]);omega)
   ·rename_i h1;simp only[false_eq_decide_iff];rintro rfl;exact h1 rfl
   ·rename_i h1;exact⟨i+1,⟨by omega,fun j hj=>by
     by_cases hji:j=i
     ·subst hji;exact h1
     ·exact hinv j (by omega)⟩,by omega,rfl⟩
  ·simp only[go_sem,seval]
   repeat' first|assumption|(simp (disch:=first|assumption|omega|(simp;done)|(simp;omega)) only[qaa,qac,yaa,qab,qae,qaf];try simp only[go_sem,seval])|(with_reducible first|refine And.intro ?_ ?_|intro _)|((with_reducible (show Region.lexB _ _=true));kernel_rfl)|((try rw[qad]);omega)
   simp only[true_eq_decide_iff];exact qbz 0 hlen fun j hj=>hinv j (by omega)
theorem Tryz.c_joinCuts1 (z cut:List Int):Pure Tryz.prog 221 [dIs z,.ptr [dIs cut]] (.bool (decide (z=cut))):=by
 refine qas (E:=Tryz.env 0) Tryz.tok rfl 1000 Tryz.func221 rfl rfl Tryz.ntmps221 (by simp) fun ok=>?_
 simp only[go_sem,seval] at ok;simp only[go_sem,seval]
 repeat' first|assumption|(simp (disch:=first|assumption|omega|(simp;done)|(simp;omega)) only[qaa,qac,yaa,qab,qae,qaf];try simp only[go_sem,seval])|(with_reducible first|refine And.intro ?_ ?_|intro _)|(refine qaj (Tryz.c_EqualJ z cut) ?_;simp only[go_sem,seval])|((with_reducible (show Region.lexB _ _=true));kernel_rfl)|((try rw[qad]);omega)
theorem Tryz.c_IndexFunc (l:List (List Int)) (cut:List Int) (hl:l.length<=1000):PureE Tryz.prog 229 [dIss l,.fn 221 [.ptr [dIs cut]]] (fun y=>∃ n:Int,y=dI n/\(0<=n↔cut∈l)):=by
 have hq:=fun z=>Tryz.c_joinCuts1 z cut
 refine qf8 (E:=Tryz.env 0) Tryz.tok rfl 1000 Tryz.func229 rfl rfl Tryz.ntmps229 (by simp) fun ok=>?_
 simp only[go_sem,seval] at ok;simp only[go_sem,seval]
 repeat' first|assumption|(simp (disch:=first|assumption|omega|(simp;done)|(simp;omega)) only[qaa,qac,yaa,qab,qae,qaf];try simp only[go_sem,seval])|(with_reducible first|refine And.intro ?_ ?_|intro _)|((with_reducible (show Region.lexB _ _=true));kernel_rfl)|((try rw[qad]);omega)
 refine qaF (E:=Tryz.env 0) Tryz.tok (σ:=Nat) (fun i=>[(8,.d (dI i)),(7,.d (dI l.length)),(6,.d (dIss l)),(0,.d (dIss l)),(1,.d (.fn 221 [.ptr [dIs cut]]))]) (fun _=>[])
  (fun i=>i<=l.length/\cut∉l.take i) (fun i=>l.length-i) [] 1000 1000 ?_ ?_ ?_
 ·simp only[go_sem,seval]
 ·simp only[go_sem,seval];exact⟨0,⟨by omega,by simp⟩,rfl⟩
 ·rintro i ⟨hi,hinv⟩;by_cases hlt:i<l.length
  ·have hts:l.take (i+1)=l.take i ++ [l.getD i []]:=by simpa using qaV (f:=fun x:List Int=>x) [] hlt
   have hmm:=qal hlt (z:=([]:List Int));generalize hz9:l.getD i []=z at *
   have hqz:=hq z;simp only[go_sem,seval,hz9]
   repeat' first|assumption|(simp (disch:=first|assumption|omega|(simp;done)|(simp;omega)) only[qaa,qac,yaa,qab,qae,qaf];try simp only[go_sem,seval,hz9])|(with_reducible first|refine And.intro ?_ ?_|intro _)|(refine qaj hqz ?_;simp only[go_sem,seval,hz9])|((with_reducible (show Region.lexB _ _=true));kernel_rfl)|((try rw[qad]);omega)
   ·rename_i h1;exact⟨_,rfl,_,rfl,by rw[<-h1];exact⟨fun _=>hmm,fun _=>by omega⟩⟩
   ·rename_i h1;refine⟨i+1,⟨by omega,?_⟩,by omega,rfl⟩;rw[hts,yas,yaA];rintro(h2|h2)
    ·exact hinv h2
    ·exact h1 h2.symm
  ·obtain rfl:i=l.length:=by omega
   rw[yav] at hinv;simp only[go_sem,seval]
   repeat' first|assumption|(simp (disch:=first|assumption|omega|(simp;done)|(simp;omega)) only[qaa,qac,yaa,qab,qae,qaf];try simp only[go_sem,seval])|(with_reducible first|refine And.intro ?_ ?_|intro _)|((with_reducible (show Region.lexB _ _=true));kernel_rfl)|((try rw[qad]);omega)
   exact⟨_,rfl,_,rfl,⟨fun h=>absurd h (by decide),fun h=>absurd h hinv⟩⟩
theorem Tryz.c_ContainsFunc (l:List (List Int)) (cut:List Int) (hl:l.length<=1000):Pure Tryz.prog 220 [dIss l,.fn 221 [.ptr [dIs cut]]] (.bool (decide (cut∈l))):=by
 refine qas (E:=Tryz.env 0) Tryz.tok rfl 1000 Tryz.func220 rfl rfl Tryz.ntmps220 (by simp) fun ok=>?_
 simp only[go_sem,seval] at ok;simp only[go_sem,seval]
 repeat' first|assumption|(simp (disch:=first|assumption|omega|(simp;done)|(simp;omega)) only[qaa,qac,yaa,qab,qae,qaf];try simp only[go_sem,seval])|(with_reducible first|refine And.intro ?_ ?_|intro _)|((with_reducible (show Region.lexB _ _=true));kernel_rfl)|((try rw[qad]);omega)
 refine qf4 (Tryz.c_IndexFunc l cut hl) ?_;rintro y ⟨n,rfl,hn⟩;simp only[go_sem,seval]
 repeat' first|assumption|(simp (disch:=first|assumption|omega|(simp;done)|(simp;omega)) only[qaa,qac,yaa,qab,qae,qaf];try simp only[go_sem,seval])|(with_reducible first|refine And.intro ?_ ?_|intro _)|((with_reducible (show Region.lexB _ _=true));kernel_rfl)|((try rw[qad]);omega)
 exact decide_eq_decide.2 hn

theorem Tryz.c_joinCuts (P Q:List (List Int)) (hP:P.length<=9) (hQ:Q.length<=9) (pa : ∀ x∈P,asc x/\x.length<=3) (qa : ∀ x∈Q,asc x/\x.length<=3):ICall Tryz.prog 209 [.d (dIss P),.d (dIss Q)] []
  (fun r H'=>∃ g,r=.sl 0 g 1 0 (qft P Q).length/\H'=[.row g 1 false ((qft P Q).map fun x=>dIs x)]):=by
 refine qaO (E:=Tryz.env 0) Tryz.tok rfl 1000 Tryz.func209 rfl rfl Tryz.ntmps209 (by simp) ?_;simp only[go_sem,seval]
 repeat' first|assumption|(simp (disch:=first|assumption|omega|(simp;done)|(simp;omega)) only[qaa,qac,yaa,qab,qae,qaf];try simp only[go_sem,seval])|(with_reducible first|refine And.intro ?_ ?_|intro _)|((try rw[qad]);omega)
 refine qap (E:=Tryz.env 0) Tryz.tok (σ:=Nat) (fun a=>[(13,.d (dI a)),(12,.d (dI P.length)),(11,.d (dIss P)),(5,.sl 0 ((P.take a).foldl (fun l x=>rowC x Q l) []).length 1 0 ((P.take a).foldl (fun l x=>rowC x Q l) []).length),(1,.d (dIss Q))])
  (fun a=>[.row ((P.take a).foldl (fun l x=>rowC x Q l) []).length 1 false (((P.take a).foldl (fun l x=>rowC x Q l) []).map fun x=>dIs x)])
  (fun a=>a<=P.length/\((P.take a).foldl (fun l x=>rowC x Q l) []).length<=8) (fun a=>P.length-a) [] [(5,1,false)] 1000 1000 ?_ ?_
 ·simp only[go_sem,seval];exact⟨0,⟨by omega,by simp⟩,by simp⟩
 ·rintro a ⟨ha,hl8⟩;by_cases hat:a<P.length
  ·have hsa:=qaC (f:=fun l x=>rowC x Q l) (b:=[]) ([]:List Int) hat;have hpx:=pa _ (qal hat:P.getD a []∈P);generalize hx9:P.getD a []=X at *
   generalize (P.take a).foldl (fun l x=>rowC x Q l) []=L0 at *
   simp only[go_sem,seval,hx9]
   repeat' first|assumption|(simp (disch:=first|assumption|omega|(simp;done)|(simp;omega)) only[qaa,qac,yaa,qab,qae,qaf];try simp only[go_sem,seval,hx9])|(with_reducible first|refine And.intro ?_ ?_|intro _)|((try rw[qad]);omega)
   refine qap (E:=Tryz.env 0) Tryz.tok (σ:=Nat) (fun b=>[(19,.d (dI b)),(18,.d (dI Q.length)),(17,.d (dIss Q)),(7,.d (dIs X)),(13,.d (dI a)),(12,.d (dI P.length)),(11,.d (dIss P)),(5,.sl 0 (rowC X (Q.take b) L0).length 1 0 (rowC X (Q.take b) L0).length),(1,.d (dIss Q))])
    (fun b=>[.row (rowC X (Q.take b) L0).length 1 false ((rowC X (Q.take b) L0).map fun x=>dIs x)])
    (fun b=>b<=Q.length) (fun b=>Q.length-b) [] [] 1000 1000 ?_ ?_
   ·simp only[go_sem,seval];exact⟨0,by omega,by simp[rowC]⟩
   ·intro b hb;have hr8:=qgT (x:=X) (q:=Q.take b) hl8;by_cases hbt:b<Q.length
    ·have hsb:rowC X (Q.take (b+1)) L0=addC (rowC X (Q.take b) L0) (qaJ X (Q.getD b [])):=qaC (f:=fun l y=>addC l (qaJ X y)) (b:=L0) ([]:List Int) hbt;have hqy:=qa _ (qal hbt:Q.getD b []∈Q);generalize hy9:Q.getD b []=Y at *
     generalize rowC X (Q.take b) L0=L1 at *
     have had:addC L1 (qaJ X Y)=if(qaJ X Y).length<=3/\L1.length<8/\qaJ X Y∉L1 then L1 ++ [qaJ X Y] else L1:=rfl;simp only[go_sem,seval,hx9,hy9]
     repeat' first|assumption|(simp (disch:=first|assumption|omega|(simp;done)|(simp;omega)) only[qaa,qac,yaa,qab,qae,qaf];try simp only[go_sem,seval,hx9,hy9])|(with_reducible first|refine And.intro ?_ ?_|intro _)|((try rw[qad]);omega)
     refine qaB (Tryz.c_Concat X Y (by omega) (by omega)) [1] (by simp only[go_sem,seval]) ?_;rintro r0 H1 ⟨g',rfl,rfl⟩;simp only[go_sem,seval,hx9,hy9]
     repeat' first|assumption|(simp (disch:=first|assumption|omega|(simp;done)|(simp;omega)) only[qaa,qac,yaa,qab,qae,qaf];try simp only[go_sem,seval,hx9,hy9])|(with_reducible first|refine And.intro ?_ ?_|intro _)|((try rw[qad]);omega)
     have hxy:X.length+Y.length=(X++Y).length:=by simp
     rw[hxy];refine qaB (Tryz.c_Sort g' (X++Y) (by simp;omega)) [2] (by simp only[go_sem,seval]) ?_;rintro r0 H1 ⟨m,hm,rfl⟩;have hml:=hm.len;rw[<-hxy] at hml;simp only[go_sem,seval,hx9,hy9]
     repeat' first|assumption|(simp (disch:=first|assumption|omega|(simp;done)|(simp;omega)) only[qaa,qac,yaa,qab,qae,qaf];try simp only[go_sem,seval,hx9,hy9])|(with_reducible first|refine And.intro ?_ ?_|intro _)|((try rw[qad]);omega)
     rw[<-hml];refine qaB (Tryz.c_Compact g' m (by omega)) [2] (by simp only[go_sem,seval]) ?_;have hz:qbX m=qaJ X Y:=join_eq hpx.1 hqy.1 hm.1 (SortTo.pairwise (by rw[hxy,<-hm.len] at hml;rw[hm.len];exact hm));rw[hz];generalize qaJ X Y=Z at *
     rintro r0 H1 ⟨g2,rfl,rfl⟩;simp only[go_sem,seval,hx9,hy9]
     repeat' first|assumption|(simp (disch:=first|assumption|omega|(simp;done)|(simp;omega)) only[qaa,qac,yaa,qab,qae,qaf];try simp only[go_sem,seval,hx9,hy9])|(with_reducible first|refine And.intro ?_ ?_|intro _)|(refine qaj (Tryz.c_ContainsFunc L1 Z (by omega)) ?_;simp only[go_sem,seval,hx9,hy9])|((try rw[qad]);omega)
     ·rename_i h9;have e:rowC X (Q.take (b+1)) L0=L1:=by rw[hsb,had,if_neg (by rintro⟨q1,q2,q3⟩;omega)]
      refine⟨b+1,by omega,by omega,?_⟩;rw[e];exact⟨⟨rfl,rfl⟩,rfl,rfl⟩
     ·rename_i h9 h8;have e:rowC X (Q.take (b+1)) L0=L1 ++ [Z]:=by rw[hsb,had,if_pos ⟨by omega,by omega,h8⟩]
      refine⟨b+1,by omega,by omega,?_⟩;rw[e];exact⟨⟨by simp,by simp⟩,by simp,by simp⟩
     ·rename_i h9 h8;have e:rowC X (Q.take (b+1)) L0=L1:=by rw[hsb,had,if_neg (by rintro⟨q1,q2,q3⟩;exact q3 h8)]
      refine⟨b+1,by omega,by omega,?_⟩;rw[e];exact⟨⟨rfl,rfl⟩,rfl,rfl⟩
    ·simp only[go_sem,seval]
     repeat' first|assumption|(simp (disch:=first|assumption|omega|(simp;done)|(simp;omega)) only[qaa,qac,yaa,qab,qae,qaf];try simp only[go_sem,seval])|(with_reducible first|refine And.intro ?_ ?_|intro _)|((try rw[qad]);omega)
     refine⟨a+1,⟨by omega,?_⟩,by omega,?_⟩
     ·rw[hsa];exact qgT hl8
     ·rw[hsa];exact⟨⟨rfl,rfl⟩,rfl,rfl⟩
  ·obtain rfl:a=P.length:=by omega
   simp only[go_sem,seval]
   repeat' first|assumption|(simp (disch:=first|assumption|omega|(simp;done)|(simp;omega)) only[qaa,qac,yaa,qab,qae,qaf];try simp only[go_sem,seval])|(with_reducible first|refine And.intro ?_ ?_|intro _)|((try rw[qad]);omega)
   exact qci ⟨_,rfl,rfl⟩

theorem Tryz.c_Cuts (c:Circ) (hc:c.Valid):PureF Tryz.prog 176 [dC c] (qlc (qbk c)):=by
 have hf:=hc.first_bd;have hi0:=hc.i0;have hi1:=hc.i1;have hfst:=Tryz.c_firstGate c (by omega);have hl0:=qa6 (c:=c) hf.1 0;have hcv:=Tryz.c_CircuitValid c;refine qcG (E:=Tryz.env 0) Tryz.tok rfl 1000 Tryz.func176 rfl rfl Tryz.ntmps176 (by simp) fun ok=>?_
 simp only[go_sem,seval] at ok;simp only[go_sem,seval]
 repeat' first|assumption|(simp (disch:=first|assumption|omega|(simp;done)|(simp;omega)) only[qaa,qac,yaa,qab,qae,qaf];try simp only[go_sem,seval])|(with_reducible first|refine And.intro ?_ ?_|intro _)|(refine qaj hfst ?_;simp only[go_sem,seval])|(refine qaj hcv ?_;simp only[go_sem,seval])|((try rw[qad]);omega)
 ·rename_i h9;exact absurd hc h9
 rename_i h9;refine qap (E:=Tryz.env 0) Tryz.tok (σ:=Nat) (fun v=>[(1,.ptr 0 0),(3,.sl 3 (v-1) 1 0 v),(4,.d (dI v))]) (fun v=>[.box [.d (dI c.inputs),.d (dIs c.next),.d (dPs c.gates),.d (dIs c.outs)],.dead 0,.dead 0,.row (v-1) 1 false (((qaK c 0).take v).map fun x=>dIss x)])
  (fun v=>1<=v/\(v:Int)<=c.first) (fun v=>c.first.toNat-v) [] [] 1000 1000 ?_ ?_
 ·simp only[go_sem,seval];exact⟨1,⟨by omega,by omega⟩,⟨⟨rfl,rfl⟩,rfl⟩,rfl,by simp[qaK]⟩
 ·rintro v ⟨hv1,hv⟩;by_cases hlt:(v:Int)<c.first
  ·have hg:(qaK c 0).getD v []=[[(v:Int)]]:=by
    obtain⟨m,rfl⟩ : ∃ m,v=m+1:=⟨v-1,by omega⟩;simp[qaK,List.getD,show m<c.first.toNat-1 by omega]
   have hts:=qaV (f:=fun x=>dIss x) ([]:List (List Int)) (show v<(qaK c 0).length by omega);simp only[go_sem,seval]
   repeat' first|assumption|(simp (disch:=first|assumption|omega|(simp;done)|(simp;omega)) only[qaa,qac,yaa,qab,qae,qaf];try simp only[go_sem,seval])|(with_reducible first|refine And.intro ?_ ?_|intro _)|(refine qaj hfst ?_;simp only[go_sem,seval])|((try rw[qad]);omega)
   ·simp;omega
   ·refine⟨v+1,⟨by omega,by omega⟩,by omega,⟨⟨by omega,rfl⟩,by omega⟩,by omega,?_⟩;rw[hts,hg];rfl
  ·simp only[go_sem,seval]
   repeat' first|assumption|(simp (disch:=first|assumption|omega|(simp;done)|(simp;omega)) only[qaa,qac,yaa,qab,qae,qaf];try simp only[go_sem,seval])|(with_reducible first|refine And.intro ?_ ?_|intro _)|(refine qaj hfst ?_;simp only[go_sem,seval])|((try rw[qad]);omega)
   have hv3:v=c.first.toNat:=by omega
   subst hv3;clear hlt hv hv1;have hlg:=hc.lg;refine qap (E:=Tryz.env 0) Tryz.tok (σ:=Nat) (fun i=>[(28,.d (dI i)),(27,.d (dI c.gates.length)),(26,.d (dPs c.gates)),(1,.ptr 0 0),(3,.sl 3 (c.first.toNat-1+i) 1 0 (c.first.toNat+i))]) (fun i=>[.box [.d (dI c.inputs),.d (dIs c.next),.d (dPs c.gates),.d (dIs c.outs)],.dead 0,.dead 0,.row (c.first.toNat-1+i) 1 false ((qaK c i).map fun x=>dIss x)])
    (fun i=>i<=c.gates.length) (fun i=>c.gates.length-i) [] [] 1000 1000 ?_ ?_
   ·simp only[go_sem,seval];exact⟨0,by omega,⟨rfl,rfl,rfl⟩,rfl,rfl⟩
   ·intro i hi;have hli:=qa6 (c:=c) hf.1 i;by_cases hlt:i<c.gates.length
    ·obtain⟨g1,g2⟩:=hc.g i hlt;have hco:=qcv hc i hi;unfold qa4 at g1 g2;simp only[go_sem,seval]
     repeat' first|assumption|(simp (disch:=first|assumption|omega|(simp;done)|(simp;omega)) only[qaa,qac,yaa,qab,qae,qaf];try simp only[go_sem,seval])|(with_reducible first|refine And.intro ?_ ?_|intro _)|(refine qaj hfst ?_;simp only[go_sem,seval])|((try rw[qad]);omega)
     have hA:(qbn c i/2).toNat<(qaK c i).length:=by unfold qbn;omega
     have hB:(qbo c i/2).toNat<(qaK c i).length:=by unfold qbo;omega
     obtain⟨pa,-,-,pl⟩:=hco _ hA;obtain⟨qa,-,-,ql⟩:=hco _ hB;have hjn:(qaK c (i+1))=qaK c i ++ [qft ((qaK c i).getD (qbn c i/2).toNat []) ((qaK c i).getD (qbo c i/2).toNat []) ++ [[c.first+(i:Int)]]]:=rfl;have hgA:(c.gates.getD i (0,0)).1=qbn c i:=rfl;have hgB:(c.gates.getD i (0,0)).2=qbo c i:=rfl;rw[hgA] at g1 ⊢;rw[hgB] at g2 ⊢;have hjl:=qkd ((qaK c i).getD (qbn c i/2).toNat []) ((qaK c i).getD (qbo c i/2).toNat []);have hjo:=Tryz.c_joinCuts _ _ pl ql (fun x hx=>⟨(pa x hx).asc,(pa x hx).len⟩) (fun x hx=>⟨(qa x hx).asc,(qa x hx).len⟩);generalize hP9:(qaK c i).getD (qbn c i/2).toNat []=P at *
     generalize hQ9:(qaK c i).getD (qbo c i/2).toNat []=Q at *
     refine qaL (E:=Tryz.env 0) Tryz.tok Tryz.follows 1000 1000 [12] (.fst 0 (.fst 1 (.fst 6 (.fst 7 (.fst 2 (.fst 3 (.fst 4 (.fst 5 (.fst 8 (.fst 9 (.fst 10 (.fst 11 (.one 12 (.fst 13 (.done))))))))))))))) (by kernel_rfl) ?_;simp only[go_sem,seval,hP9,hQ9]
     repeat' first|assumption|(simp (disch:=first|assumption|omega|(simp;done)|(simp;omega)) only[qaa,qac,yaa,qab,qae,qaf];try simp only[go_sem,seval,hP9,hQ9])|(with_reducible first|refine And.intro ?_ ?_|intro _)|(refine qaj hfst ?_;simp only[go_sem,seval,hP9,hQ9])|((try rw[qad]);omega)
     refine qaB hjo [] (by simp only[go_sem,seval]) ?_;rintro r0 H1 ⟨g',rfl,rfl⟩;simp only[go_sem,seval,hP9,hQ9]
     repeat' first|assumption|(simp (disch:=first|assumption|omega|(simp;done)|(simp;omega)) only[qaa,qac,yaa,qab,qae,qaf];try simp only[go_sem,seval,hP9,hQ9])|(with_reducible first|refine And.intro ?_ ?_|intro _)|(refine qaj hfst ?_;simp only[go_sem,seval,hP9,hQ9])|((try rw[qad]);omega)
     refine⟨i+1,by omega,by omega,⟨rfl,by omega,by omega⟩,by omega,?_⟩;rw[hjn,yaC];simp
    ·simp only[go_sem,seval]
     repeat' first|assumption|(simp (disch:=first|assumption|omega|(simp;done)|(simp;omega)) only[qaa,qac,yaa,qab,qae,qaf];try simp only[go_sem,seval])|(with_reducible first|refine And.intro ?_ ?_|intro _)|(refine qaj hfst ?_;simp only[go_sem,seval])|((try rw[qad]);omega)
     rw[qbk,show i=c.gates.length by omega]
end Go.Proofs

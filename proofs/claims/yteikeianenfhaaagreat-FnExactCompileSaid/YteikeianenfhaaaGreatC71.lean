/- Contracts, plain definitions and lemmas. Conditions: none; lemmas. -/
import Derived.Test.YteikeianenfhaaaGreatC91
import Derived.Test.YteikeianenfhaaaGreatC32
import Derived.Test.YteikeianenfhaaaGreatC92
set_option maxRecDepth 20000
set_option linter.unusedVariables false
set_option linter.unusedSimpArgs false
set_option maxHeartbeats 2000000
namespace Go.Proofs
set_option linter.defProp false
open Go Go.VL Tryz
def OO {n:Nat}{k:Nat}{Po:I->List R->Prop}{H:List R}(hk:0<k) (h:Po (.sl H.length 0 k 0 0) (H ++ [.row 0 k true []])):gP n Po (.d .nil) H:=by
 refine⟨_,_,Aa [(0,k,true)] ⟨rfl,by show 0<1;omega,hk,trivial⟩,rfl,?_⟩;exact h
def IU {x y:List Int}{i:Nat}{z:D}(h:i<2):([ai x,ai y]:List D).getD i z=ai (if i=0 then x else y):=by
 match i,h with
 | 0,_|1,_=>rfl
def oM (x y:List Int):Nat->List Int
 | 0=>[]
 | 1=>x
 | _=>x++y
def Tryz.sJ (n:Nat) (hn:n<=1000):aQ prog 226 [.d .nil,.d (dI n)] [] (fun r H'=>∃ g',r=.sl 0 g' 1 0 0/\H'=[.row g' 1 true []]):=by
 by_cases h0:n=0
 ·subst h0;refine jp (E:=env 0) tok rfl 1000 func226 rfl rfl ntmps226 (by simp) ?_
  repeat' first|assumption|simp (disch:=first|assumption|omega|simp;try omega) only[go_sem,seval,ag,cv]|(with_reducible first|apply aa|intro)|exact ah|(try rw[ae]);omega
  exact OO (by decide) ⟨0,rfl,rfl⟩
 ·exact ve n ⟨by omega,hn⟩
def Tryz.qN (x y:List Int) (hx:x.length<=100) (hy:y.length<=100):aQ prog 217 [.sl 0 0 1 0 2] [.row 0 1 false [ai x,ai y]] (fun r H'=>∃ g',r=.sl 1 g' 1 0 (x++y).length/\H'=[.row 0 1 false [ai x,ai y],.row g' 1 true ((x++y).map (D.int .i64))]):=by
 refine jp (E:=env 1) tok rfl 1000 func217 rfl rfl ntmps217 (by simp) ?_
 repeat' first|assumption|simp (disch:=first|assumption|omega|simp;try omega) only[go_sem,seval,ag,cv]|(with_reducible first|apply aa|intro)|exact ah|(try rw[ae]);omega
 refine ce (E:=env 1) tok (σ:=Nat) (fun i=>[(11,.d (dI i)),(10,.d (dI 2)),(9,.sl 0 0 1 0 2),(3,.d (dI (if i=0 then 0 else if i=1 then x.length else x.length+y.length:Nat))),(0,.sl 0 0 1 0 2)]) (fun _=>[.row 0 1 false [ai x,ai y]])
  (fun i=>i<=2) (fun i=>2-i) [] 1000 1000 ?_ ?_ ?_
 ·simp only[go_sem,seval]
 ·simp only[go_sem,seval];exact⟨0,by omega,rfl,rfl⟩
 ·intro i hi;by_cases hlt:i<2
  ·have hg:=fun z:D=>IU (x:=x) (y:=y) (z:=z) hlt
   repeat' first|assumption|simp (disch:=first|assumption|omega|simp;try omega) only[go_sem,seval,hg,ag,cv]|(with_reducible first|apply aa|intro)|exact ah|(try rw[ae]);omega
   ·match i,hlt with
    | 0,_|1,_=>simp[ae];omega
   ·refine⟨i+1,by omega,by omega,by omega,?_⟩;match i,hlt with
    | 0,_|1,_=>simp
  ·obtain rfl:i=2:=by omega
   repeat' first|assumption|simp (disch:=first|assumption|omega|simp;try omega) only[go_sem,seval,ag,cv]|(with_reducible first|apply aa|intro)|exact ah|(try rw[ae]);omega
   refine iu (sJ (x.length+y.length) (by omega)) [] (by simp only[go_sem,seval]) ?_;rintro r0 H1 ⟨g',rfl,rfl⟩;simp only[go_sem,seval]
   repeat' first|assumption|simp (disch:=first|assumption|omega|simp;try omega) only[go_sem,seval,ag,cv]|(with_reducible first|apply aa|intro)|exact ah|(try rw[ae]);omega
   refine ce (E:=env 1) tok (σ:=Nat) (fun i=>[(27,.d (dI i)),(26,.d (dI 2)),(25,.sl 0 0 1 0 2),(6,.sl 1 (g'+i) 1 0 (oM x y i).length)]) (fun i=>[.row 0 1 false [ai x,ai y],.row (g'+i) 1 true ((oM x y i).map (D.int .i64))])
    (fun i=>i<=2) (fun i=>2-i) [] 1000 1000 ?_ ?_ ?_
   ·simp only[go_sem,seval]
   ·simp only[go_sem,seval];exact⟨0,by omega,⟨rfl,rfl,rfl⟩,rfl,rfl⟩
   ·intro i hi;by_cases hlt:i<2
    ·have hg:=fun z:D=>IU (x:=x) (y:=y) (z:=z) hlt
     repeat' first|assumption|simp (disch:=first|assumption|omega|simp;try omega) only[go_sem,seval,hg,ag,cv]|(with_reducible first|apply aa|intro)|exact ah|(try rw[ae]);omega
     ·match i,hlt with
      | 0,_|1,_=>simp[oM];omega
     ·refine⟨i+1,by omega,by omega,⟨rfl,by omega,?_⟩,by omega,?_⟩
      ·match i,hlt with
       | 0,_|1,_=>simp[oM]
      ·match i,hlt with
       | 0,_|1,_=>simp[oM]
    ·obtain rfl:i=2:=by omega
     repeat' first|assumption|simp (disch:=first|assumption|omega|simp;try omega) only[go_sem,seval,ag,cv]|(with_reducible first|apply aa|intro)|exact ah|(try rw[ae]);omega
     exact tE ⟨_,by simp[oM],rfl⟩
def Tryz.qq (a b:List Int):Pure prog 222 [ai a,ai b] (.bool (decide (a=b))):=by
 refine bw func222 rfl ntmps222 fun ok=>?_
 simp only[go_sem,seval] at ok⊢;refine⟨fun h=>?_,fun hlen=>?_⟩
 ·simp only[false_eq_decide_iff];rintro rfl;exact h rfl
 refine ce (E:=env 0) tok (σ:=Nat) (fun i=>[(11,.d (ai a)),(12,.d (dI a.length)),(13,.d (dI i)),(0,.d (ai a)),(1,.d (ai b))]) (fun _=>[]) (fun i=>i<=a.length/\∀ j,j<i->a.getD j 0=b.getD j 0) (fun i=>a.length-i) [] 1000 1000 ?_ ?_ ?_
 ·simp only[go_sem,seval]
 ·simp only[go_sem,seval];exact⟨0,⟨by omega,by omega⟩,rfl⟩
 ·rintro i ⟨hi,hinv⟩;by_cases hlt:i<a.length
  ·repeat' first|assumption|simp (disch:=first|assumption|omega|simp;try omega) only[go_sem,seval,ag,cv]|(with_reducible first|apply aa|intro)|exact ah|(try rw[ae]);omega
   ·rename_i h1;simp only[false_eq_decide_iff];rintro rfl;exact h1 rfl
   ·rename_i h1;exact⟨i+1,⟨by omega,fun j hj=>by
     by_cases hji:j=i
     ·subst hji;exact h1
     ·exact hinv j (by omega)⟩,by omega,rfl⟩
  ·repeat' first|assumption|simp (disch:=first|assumption|omega|simp;try omega) only[go_sem,seval,ag,cv]|(with_reducible first|apply aa|intro)|exact ah|(try rw[ae]);omega
   simp only[true_eq_decide_iff];exact oK 0 hlen fun j hj=>hinv j (by omega)
def Tryz.ma (z cut:List Int):Pure prog 221 [ai z,.ptr [ai cut]] (.bool (decide (z=cut))):=by
 refine bw func221 rfl ntmps221 fun ok=>?_
 simp only[go_sem,seval] at ok
 repeat' first|assumption|simp (disch:=first|assumption|omega|simp;try omega) only[go_sem,seval,ag,cv]|(with_reducible first|apply aa|intro)|(refine aA (qq z cut) ?_)|exact ah|(try rw[ae]);omega
def Tryz.lC (l:List (List Int)) (cut:List Int) (hl:l.length<=1000):dM prog 229 [b9 l,.fn 221 [.ptr [ai cut]]] (fun y=>∃ n:Int,y=dI n/\(0<=n↔cut∈l)):=by
 have hq:=fun z=>ma z cut
 refine BB (E:=env 0) tok rfl 1000 func229 rfl rfl ntmps229 (by simp) fun ok=>?_
 simp only[go_sem,seval] at ok
 repeat' first|assumption|simp (disch:=first|assumption|omega|simp;try omega) only[go_sem,seval,ag,cv]|(with_reducible first|apply aa|intro)|exact ah|(try rw[ae]);omega
 refine ce (E:=env 0) tok (σ:=Nat) (fun i=>[(8,.d (dI i)),(7,.d (dI l.length)),(6,.d (b9 l)),(0,.d (b9 l)),(1,.d (.fn 221 [.ptr [ai cut]]))]) (fun _=>[])
  (fun i=>i<=l.length/\cut∉l.take i) (fun i=>l.length-i) [] 1000 1000 ?_ ?_ ?_
 ·simp only[go_sem,seval]
 ·simp only[go_sem,seval];exact⟨0,⟨by omega,by simp⟩,rfl⟩
 ·rintro i ⟨hi,hinv⟩;by_cases hlt:i<l.length
  ·have hts:l.take (i+1)=l.take i ++ [l.getD i []]:=by simpa using mz (f:=fun x:List Int=>x) [] hlt
   have hmm:=aP hlt (z:=([]:List Int));generalize hz9:l.getD i []=z at *
   have hqz:=hq z
   repeat' first|assumption|simp (disch:=first|assumption|omega|simp;try omega) only[go_sem,seval,hz9,ag,cv]|(with_reducible first|apply aa|intro)|(refine aA hqz ?_)|exact ah|(try rw[ae]);omega
   ·rename_i h1;exact⟨_,rfl,_,rfl,by rw[<-h1];exact⟨fun _=>hmm,fun _=>by omega⟩⟩
   ·rename_i h1;refine⟨i+1,⟨by omega,?_⟩,by omega,rfl⟩;rw[hts,fV,mv];rintro(h2|h2)
    ·exact hinv h2
    ·exact h1 h2.symm
  ·obtain rfl:i=l.length:=by omega
   rw[iA] at hinv
   repeat' first|assumption|simp (disch:=first|assumption|omega|simp;try omega) only[go_sem,seval,ag,cv]|(with_reducible first|apply aa|intro)|exact ah|(try rw[ae]);omega
   exact⟨_,rfl,_,rfl,⟨fun h=>absurd h (by decide),fun h=>absurd h hinv⟩⟩
def Tryz.jz (l:List (List Int)) (cut:List Int) (hl:l.length<=1000):Pure prog 220 [b9 l,.fn 221 [.ptr [ai cut]]] (.bool (decide (cut∈l))):=by
 refine bw func220 rfl ntmps220 fun ok=>?_
 simp only[go_sem,seval] at ok
 repeat' first|assumption|simp (disch:=first|assumption|omega|simp;try omega) only[go_sem,seval,ag,cv]|(with_reducible first|apply aa|intro)|exact ah|(try rw[ae]);omega
 refine Bj (lC l cut hl) ?_;rintro y ⟨n,rfl,hn⟩
 repeat' first|assumption|simp (disch:=first|assumption|omega|simp;try omega) only[go_sem,seval,ag,cv]|(with_reducible first|apply aa|intro)|exact ah|(try rw[ae]);omega
 exact decide_eq_decide.2 hn
end Go.Proofs

set_option maxRecDepth 20000
set_option linter.unusedVariables false
set_option linter.unusedSimpArgs false
namespace Go.Proofs
set_option linter.defProp false
open Go Go.VL
def Tryz.mQ (P Q:List (List Int)) (hP:P.length<=9) (hQ:Q.length<=9) (pa : ∀ x∈P,gJ x/\x.length<=3) (qa : ∀ x∈Q,gJ x/\x.length<=3):aQ prog 209 [.d (b9 P),.d (b9 Q)] []
  (fun r H'=>∃ g,r=.sl 0 g 1 0 (mI P Q).length/\H'=[.row g 1 false ((mI P Q).map fun x=>ai x)]):=by
 refine jp (E:=env 0) tok rfl 1000 func209 rfl rfl ntmps209 (by simp) ?_
 repeat' first|assumption|simp (disch:=first|assumption|omega|simp;try omega) only[go_sem,seval,ag,cv]|(with_reducible first|apply aa|intro)|(try rw[ae]);omega
 refine bt (E:=env 0) tok (σ:=Nat) (fun a=>[(13,.d (dI a)),(12,.d (dI P.length)),(11,.d (b9 P)),(5,.sl 0 ((P.take a).foldl (fun l x=>bn x Q l) []).length 1 0 ((P.take a).foldl (fun l x=>bn x Q l) []).length),(1,.d (b9 Q))])
  (fun a=>[.row ((P.take a).foldl (fun l x=>bn x Q l) []).length 1 false (((P.take a).foldl (fun l x=>bn x Q l) []).map fun x=>ai x)])
  (fun a=>a<=P.length/\((P.take a).foldl (fun l x=>bn x Q l) []).length<=8) (fun a=>P.length-a) [] [(5,1,false)] 1000 1000 ?_ ?_
 ·simp only[go_sem,seval];exact⟨0,⟨by omega,by simp⟩,by simp⟩
 ·rintro a ⟨ha,hl8⟩;by_cases hat:a<P.length
  ·have hsa:=gI (f:=fun l x=>bn x Q l) (b:=[]) ([]:List Int) hat;have hpx:=pa _ (aP hat:P.getD a []∈P);generalize hx9:P.getD a []=X at *
   generalize (P.take a).foldl (fun l x=>bn x Q l) []=L0 at *
   repeat' first|assumption|simp (disch:=first|assumption|omega|simp;try omega) only[go_sem,seval,hx9,ag,cv]|(with_reducible first|apply aa|intro)|(try rw[ae]);omega
   refine bt (E:=env 0) tok (σ:=Nat) (fun b=>[(19,.d (dI b)),(18,.d (dI Q.length)),(17,.d (b9 Q)),(7,.d (ai X)),(13,.d (dI a)),(12,.d (dI P.length)),(11,.d (b9 P)),(5,.sl 0 (bn X (Q.take b) L0).length 1 0 (bn X (Q.take b) L0).length),(1,.d (b9 Q))])
    (fun b=>[.row (bn X (Q.take b) L0).length 1 false ((bn X (Q.take b) L0).map fun x=>ai x)])
    (fun b=>b<=Q.length) (fun b=>Q.length-b) [] [] 1000 1000 ?_ ?_
   ·simp only[go_sem,seval];exact⟨0,by omega,by simp[bn]⟩
   ·intro b hb;have hr8:=x4 (x:=X) (q:=Q.take b) hl8;by_cases hbt:b<Q.length
    ·have hsb:bn X (Q.take (b+1)) L0=fR (bn X (Q.take b) L0) (cy X (Q.getD b [])):=gI (f:=fun l y=>fR l (cy X y)) (b:=L0) ([]:List Int) hbt;have hqy:=qa _ (aP hbt:Q.getD b []∈Q);generalize hy9:Q.getD b []=Y at *
     generalize bn X (Q.take b) L0=L1 at *
     have had:fR L1 (cy X Y)=if(cy X Y).length<=3/\L1.length<8/\cy X Y∉L1 then L1 ++ [cy X Y] else L1:=rfl
     repeat' first|assumption|simp (disch:=first|assumption|omega|simp;try omega) only[go_sem,seval,hx9,hy9,ag,cv]|(with_reducible first|apply aa|intro)|(try rw[ae]);omega
     refine iu (qN X Y (by omega) (by omega)) [1] (by simp only[go_sem,seval]) ?_;rintro r0 H1 ⟨g',rfl,rfl⟩
     repeat' first|assumption|simp (disch:=first|assumption|omega|simp;try omega) only[go_sem,seval,hx9,hy9,ag,cv]|(with_reducible first|apply aa|intro)|(try rw[ae]);omega
     have hxy:X.length+Y.length=(X++Y).length:=by simp
     rw[hxy];refine iu (wi g' (X++Y) (by simp;omega)) [2] (by simp only[go_sem,seval]) ?_;rintro r0 H1 ⟨m,hm,rfl⟩;have hml:=hm.len;rw[<-hxy] at hml
     repeat' first|assumption|simp (disch:=first|assumption|omega|simp;try omega) only[go_sem,seval,hx9,hy9,ag,cv]|(with_reducible first|apply aa|intro)|(try rw[ae]);omega
     rw[<-hml];refine iu (ou g' m (by omega)) [2] (by simp only[go_sem,seval]) ?_;have hz:ik m=cy X Y:=join_eq hpx.1 hqy.1 hm.1 (bX.pairwise (by rw[hxy,<-hm.len] at hml;rw[hm.len];exact hm));rw[hz];generalize cy X Y=Z at *
     rintro r0 H1 ⟨g2,rfl,rfl⟩
     repeat' first|assumption|simp (disch:=first|assumption|omega|simp;try omega) only[go_sem,seval,hx9,hy9,ag,cv]|(with_reducible first|apply aa|intro)|(refine aA (jz L1 Z (by omega)) ?_)|(try rw[ae]);omega
     ·rename_i h9;have e:bn X (Q.take (b+1)) L0=L1:=by rw[hsb,had,if_neg (by rintro⟨q1,q2,q3⟩;omega)]
      refine⟨b+1,by omega,by omega,?_⟩;rw[e];exact⟨⟨rfl,rfl⟩,rfl,rfl⟩
     ·rename_i h9 h8;have e:bn X (Q.take (b+1)) L0=L1 ++ [Z]:=by rw[hsb,had,if_pos ⟨by omega,by omega,h8⟩]
      refine⟨b+1,by omega,by omega,?_⟩;rw[e];exact⟨⟨by simp,by simp⟩,by simp,by simp⟩
     ·rename_i h9 h8;have e:bn X (Q.take (b+1)) L0=L1:=by rw[hsb,had,if_neg (by rintro⟨q1,q2,q3⟩;exact q3 h8)]
      refine⟨b+1,by omega,by omega,?_⟩;rw[e];exact⟨⟨rfl,rfl⟩,rfl,rfl⟩
    ·repeat' first|assumption|simp (disch:=first|assumption|omega|simp;try omega) only[go_sem,seval,ag,cv]|(with_reducible first|apply aa|intro)|(try rw[ae]);omega
     refine⟨a+1,⟨by omega,?_⟩,by omega,?_⟩
     ·rw[hsa];exact x4 hl8
     ·rw[hsa];exact⟨⟨rfl,rfl⟩,rfl,rfl⟩
  ·obtain rfl:a=P.length:=by omega
   repeat' first|assumption|simp (disch:=first|assumption|omega|simp;try omega) only[go_sem,seval,ag,cv]|(with_reducible first|apply aa|intro)|(try rw[ae]);omega
   exact tE ⟨_,rfl,rfl⟩
end Go.Proofs

set_option maxRecDepth 20000
set_option linter.unusedVariables false
set_option linter.unusedSimpArgs false
namespace Go.Proofs
set_option linter.defProp false
open Go Go.VL
def Tryz.wM (c:ac) (hc:c.Valid):bk prog 176 [dC c] (tY (gO c)):=by
 have hf:=hc.am;have hi0:=hc.i0;have hi1:=hc.i1;have hfst:=bq c (by omega);have hl0:=kI (c:=c) hf.1 0;have hcv:=a8 c;refine pu (E:=env 0) tok rfl 1000 func176 rfl rfl ntmps176 (by simp) fun ok=>?_
 simp only[go_sem,seval] at ok⊢
 repeat' first|assumption|simp (disch:=first|assumption|omega|simp;try omega) only[ag,dw];try simp only[go_sem,seval]|(with_reducible first|apply aa|intro)|(refine aA hfst ?_;simp only[go_sem,seval])|(refine aA hcv ?_;simp only[go_sem,seval])|(try rw[ae]);omega
 ·rename_i h9;exact absurd hc h9
 rename_i h9;refine bt (E:=env 0) tok (σ:=Nat) (fun v=>[(1,.ptr 0 0),(3,.sl 3 (v-1) 1 0 v),(4,.d (dI v))]) (fun v=>[.box [.d (dI c.inputs),.d (ai c.next),.d (aO c.gates),.d (ai c.outs)],.dead 0,.dead 0,.row (v-1) 1 false (((bz c 0).take v).map fun x=>b9 x)])
  (fun v=>1<=v/\(v:Int)<=c.first) (fun v=>c.first.toNat-v) [] [] 1000 1000 ?_ ?_
 ·simp only[go_sem,seval];exact⟨1,⟨by omega,by omega⟩,⟨⟨rfl,rfl⟩,rfl⟩,rfl,by simp[bz]⟩
 ·rintro v ⟨hv1,hv⟩;by_cases hlt:(v:Int)<c.first
  ·have hg:(bz c 0).getD v []=[[(v:Int)]]:=by
    obtain⟨m,rfl⟩ : ∃ m,v=m+1:=⟨v-1,by omega⟩;simp[bz,List.getD,show m<c.first.toNat-1 by omega]
   have hts:=mz (f:=fun x=>b9 x) ([]:List (List Int)) (show v<(bz c 0).length by omega);simp only[go_sem,seval]
   repeat' first|assumption|simp (disch:=first|assumption|omega|simp;try omega) only[ag,dw];try simp only[go_sem,seval]|(with_reducible first|apply aa|intro)|(refine aA hfst ?_;simp only[go_sem,seval])|(try rw[ae]);omega
   ·simp;omega
   ·refine⟨v+1,⟨by omega,by omega⟩,by omega,⟨⟨by omega,rfl⟩,by omega⟩,by omega,?_⟩;rw[hts,hg];rfl
  ·simp only[go_sem,seval]
   repeat' first|assumption|simp (disch:=first|assumption|omega|simp;try omega) only[ag,dw];try simp only[go_sem,seval]|(with_reducible first|apply aa|intro)|(refine aA hfst ?_;simp only[go_sem,seval])|(try rw[ae]);omega
   have hv3:v=c.first.toNat:=by omega
   subst hv3;clear hlt hv hv1;have hlg:=hc.lg;refine bt (E:=env 0) tok (σ:=Nat) (fun i=>[(28,.d (dI i)),(27,.d (dI c.gates.length)),(26,.d (aO c.gates)),(1,.ptr 0 0),(3,.sl 3 (c.first.toNat-1+i) 1 0 (c.first.toNat+i))]) (fun i=>[.box [.d (dI c.inputs),.d (ai c.next),.d (aO c.gates),.d (ai c.outs)],.dead 0,.dead 0,.row (c.first.toNat-1+i) 1 false ((bz c i).map fun x=>b9 x)])
    (fun i=>i<=c.gates.length) (fun i=>c.gates.length-i) [] [] 1000 1000 ?_ ?_
   ·simp only[go_sem,seval];exact⟨0,by omega,⟨rfl,rfl,rfl⟩,rfl,rfl⟩
   ·intro i hi;have hli:=kI (c:=c) hf.1 i;by_cases hlt:i<c.gates.length
    ·obtain⟨g1,g2⟩:=hc.g i hlt;have hco:=pm hc i hi;unfold bj at g1 g2;simp only[go_sem,seval]
     repeat' first|assumption|simp (disch:=first|assumption|omega|simp;try omega) only[ag,dw];try simp only[go_sem,seval]|(with_reducible first|apply aa|intro)|(refine aA hfst ?_;simp only[go_sem,seval])|(try rw[ae]);omega
     have hA:(cL c i/2).toNat<(bz c i).length:=by unfold cL;omega
     have hB:(cN c i/2).toNat<(bz c i).length:=by unfold cN;omega
     obtain⟨pa,-,-,pl⟩:=hco _ hA;obtain⟨qa,-,-,ql⟩:=hco _ hB;have hjn:(bz c (i+1))=bz c i ++ [mI ((bz c i).getD (cL c i/2).toNat []) ((bz c i).getD (cN c i/2).toNat []) ++ [[c.first+(i:Int)]]]:=rfl;have hgA:(c.gates.getD i (0,0)).1=cL c i:=rfl;have hgB:(c.gates.getD i (0,0)).2=cN c i:=rfl;rw[hgA] at g1 ⊢;rw[hgB] at g2 ⊢;have hjl:=Ck ((bz c i).getD (cL c i/2).toNat []) ((bz c i).getD (cN c i/2).toNat []);have hjo:=mQ _ _ pl ql (fun x hx=>⟨(pa x hx).gJ,(pa x hx).len⟩) (fun x hx=>⟨(qa x hx).gJ,(qa x hx).len⟩);generalize hP9:(bz c i).getD (cL c i/2).toNat []=P at *
     generalize hQ9:(bz c i).getD (cN c i/2).toNat []=Q at *
     refine cg (n:=0) [12] (aw [0,1,6,7,2,3,4,5,8,9,10,11] (.one 12 (.fst 13 .done))) ?_;simp only[go_sem,seval,hP9,hQ9]
     repeat' first|assumption|simp (disch:=first|assumption|omega|simp;try omega) only[ag,dw];try simp only[go_sem,seval,hP9,hQ9]|(with_reducible first|apply aa|intro)|(refine aA hfst ?_;simp only[go_sem,seval,hP9,hQ9])|(try rw[ae]);omega
     refine iu hjo [] (by simp only[go_sem,seval]) ?_;rintro r0 H1 ⟨g',rfl,rfl⟩;simp only[go_sem,seval,hP9,hQ9]
     repeat' first|assumption|simp (disch:=first|assumption|omega|simp;try omega) only[ag,dw];try simp only[go_sem,seval,hP9,hQ9]|(with_reducible first|apply aa|intro)|(refine aA hfst ?_;simp only[go_sem,seval,hP9,hQ9])|(try rw[ae]);omega
     refine⟨i+1,by omega,by omega,⟨rfl,by omega,by omega⟩,by omega,?_⟩;rw[hjn,iz];simp
    ·simp only[go_sem,seval]
     repeat' first|assumption|simp (disch:=first|assumption|omega|simp;try omega) only[ag,dw];try simp only[go_sem,seval]|(with_reducible first|apply aa|intro)|(refine aA hfst ?_;simp only[go_sem,seval])|(try rw[ae]);omega
     rw[gO,show i=c.gates.length by omega]
end Go.Proofs

set_option maxRecDepth 20000
set_option linter.unusedVariables false
set_option linter.unusedSimpArgs false
namespace Go.Proofs
set_option linter.defProp false
open Go Go.VL
variable {c:ac}{N n:Nat}{l:List (List Int)}{α:Type}{x:List Int}
def mC (c:ac) (N:Nat) (l:List (List Int)):List D:=ir c l++List.replicate (N-l.length) .nil
def iF (N:Nat) (l:List Int):List Int:=l++List.replicate (N-l.length) 0
def AC (h:c.first.toNat<=l.length) (hN:l.length<=N):(mC c N l).length=N:=by
 simp[mC,uu h];omega
def CB {l:List Int}(hN:l.length<=N):(iF N l).length=N:=by
 simp[iF];omega
def Lx {l:List Int}{v:Nat}(h:v<l.length):(iF N l).getD v 0=l.getD v 0:=by
 simp[iF,List.getD,List.getElem?_append_left h]
def Is {x : α}(h:0<n):List.replicate n x=x::List.replicate (n-1) x:=by
 obtain⟨m,rfl⟩ : ∃ m,n=m+1:=⟨n-1,by omega⟩;rfl
def IF {l r:List α}{x y : α}(h:n=l.length):(l++x::r).set n y=l++y::r:=by
 subst h;simp
def CW (h:c.first.toNat<=l.length) (hN:l.length<N):(mC c N l).set l.length (ai x)=mC c N (l ++ [x]):=by
 unfold mC;rw[Is (show 0<N-l.length by omega),IF (by rw[uu h]),Ci h,fS];simp[show N-(l.length+1)=N-l.length-1 by omega]
def L4 (h:c.first.toNat<=l.length) (hN:l.length<N) {y:List Int}:(mC c N (l ++ [x])).set l.length (ai y)=mC c N (l ++ [y]):=by
 rw[<-CW h hN,<-CW h hN,List.set_set]
def N4 (h:c.first.toNat<=l.length) {z:D}:(mC c N (l ++ [x])).getD l.length z=ai x:=by
 unfold mC;rw[Ci h,fS,List.getD_eq_getElem?_getD,List.getElem?_append_right (by rw[uu h];omega),uu h];simp
def NK {l:List Int}(hN:l.length<N) {x:Int}:(iF N l).set l.length x=iF N (l ++ [x]):=by
 unfold iF;rw[Is (show 0<N-l.length by omega),IF rfl,fS];simp[show N-(l.length+1)=N-l.length-1 by omega]
def Tryz.np (c:ac) (hc:c.Valid):aQ prog 102 [.ptr 0 0] [.box [.d (dI c.inputs),.d (ai c.next),.d (aO c.gates),.d (ai c.outs)]] (fun r H'=>r=.d (.tup [.lst 1 (ir c (cS c)),ai (tF c)])/\H'=[.box [.d (dI c.inputs),.d (ai c.next),.d (aO c.gates),.d (ai c.outs)]]):=by
 have hf:=hc.am;have hi0:=hc.i0;have hi1:=hc.i1;have hfst:=bq c (by omega);have hcu:=wM c hc;have hbd:=Cm c (gO c);have hcl:=kI (c:=c) hf.1 c.gates.length;have hco:=pm hc c.gates.length (aC _);have hlg:=hc.lg;rw[<-gO] at hcl hco;refine jp (E:=env 1) tok rfl 1000 func102 rfl rfl ntmps102 (by simp) ?_;simp only[go_sem,seval]
 repeat' first|assumption|simp (disch:=first|assumption|omega|simp;try omega) only[ag,cv,dw];try simp only[go_sem,seval]|(with_reducible first|apply aa|intro)|(refine aA hfst ?_;simp only[go_sem,seval])|(refine kA hcu ?_;simp only[go_sem,seval])|exact ah|(try rw[ae]);omega
 have hgate : ∀ i,i<c.gates.length->∃ x r,(gO c).getD (c.first.toNat+i) []=x::r/\r≠[]:=fun i hi=>by
  have h1:=Ey hc hi;rw[gO,v6 hf.1 hi];cases hj:mI ((bz c i).getD (cL c i/2).toNat []) ((bz c i).getD (cN c i/2).toNat []) with
  | nil=>rw[hj] at h1;simp at h1
  | cons x r=>exact⟨x,r ++ [[c.first+(i:Int)]],rfl,by simp⟩
 have hleaf : ∀ i,i<c.gates.length->∀ cut∈((gO c).getD (c.first.toNat+i) []).dropLast,∀ z∈cut,0<=z/\z<c.first+(i:Int):=fun i hi cut hcut z hz=>by
  rw[gO,v6 hf.1 hi,List.dropLast_concat] at hcut;have hl:=kI (c:=c) hf.1 i;obtain⟨g1,g2⟩:=hc.g i hi;have ha:(cL c i/2).toNat<c.first.toNat+i:=by unfold cL;unfold bj at g1;omega
  have hb:(cN c i/2).toNat<c.first.toNat+i:=by unfold cN;unfold bj at g2;omega
  obtain⟨a1,-⟩:=pm hc i (by omega) _ (by rw[hl];exact ha);obtain⟨b1,-⟩:=pm hc i (by omega) _ (by rw[hl];exact hb);refine zg (P:=fun cut=>∀ z∈cut,0<=z/\z<c.first+(i:Int)) (fun x hx y hy hle z hz=>?_) cut hcut z hz;rcases(ow _ _).1 hz with h2|h2
  ·have:=(a1 x hx).rng z h2;omega
  ·have:=(b1 y hy).rng z h2;omega
 have efin:cS c=(bZ c (gO c) c.gates.length).1/\tF c=(bZ c (gO c) c.gates.length).2:=⟨rfl,rfl⟩;rw[efin.1,efin.2];generalize gO c=cuts at *
 have hbl:=vA c cuts;refine bt (E:=env 1) tok (σ:=Nat) (fun i=>[(7,.d (dI (c.first+(i:Int)))),(6,.sl 2 0 1 0 cuts.length),(5,.sl 1 0 1 0 cuts.length),(4,.d (tY cuts)),(0,.ptr 0 0)])
  (fun i=>[.box [.d (dI c.inputs),.d (ai c.next),.d (aO c.gates),.d (ai c.outs)],.row 0 1 false (mC c cuts.length (bZ c cuts i).1),.row 0 1 true ((iF cuts.length (bZ c cuts i).2).map (D.int .i64))])
  (fun i=>i<=c.gates.length) (fun i=>c.gates.length-i) [] [] 1000 1000 ?_ ?_
 ·simp only[go_sem,seval];refine⟨0,by omega,by omega,?_,?_⟩
  ·simp[bZ,mC,ir,hcl]
  ·simp[bZ,iF,hcl]
 ·intro i hi;have hbli:=hbl i;by_cases hlt:i<c.gates.length
  ·have hsu:bZ c cuts (i+1)=((bZ c cuts i).1 ++ [gj (bZ c cuts i).2 (cuts.getD (c.first.toNat+i) []).dropLast],(bZ c cuts i).2 ++ [1+lm (bZ c cuts i).2 (gj (bZ c cuts i).2 (cuts.getD (c.first.toNat+i) []).dropLast)]):=rfl;have hlf:=hleaf i hlt;obtain⟨x,r,hxr,hr0⟩:=hgate i hlt;have hle:=(hco (c.first.toNat+i) (by omega)).2.2.2;have hM3 : ∀ z∈(cuts.getD (c.first.toNat+i) []).dropLast,z.length<=3:=fun z hz=>((hco (c.first.toNat+i) (by omega)).1 z (List.dropLast_subset _ hz)).len
   have hbdi:=hbd i;generalize hL:cuts.getD (c.first.toNat+i) []=L at *
   generalize (bZ c cuts i).2=A at *
   generalize (bZ c cuts i).1=B at *
   have eL:(c.first+(i:Int)).toNat=c.first.toNat+i:=by omega
   have hL2:2<=L.length:=by
    rw[hxr];cases r with
    | nil=>exact absurd rfl hr0
    | cons y r=>simp
   have eM:List.take ((L.length:Int)-1).toNat (L.map fun x=>ai x)=L.dropLast.map fun x=>ai x:=by
    rw[List.dropLast_eq_take,List.map_take,show((L.length:Int)-1).toNat=L.length-1 by omega]
   have hML:L.dropLast.length=L.length-1:=by simp
   simp only[go_sem,seval,eL,hL,eM]
   repeat' first|assumption|simp (disch:=first|assumption|omega|simp;try omega) only[ag,cv,dw];try simp only[go_sem,seval,eL,hL,eM]|(with_reducible first|apply aa|intro)|exact ah|(try rw[ae]);omega
   generalize L.dropLast=M at *
   have hBL:B.length=c.first.toNat+i:=hbli.1
   have hAL:A.length=c.first.toNat+i:=hbli.2
   have harb:=fun cut (hcut:cut∈M)=>zv (arr:=A) (cut:=cut) (m:=i) (fun z _=>(hbdi z.toNat).2) (by omega)
   refine bt (E:=env 1) tok (σ:=Nat) (fun j=>[(44,.d (dI j)),(43,.d (dI M.length)),(42,.d (b9 M)),(8,.d (dI (if j=0 then -1 else lm A (gj A (M.take j))))),(7,.d (dI (c.first+(i:Int)))),(6,.sl 2 0 1 0 cuts.length),(5,.sl 1 0 1 0 cuts.length),(4,.d (tY cuts)),(0,.ptr 0 0)])
    (fun j=>[.box [.d (dI c.inputs),.d (ai c.next),.d (aO c.gates),.d (ai c.outs)],.row 0 1 false (if j=0 then mC c cuts.length B else mC c cuts.length (B ++ [gj A (M.take j)])),.row 0 1 true ((iF cuts.length A).map (D.int .i64))])
    (fun j=>j<=M.length) (fun j=>M.length-j) [] [] 1000 1000 ?_ ?_
   ·simp only[go_sem,seval];refine⟨0,by omega,?_⟩;simp
   ·intro j hj;by_cases hjt:j<M.length
    ·have hxm:=aP hjt (z:=([]:List Int));have hlx:=hlf _ hxm;have hx3:=hM3 _ hxm;have hts:M.take (j+1)=M.take j ++ [M.getD j []]:=by simpa using mz (f:=fun x:List Int=>x) [] hjt
     generalize hX:M.getD j []=X at *
     simp only[go_sem,seval,eL,hL,hX]
     repeat' first|assumption|simp (disch:=first|assumption|omega|simp;try omega) only[ag,cv,dw];try simp only[go_sem,seval,eL,hL,hX]|(with_reducible first|apply aa|intro)|exact ah|(try rw[ae]);omega
     refine bt (E:=env 1) tok (σ:=Nat) (fun k=>[(50,.d (dI k)),(49,.d (dI X.length)),(48,.d (ai X)),(11,.d (dI (lm A (X.take k)))),(10,.d (ai X)),(44,.d (dI j)),(43,.d (dI M.length)),(42,.d (b9 M)),(8,.d (dI (if j=0 then -1 else lm A (gj A (M.take j))))),(7,.d (dI (c.first+(i:Int)))),(6,.sl 2 0 1 0 cuts.length),(5,.sl 1 0 1 0 cuts.length),(4,.d (tY cuts)),(0,.ptr 0 0)])
      (fun k=>[.box [.d (dI c.inputs),.d (ai c.next),.d (aO c.gates),.d (ai c.outs)],.row 0 1 false (if j=0 then mC c cuts.length B else mC c cuts.length (B ++ [gj A (M.take j)])),.row 0 1 true ((iF cuts.length A).map (D.int .i64))])
      (fun k=>k<=X.length) (fun k=>X.length-k) [] [] 1000 1000 ?_ ?_
     ·simp only[go_sem,seval];refine⟨0,by omega,?_⟩;simp[lm]
     ·intro k hk;by_cases hkt:k<X.length
      ·have e1:lm A (X.take (k+1))=max (lm A (X.take k)) (A.getD (X.getD k 0).toNat 0):=gI (f:=fun(t v:Int)=>max t (A.getD v.toNat 0)) (b:=0) (0:Int) hkt;have hxk:=hlx _ (aP hkt:X.getD k 0∈X);have hxr2:=hbdi (X.getD k 0).toNat;have hag:=Lx (N:=cuts.length) (l:=A) (v:=(X.getD k 0).toNat) (by omega);have hal:=CB (N:=cuts.length) (l:=A) (by omega);have hfb:=zv (arr:=A) (cut:=X.take k) (m:=i) (fun z _=>(hbdi z.toNat).2) (by omega);simp only[go_sem,seval,eL,hL,hX]
       repeat' first|assumption|simp (disch:=first|assumption|omega|simp;try omega) only[ag,cv,dw];try simp only[go_sem,seval,eL,hL,hX]|(with_reducible first|apply aa|intro)|exact ah|(try rw[ae]);omega
       ·exact⟨k+1,by omega,by omega,rfl,by rw[hag,<-e1]⟩
      ·obtain rfl:k=X.length:=by omega
       rw[iA];have hfb:=zv (arr:=A) (cut:=X) (m:=i) (fun z _=>(hbdi z.toNat).2) (by omega);by_cases hj0:j=0
       ·subst hj0;rw[if_pos rfl,if_pos rfl];simp only[go_sem,seval,eL,hL,hX]
        repeat' first|assumption|simp (disch:=first|assumption|omega|simp;try omega) only[ag,cv,dw];try simp only[go_sem,seval,eL,hL,hX]|(with_reducible first|apply aa|intro)|exact ah|(try rw[ae]);omega
        ·rw[AC (by omega) (by omega)];omega
        ·have h1:gj A (M.take 1)=X:=by
          have:M.take 1=[X]:=by simpa using hts
          rw[this];rfl
         refine⟨1,by omega,by omega,⟨rfl,?_⟩,?_⟩
         ·rw[if_neg (by decide),h1]
         ·rw[if_neg (by decide),h1,<-hBL];exact CW (by omega) (by omega)
       ·rw[if_neg hj0,if_neg hj0];have hbm:gj A (M.take j)∈M:=jX (DH (by simp;omega));have hsn:=H5 (arr:=A) (l:=M.take j) (y:=X) (by simp;omega);rw[<-hts] at hsn;have hbb:=harb _ hbm;have hbg:=fun z=>N4 (c:=c) (N:=cuts.length) (l:=B) (x:=gj A (M.take j)) (z:=z) (by omega)
        rw[hBL] at hbg;generalize gj A (M.take j)=Y at *
        simp only[go_sem,seval,eL,hL,hX,hbg]
        repeat' first|assumption|simp (disch:=first|assumption|omega|simp;try omega) only[ag,cv,dw];try simp only[go_sem,seval,eL,hL,hX,hbg]|(with_reducible first|apply aa|intro)|exact ah|(try rw[ae]);omega
        ·rw[AC (by simp;omega) (by simp;omega)];omega
        ·rw[AC (by simp;omega) (by simp;omega)];omega
        ·refine⟨j+1,by omega,by omega,⟨rfl,?_⟩,?_⟩
         ·rw[if_neg (by omega),hsn,if_pos (show j9 _ _ _ by unfold j9;omega)]
         ·rw[if_neg (by omega),hsn,if_pos (show j9 _ _ _ by unfold j9;omega),<-hBL];exact L4 (by omega) (by omega)
        ·refine⟨j+1,by omega,by omega,⟨rfl,?_⟩,?_⟩
         ·rw[if_neg (by omega),hsn,if_neg (show ¬ j9 _ _ _ by unfold j9;omega)]
         ·rw[if_neg (by omega),hsn,if_neg (show ¬ j9 _ _ _ by unfold j9;omega)]
    ·obtain rfl:j=M.length:=by omega
     rw[iA,if_neg (by omega),if_neg (by omega)];simp only[go_sem,seval,eL,hL];have hfb:=harb _ (DH (arr:=A) (l:=M) (by omega))
     repeat' first|assumption|simp (disch:=first|assumption|omega|simp;try omega) only[ag,cv,dw];try simp only[go_sem,seval,eL,hL]|(with_reducible first|apply aa|intro)|exact ah|(try rw[ae]);omega
     ·rw[CB (by omega)];omega
     ·refine⟨i+1,by omega,by omega,by omega,?_,?_⟩
      ·rw[hsu]
      ·rw[hsu,Int.add_comm 1,<-hAL];exact NK (by omega)
  ·obtain rfl:i=c.gates.length:=by omega
   simp only[go_sem,seval]
   repeat' first|assumption|simp (disch:=first|assumption|omega|simp;try omega) only[ag,cv,dw];try simp only[go_sem,seval]|(with_reducible first|apply aa|intro)|exact ah|(try rw[ae]);omega
   refine rh (by simp) (by simp only[go_sem,seval]) ?_;simp only[go_sem,seval]
   repeat' first|assumption|simp (disch:=first|assumption|omega|simp;try omega) only[ag,cv,dw];try simp only[go_sem,seval]|(with_reducible first|apply aa|intro)|exact ah|(try rw[ae]);omega
   rw[ag (by rw[AC (by omega) (by omega)];omega),ag (by rw[CB (by omega)];omega)];simp[mC,iF,hcl,hbli.1,hbli.2]
end Go.Proofs

set_option linter.unusedVariables false
set_option linter.unusedSimpArgs false
namespace Go.VL
set_option linter.defProp false
variable {i v:Nat}{L:List Int}
def valOf (c:ac) (st ins:List Bool) (v:Int):Bool:=(values c st ins).getD v.toNat false
def xQ {c:ac}{st ins:List Bool}{n:Nat}(h:i<=n) (hv:v<1+ins.length+st.length+i):(mf c st ins n).getD v false=(mf c st ins i).getD v false:=by
 obtain⟨k,rfl⟩ : ∃ k,n=i+k:=⟨n-i,by omega⟩;obtain⟨r,hr⟩:=Jy c st ins (i:=i) k;rw[hr,cZ (by rw[BX];exact hv)]
section vals
variable {c:ac}{st ins:List Bool}
def Er:valOf c st ins 0=false:=by
 rw[valOf,values,xQ (i:=0) (by omega) (by simp;omega)];rfl
def vR (h2:(ins.length:Int)=c.inputs) {v:Int}(h0:1<=v) (hv:v<=c.inputs):valOf c st ins v=ins.getD (v-1).toNat false:=by
 rw[valOf,values,xQ (i:=0) (by omega) (by omega),J4];obtain⟨m,hm⟩ : ∃ m:Nat,v=(m:Int)+1:=⟨(v-1).toNat,by omega⟩;subst hm;rw[show((m:Int)+1).toNat=m+1 by omega,show((m:Int)+1-1).toNat=m by omega];show(ins++st).getD m false=_
 exact cZ (by omega)
def M9 (h1:st.length=c.next.length) (h2:(ins.length:Int)=c.inputs) (hi:i<c.next.length):valOf c st ins (c.inputs+1+(i:Int))=st.getD i false:=by
 rw[valOf,values,xQ (i:=0) (by omega) (by omega),J4];rw[show(c.inputs+1+(i:Int)).toNat=(ins.length+i)+1 by omega];show(ins++st).getD (ins.length+i) false=_
 simp[List.getD,List.getElem?_append_right]
def MR (hc:c.Valid) (h1:st.length=c.next.length) (h2:(ins.length:Int)=c.inputs) (hi:i<c.gates.length) :
  valOf c st ins (c.first+(i:Int))=((valOf c st ins (cL c i/2) != decide (cL c i%2=1))&&(valOf c st ins (cN c i/2) != decide (cN c i%2=1))):=by
 have hf:c.first=1+(ins.length:Int)+st.length:=by rw[ac.first];omega
 obtain⟨g1,g2⟩:=hc.g i hi;have q1:valOf c st ins (cL c i/2)=(mf c st ins i).getD (cL c i/2).toNat false:=by
  unfold bj at g1;rw[valOf,values,xQ (i:=i) (by omega) (by unfold cL;omega)]
 have q2:valOf c st ins (cN c i/2)=(mf c st ins i).getD (cN c i/2).toNat false:=by
  unfold bj at g2;rw[valOf,values,xQ (i:=i) (by omega) (by unfold cN;omega)]
 rw[q1,q2,valOf,values,xQ (i:=i+1) (by omega) (by omega),mf];have e:(c.first+(i:Int)).toNat=(mf c st ins i).length:=by rw[BX];omega
 rw[e,show ∀ (l:List Bool) (b:Bool),(l ++ [b]).getD l.length false=b from fun l b=>by simp[List.getD]];rfl
def kW (c:ac) (st ins:List Bool) (L:List Int) (x:Nat):Prop:=∀ z∈L,x.testBit (L.idxOf z)=valOf c st ins z
def E8 {x:Nat}(he:kW c st ins L x) {v:Int}{d:Bool}(hd:d=valOf c st ins v):ng L x v d=valOf c st ins v:=by
 unfold ng;split
 ·exact he v (by assumption)
 ·exact hd
def tx (hc:c.Valid) (h1:st.length=c.next.length) (h2:(ins.length:Int)=c.inputs) : ∀ i,i<=c.gates.length->∀ v,v<(bz c i).length->∀ cut∈(bz c i).getD v [],∀ (L:List Int) (x:Nat),(∀ z∈cut,z∈L)->kW c st ins L x->fF c L x (v:Int)=valOf c st ins (v:Int):=by
 have hf:=hc.am;intro i;induction i with
 | zero=>
  intro _ v hv cut hcut L x hL he;rw[kI hf.1] at hv;rw[zd (by omega) (by omega)];cases v with
  | zero=>
   refine E8 he ?_;have:=Er (c:=c) (st:=st) (ins:=ins);exact this.symm
  | succ v=>
   have e:(bz c 0).getD (v+1) []=[[(v:Int)+1]]:=by
    simp[bz,List.getD,show v<c.first.toNat-1 by omega]
   rw[e] at hcut;obtain rfl:cut=[(v:Int)+1]:=by simpa using hcut
   have hm:=hL ((v:Int)+1) (by simp);unfold ng;rw[if_pos (by rw[show((v+1:Nat):Int)=(v:Int)+1 by omega];exact hm)];exact he _ (by rw[show((v+1:Nat):Int)=(v:Int)+1 by omega];exact hm)
 | succ i ih=>
  intro hi v hv cut hcut L x hL he;have hl:=kI (c:=c) hf.1 i;rw[kI hf.1] at hv;by_cases h:v<c.first.toNat+i
  ·have e:(bz c (i+1)).getD v []=(bz c i).getD v []:=by rw[bz];exact cZ (by omega)
   rw[e] at hcut;exact ih (by omega) v (by omega) cut hcut L x hL he
  ·have hv2:v=c.first.toNat+i:=by omega
   subst hv2;rw[v6 hf.1 (by omega:i<i+1)] at hcut;obtain⟨g1,g2⟩:=hc.g i (by omega);have ha:0<=cL c i/2/\(cL c i/2).toNat<c.first.toNat+i:=by unfold cL;unfold bj at g1;omega
   have hb:0<=cN c i/2/\(cN c i/2).toNat<c.first.toNat+i:=by unfold cN;unfold bj at g2;omega
   have ev:((c.first.toNat+i:Nat):Int)=c.first+(i:Int):=by omega
   rw[ev,Ak hc (by omega)];rcases List.mem_append.1 hcut with h3|h3
   ·obtain⟨xa,ya,hxa,hya,rfl⟩ : ∃ xa ya,xa∈(bz c i).getD (cL c i/2).toNat []/\ya∈(bz c i).getD (cN c i/2).toNat []/\cut=cy xa ya:=
     zg (P:=fun cut=>∃ xa ya,xa∈(bz c i).getD (cL c i/2).toNat []/\ya∈(bz c i).getD (cN c i/2).toNat []/\cut=cy xa ya) (fun x hx y hy _=>⟨x,y,hx,hy,rfl⟩) cut h3
    have ia:=ih (by omega) _ (by rw[hl];exact ha.2) xa hxa L x (fun z hz=>hL z ((ow _ _).2 (.inl hz))) he;have ib:=ih (by omega) _ (by rw[hl];exact hb.2) ya hya L x (fun z hz=>hL z ((ow _ _).2 (.inr hz))) he;rw[Int.toNat_of_nonneg ha.1] at ia;rw[Int.toNat_of_nonneg hb.1] at ib;refine E8 he ?_;rw[ia,ib,MR hc h1 h2 (by omega)]
   ·obtain rfl:cut=[c.first+(i:Int)]:=by simpa using h3
    have hm:=hL (c.first+(i:Int)) (by simp);unfold ng;rw[if_pos hm];exact he _ hm
def fA (f:Int->Bool):List Int->Nat
 | []=>0
 | z::r=>(if f z then 1 else 0)+2*fA f r
def FA {f:Int->Bool} : ∀ (L:List Int),fA f L<2 ^ L.length
 | []=>by simp[fA]
 | z::r=>by
  have:=FA (f:=f) r;rw[fA,cU,Nat.pow_succ];split <;> omega
def GG {f:Int->Bool} : ∀ (L:List Int) (k:Nat),k<L.length->(fA f L).testBit k=f (L.getD k 0)
 | [],k,h=>by simp at h
 | z::r,0,_=>by
  rw[fA,Nat.testBit_zero];cases hz:f z <;> simp[hz] <;> omega
 | z::r,k+1,h=>by
  rw[fA,Nat.testBit_succ,show((if f z=true then 1 else 0)+2*fA f r)/2=fA f r by split <;> omega];exact GG r k (by simpa using h)
def K2:kW c st ins L (fA (valOf c st ins) L):=by
 intro z hz;have hk:L.idxOf z<L.length:=List.idxOf_lt_length_iff.2 hz;rw[GG L _ hk];congr 1;simp[List.getD,hk]
def LB (hc:c.Valid) (h1:st.length=c.next.length) (h2:(ins.length:Int)=c.inputs) (hi:i<c.gates.length) :
  (lV c (c.first+(i:Int)) ((cS c).getD (c.first.toNat+i) []) (2 ^ ((cS c).getD (c.first.toNat+i) []).length)).testBit (fA (valOf c st ins) ((cS c).getD (c.first.toNat+i) []))=valOf c st ins (c.first+(i:Int)):=by
 have hf:=hc.am;have hm:=IH hc hi;rw[Kj _ _ _ _ _ (FA _)];have hl:=kI (c:=c) hf.1 (i+1);have:=tx hc h1 h2 (i+1) (by omega) (c.first.toNat+i) (by omega) _ (by rw[v6 hf.1 (by omega:i<i+1)];exact nz _ hm) _ _ (fun z hz=>hz) (K2 (c:=c) (st:=st) (ins:=ins) (L:=(cS c).getD (c.first.toNat+i) []));rw[show((c.first.toNat+i:Nat):Int)=c.first+(i:Int) by omega] at this;exact this
end vals
noncomputable def mc (c:ac) (i:Nat):kQ:=⟨c.first+(i:Int),(cS c).getD (c.first.toNat+i) [],s8 c (c.first+(i:Int)) ((cS c).getD (c.first.toNat+i) [])⟩
structure tT (c:ac) (j:Nat) (need:List Bool) (new:List kQ):Prop where
 each : ∀ l∈new,∃ i,i<j/\l=mc c i
 gJ:new.Pairwise fun a b=>a.var<b.var
 all : ∀ i,i<j->((∃ l∈new,l.var=c.first+(i:Int))↔need.getD (c.first.toNat+i) false=true∨∃ l∈new,c.first+(i:Int)∈l.leaves)
def Es {c:ac}(hc:c.Valid) : ∀ (j:Nat),j<=c.gates.length->∀ (need:List Bool) (out:List kQ),need.length=c.vars.toNat->∃ new,fC c j need out=new++out/\tT c j need new
 | 0,_,need,out,_=>⟨[],rfl,by simp,by simp,by omega⟩
 | j+1,hj,need,out,hn=>by
  have hf:=hc.am;have hv:=hc.aM;have hvv:c.vars=c.first+(c.gates.length:Int):=rfl
  have hb:=p6 hc (i:=j) (by omega);simp only[fC];split
  ·rename_i hnd;obtain⟨new,e,m⟩:=Es hc j (by omega) (fg need ((cS c).getD (c.first.toNat+j) [])) (mc c j::out) (by rw[s6];exact hn);refine⟨new ++ [mc c j],by rw[fS];exact e,fun l hl=>?_,?_,fun i hi=>?_⟩
   ·rcases List.mem_append.1 hl with h|h
    ·obtain⟨i,h1,h2⟩:=m.each l h;exact⟨i,by omega,h2⟩
    ·obtain rfl:l=mc c j:=by simpa using h
     exact⟨j,by omega,rfl⟩
   ·rw[List.pairwise_append];refine⟨m.gJ,by simp,fun a ha b hb2=>?_⟩;obtain rfl:b=mc c j:=by simpa using hb2
    obtain⟨i,h1,rfl⟩:=m.each a ha;show c.first+(i:Int)<c.first+(j:Int)
    omega
   ·have hleaf : ∀ i',i'<j->(c.first+(i':Int)∈(mc c j).leaves↔c.first+(i':Int)∈(cS c).getD (c.first.toNat+j) []):=fun i' _=>Iff.rfl
    by_cases hij:i=j
    ·subst hij;constructor
     ·exact fun _=>.inl hnd
     ·exact fun _=>⟨mc c i,by simp,rfl⟩
    ·have bW:i<j:=by omega
     have hset:=yP ((cS c).getD (c.first.toNat+j) []) need (c.first.toNat+i) (fun v hv=>by have:=hb.2.2 v hv;omega);have hmi:=m.all i bW;rw[hset,oD,decide_eq_true_eq] at hmi;have hlt:c.first.toNat+i<need.length:=by omega
     have ev:((c.first.toNat+i:Nat):Int)=c.first+(i:Int):=by omega
     rw[ev] at hmi;constructor
     ·rintro⟨l,hl,hlv⟩;rcases List.mem_append.1 hl with h|h
      ·rcases hmi.1 ⟨l,h,hlv⟩ with(h2|⟨_,h2⟩)|⟨l2,h2,h3⟩
       ·exact .inl h2
       ·exact .inr ⟨mc c j,by simp,h2⟩
       ·exact .inr ⟨l2,nz _ h2,h3⟩
      ·obtain rfl:l=mc c j:=by simpa using h
       have:c.first+(j:Int)=c.first+(i:Int):=hlv
       omega
     ·rintro(h|⟨l,hl,hlv⟩)
      ·obtain⟨l,h1,h2⟩:=hmi.2 (.inl (.inl h));exact⟨l,nz _ h1,h2⟩
      ·rcases List.mem_append.1 hl with h|h
       ·obtain⟨l,h1,h2⟩:=hmi.2 (.inr ⟨l,h,hlv⟩);exact⟨l,nz _ h1,h2⟩
       ·obtain rfl:l=mc c j:=by simpa using h
        obtain⟨l,h1,h2⟩:=hmi.2 (.inl (.inr ⟨hlt,hlv⟩));exact⟨l,nz _ h1,h2⟩
  ·rename_i hnd;obtain⟨new,e,m⟩:=Es hc j (by omega) need out hn;refine⟨new,e,fun l hl=>?_,m.gJ,fun i hi=>?_⟩
   ·obtain⟨i,h1,h2⟩:=m.each l hl;exact⟨i,by omega,h2⟩
   ·by_cases hij:i=j
    ·subst hij;constructor
     ·rintro⟨l,hl,hlv⟩;obtain⟨i2,h1,rfl⟩:=m.each l hl;have:c.first+(i2:Int)=c.first+(i:Int):=hlv
      omega
     ·rintro(h|⟨l,hl,hlv⟩)
      ·exact absurd h hnd
      ·obtain⟨i2,h1,rfl⟩:=m.each l hl;have:=(p6 hc (i:=i2) (by omega)).2.2 _ hlv;omega
    ·exact m.all i (by omega)
def Ep (c:ac):(lT c).length=c.vars.toNat:=by rw[lT,s6];simp
def CN {c:ac}(hc:c.Valid) : ∀ v∈ku c,0<=v/\v<c.vars:=by
 intro v hv;obtain⟨l,hl,rfl⟩:=List.mem_map.1 hv;have:bj l c.vars:=by
  rcases List.mem_append.1 hl with h|h
  ·exact hc.o l h
  ·exact hc.n l h
 unfold bj at this;omega
def Lt {c:ac}(hc:c.Valid) (hv:(v:Int)<c.vars):(lT c).getD v false=decide ((v:Int)∈ku c):=by
 rw[lT,yP _ _ _ fun z hz=>(CN hc z hz).1];have e:(List.replicate c.vars.toNat false).getD v false=false:=by
  rw[List.getD_eq_getElem?_getD,List.getElem?_replicate];split <;> rfl
 rw[e,Bool.false_or];exact decide_eq_decide.2 ⟨fun h=>h.2,fun h=>⟨by simp;omega,h⟩⟩
def ro {c:ac}(hc:c.Valid):tT c c.gates.length (lT c) (iQ c):=by
 obtain⟨new,e,m⟩:=Es hc c.gates.length (aC _) (lT c) [] (Ep c);rw[jN] at e;rw[iQ,e];exact m
def NA {c:ac}(hc:c.Valid) (hi:i<c.gates.length):mc c i∈iQ c↔c.first+(i:Int)∈ku c∨∃ l∈iQ c,c.first+(i:Int)∈l.leaves:=by
 have hf:=hc.am;have m:=ro hc;have:=m.all i hi;have hvv:c.vars=c.first+(c.gates.length:Int):=rfl
 rw[Lt hc (by omega),decide_eq_true_eq,show((c.first.toNat+i:Nat):Int)=c.first+(i:Int) by omega] at this;rw[<-this];constructor
 ·exact fun h=>⟨_,h,rfl⟩
 ·rintro⟨l,hl,hv⟩;obtain⟨i2,h1,rfl⟩:=m.each l hl;have:c.first+(i2:Int)=c.first+(i:Int):=hv
  obtain rfl:i2=i:=by omega
  exact hl
def DT {c:ac}(hc:c.Valid):(iQ c).length<=c.gates.length:=by
 have m:=ro hc;have h1:((iQ c).map fun l=>(l.var-c.first).toNat).Nodup:=by
  rw[List.nodup_iff_pairwise_ne,List.pairwise_map];refine m.gJ.imp_of_mem fun {a b} ha hb h=>?_
  obtain⟨i,-,rfl⟩:=m.each a ha;obtain⟨j,-,rfl⟩:=m.each b hb;have:c.first+(i:Int)<c.first+(j:Int):=h
  show(c.first+(i:Int)-c.first).toNat≠(c.first+(j:Int)-c.first).toNat
  omega
 have h2:((iQ c).map fun l=>(l.var-c.first).toNat) ⊆ List.range c.gates.length:=by
  intro x hx;obtain⟨l,hl,rfl⟩:=List.mem_map.1 hx;obtain⟨i,hi,rfl⟩:=m.each l hl;have:(mc c i).var=c.first+(i:Int):=rfl
  exact List.mem_range.2 (by omega)
 have:=h1.length_le_of_subset h2;simpa using this
def qf {c:ac}(hc:c.Valid):(ax c).length<=17:=by
 have:=DT hc;have:=hc.ln;have:=hc.lg;simp only[ax,cr,ie,rB];omega
end Go.VL

set_option maxRecDepth 20000
set_option linter.unusedVariables false
set_option linter.unusedSimpArgs false
namespace Go.Proofs
set_option linter.defProp false
open Go Go.VL
def Tryz.nZ (c:ac) (hc:c.Valid) (leaves:List Int) (hl:leaves.length<=3) (v:Int) (hv0:0<=v) (hv:v<c.vars):Pure prog 191 [dC c,dI v,ai leaves] (dI (s8 c v leaves)):=by
 have hpw:=uS (n:=2) (by omega) hl;have hI:(2:Int) ^ leaves.length=((2 ^ leaves.length:Nat):Int):=by simp
 have hfin:s8 c v leaves=((lV c v leaves (2 ^ leaves.length):Nat):Int):=rfl;rw[hfin];generalize 2 ^ leaves.length=N at *
 refine bw func191 rfl ntmps191 fun ok=>?_
 simp only[go_sem,seval] at ok⊢
 repeat' first|assumption|simp (disch:=first|assumption|omega|simp;try omega) only[ag];try simp only[go_sem,seval]|(with_reducible first|apply aa|intro)|(try rw[ae]);omega
 refine ce (E:=env 0) tok (σ:=Nat) (fun x=>[(0,.d (dC c)),(1,.d (dI v)),(2,.d (ai leaves)),(3,.ptr 0 0),(7,.d (dI (lV c v leaves x:Nat))),(8,.d (dI x))]) (fun _=>[.box [.d (dI c.inputs),.d (ai c.next),.d (aO c.gates),.d (ai c.outs)]]) (fun x=>x<=N) (fun x=>N-x) [] 1000 1000 ?_ ?_ ?_
 ·simp only[go_sem,seval]
 ·simp only[go_sem,seval];exact⟨0,by omega,rfl,rfl⟩
 ·intro x hx;have htl:=yF c v leaves x;have htp:=uS (n:=2) (by omega) (show x<=8 by omega);have hI2:(2:Int) ^ x=((2 ^ x:Nat):Int):=by simp
  have hts:lV c v leaves (x+1)=lV c v leaves x+(if fF c leaves x v then 2 ^ x else 0):=rfl;generalize 2 ^ x=M at *
  by_cases hlt:x<N
  ·have q:=q9 c hc leaves hl x (by omega) (v.toNat+1) v (by omega) hv0 hv;simp only[go_sem,seval,hI,hI2]
   repeat' first|assumption|simp (disch:=first|assumption|omega|simp;try omega) only[ag];try simp only[go_sem,seval,hI,hI2]|(with_reducible first|apply aa|intro)|(refine aA q ?_;simp only[go_sem,seval,hI,hI2])|(try rw[ae]);omega
   ·rename_i h9;exact⟨x+1,by omega,by omega,by rw[hts,if_pos h9];omega,rfl⟩
   ·rename_i h9;exact⟨x+1,by omega,by omega,by rw[hts,if_neg (by rw[h9];simp)];omega,rfl⟩
  ·simp only[go_sem,seval,hI,hI2]
   repeat' first|assumption|simp (disch:=first|assumption|omega|simp;try omega) only[ag];try simp only[go_sem,seval,hI,hI2]|(with_reducible first|apply aa|intro)|(try rw[ae]);omega
   rw[show x=N by omega]
abbrev uW (l:kQ):D:=.agg [dI l.var,ai l.leaves,dI l.table]
abbrev oX (l:List kQ):D:=.lst 3 (l.map fun x=>uW x)
def jT:kQ:=⟨0,[],0⟩
def dt {l:List kQ}{i:Nat}{z:D}(h:i<l.length):(l.map fun x=>uW x).getD i z=uW (l.getD i jT):=ck _ _ _ _ _ h
set_option maxHeartbeats 4000000 in
def Tryz.sx (c:ac) (hc:c.Valid):bk prog 137 [dC c] (oX (iQ c)):=by
 have hf:=hc.am;have hi0:=hc.i0;have hi1:=hc.i1;have hfst:=ba c (by omega);have hcu:=qm c hc;have hbe:=qS c hc;have hlo:=hc.lo;have hln:=hc.ln;have hlg:=hc.lg;refine pu (E:=dx 0) tok rfl 1000 func137 rfl rfl ntmps137 (by simp) fun ok=>?_
 simp only[go_sem,seval] at ok⊢;have hvr:(c.first+(c.gates.length:Int)).toNat=c.vars.toNat:=rfl;have hvv:c.vars=c.first+(c.gates.length:Int):=rfl
 have hrl:(c.outs++c.next).length=c.outs.length+c.next.length:=by simp
 have hrv:=CN hc;have hrd:ku c=(c.outs++c.next).map (· / 2):=rfl;have hn0:lT c=fg (List.replicate c.vars.toNat false) (ku c):=rfl;apply pQ
 ·intro key;refine xX (E:=dx 0) tok Tryz.follows 1000 1000 [] (aw [0,1] (.one 2 (.one 3 (aw [4,5,6,7,8] .done)))) (by kernel_rfl) ?_;simp only[go_sem,seval]
  repeat' first|assumption|simp (disch:=first|assumption|omega|simp;try omega) only[ag];try simp only[go_sem,seval]|(with_reducible first|apply aa|intro)|(refine aA hfst ?_;simp only[go_sem,seval])|(refine kA hcu ?_;simp only[go_sem,seval])|(refine kA hbe ?_;simp only[go_sem,seval])|(try rw[ae]);omega
  all_goals (
   refine xX (E:=dx 0) tok Tryz.follows 1000 1000 [3,6] (aw [1,4,2] (.two 0 (.two 3 (.one 5 (.one 6 (.fst 7 .done))) 5 (.one 3 (.one 6 (.fst 7 .done)))) 5 (.one 0 (.one 3 (.one 6 (.fst 7 .done)))))) (by kernel_rfl) ?_;simp only[go_sem,seval]
   repeat' first|assumption|simp (disch:=first|assumption|omega|simp;try omega) only[ag];try simp only[go_sem,seval]|(with_reducible first|apply aa|intro)|(refine aA hfst ?_;simp only[go_sem,seval])|(try rw[ae]);omega)
  all_goals (
   rw[hvr];refine yG (E:=dx 0) [(0,.d (dC c)),(1,.ptr 0 0),(3,.d (.lst 1 (ir c (cS c)))),(5,.d (dI c.first)),(6,.sl 1 0 1 0 c.vars.toNat),(7,.sl 2 2 1 0 (c.outs.length+c.next.length)),(8,.d (dI 0))]
    [.box [.d (dI c.inputs),.d (ai c.next),.d (aO c.gates),.d (ai c.outs)],.row 0 1 true ((List.replicate c.vars.toNat false).map D.bool),.row 2 1 true ((c.outs++c.next).map (D.int .i64))] rfl ?_ ?_
   ·simp only[go_sem,seval];done
   ·exact key.get)
 generalize hroots:c.outs++c.next=roots at *
 refine bt (E:=dx 0) tok (σ:=Nat) (fun i=>[(0,.d (dC c)),(1,.ptr 0 0),(3,.d (.lst 1 (ir c (cS c)))),(5,.d (dI c.first)),(6,.sl 1 0 1 0 c.vars.toNat),(7,.d (ai roots)),(8,.d (dI i))])
  (fun i=>[.box [.d (dI c.inputs),.d (ai c.next),.d (aO c.gates),.d (ai c.outs)],.row 0 1 true ((fg (List.replicate c.vars.toNat false) ((ku c).take i)).map D.bool)])
  (fun i=>i<=roots.length) (fun i=>roots.length-i) [] [] 1000 1000 ?_ ?_
 ·simp only[go_sem,seval];refine⟨0,by omega,?_⟩;simp[fg,<-hrl]
 ·intro i hi;have hsl:=s6 ((ku c).take i) (List.replicate c.vars.toNat false);rw[mB] at hsl;by_cases hlt:i<roots.length
  ·have hrg:(ku c).getD i 0=roots.getD i 0/2:=by rw[hrd];simp[List.getD,hlt]
   have hbd:=hrv _ (aP (by rw[hrd];simpa using hlt):(ku c).getD i 0∈ku c);have hst:fg (List.replicate c.vars.toNat false) ((ku c).take (i+1))=(fg (List.replicate c.vars.toNat false) ((ku c).take i)).set (roots.getD i 0/2).toNat true:=by
    rw[<-hrg];exact gI (f:=fun(n:List Bool) (v:Int)=>n.set v.toNat true) (b:=List.replicate c.vars.toNat false) (0:Int) (by rw[hrd];simpa using hlt)
   rw[hrg] at hbd;simp only[go_sem,seval]
   repeat' first|assumption|simp (disch:=first|assumption|omega|simp;try omega) only[ag];try simp only[go_sem,seval]|(with_reducible first|apply aa|intro)|(try rw[ae]);omega
   exact⟨i+1,by omega,by omega,rfl,by rw[hst]⟩
  ·have hst:fg (List.replicate c.vars.toNat false) ((ku c).take i)=lT c:=by rw[hn0,ag (by rw[hrd];simp;omega)]
   rw[hst];simp only[go_sem,seval]
   repeat' first|assumption|simp (disch:=first|assumption|omega|simp;try omega) only[ag];try simp only[go_sem,seval]|(with_reducible first|apply aa|intro)|(try rw[ae]);omega
   have hne0:=Ep c;have hlu:iQ c=fC c c.gates.length (lT c) []:=rfl;refine bt (E:=dx 0) tok (σ:=Nat×List Bool×List kQ) (fun s=>[(0,.d (dC c)),(1,.ptr 0 0),(3,.d (.lst 1 (ir c (cS c)))),(5,.d (dI c.first)),(6,.sl 1 0 1 0 c.vars.toNat),(9,.d (oX s.2.2)),(10,.d (dI (c.first+(s.1:Int)-1)))])
    (fun s=>[.box [.d (dI c.inputs),.d (ai c.next),.d (aO c.gates),.d (ai c.outs)],.row 0 1 true (s.2.1.map D.bool)])
    (fun s=>s.1<=c.gates.length/\s.2.1.length=c.vars.toNat/\s.2.2.length+s.1<=c.gates.length/\fC c s.1 s.2.1 s.2.2=iQ c) (fun s=>s.1) [] [] 1000 1000 ?_ ?_
   ·simp only[go_sem,seval];refine⟨(c.gates.length,lT c,[]),⟨by simp,hne0,by simp,hlu.symm⟩,?_⟩;simp;omega
   ·rintro⟨j,need,out⟩ ⟨hj,hnl,hol,hinv⟩;simp only at hj hnl hol hinv;cases j with
    | zero=>
     simp only[go_sem,seval]
     repeat' first|assumption|simp (disch:=first|assumption|omega|simp;try omega) only[ag];try simp only[go_sem,seval]|(with_reducible first|apply aa|intro)|(try rw[ae]);omega
     rw[<-hinv];rfl
    | succ m=>
     have hbo:=p6 hc (i:=m) (by omega);have hbl:=IR c;have ev:(c.first+((m+1:Nat):Int)-1)=c.first+(m:Int):=by omega
     have ev2:(c.first+(m:Int)).toNat=c.first.toNat+m:=by omega
     have hbg : ∀ z,(ir c (cS c)).getD (c.first.toNat+m) z=ai ((cS c).getD (c.first.toNat+m) []):=fun z=>Jk (by omega) (by omega)
     have hstep:fC c (m+1) need out=if need.getD (c.first.toNat+m) false=true then
       fC c m (fg need ((cS c).getD (c.first.toNat+m) [])) (⟨c.first+(m:Int),(cS c).getD (c.first.toNat+m) [],s8 c (c.first+(m:Int)) ((cS c).getD (c.first.toNat+m) [])⟩::out)
      else fC c m need out:=rfl
     have htb:=nZ c hc ((cS c).getD (c.first.toNat+m) []) hbo.2.1 (c.first+(m:Int)) (by omega) (by omega);have hbD:(ir c (cS c)).length=c.first.toNat+c.gates.length:=by rw[uu (by omega)];exact hbl
     rw[ev];generalize hL:(cS c).getD (c.first.toNat+m) []=L at *
     by_cases hnd:need.getD (c.first.toNat+m) false=true
     ·rw[if_pos hnd] at hstep;simp only[go_sem,seval,ev2,hnd,hbg]
      repeat' first|assumption|simp (disch:=first|assumption|omega|simp;try omega) only[ag];try simp only[go_sem,seval,ev2,hnd,hbg]|(with_reducible first|apply aa|intro)|(try rw[ae]);omega
      refine bt (E:=dx 0) tok (σ:=Nat) (fun k=>[(0,.d (dC c)),(1,.ptr 0 0),(3,.d (.lst 1 (ir c (cS c)))),(5,.d (dI c.first)),(6,.sl 1 0 1 0 c.vars.toNat),(9,.d (oX out)),(10,.d (dI (c.first+(m:Int)))),(11,.d (dI k))])
       (fun k=>[.box [.d (dI c.inputs),.d (ai c.next),.d (aO c.gates),.d (ai c.outs)],.row 0 1 true ((fg need (L.take k)).map D.bool)])
       (fun k=>k<=L.length) (fun k=>L.length-k) [] [] 1000 1000 ?_ ?_
      ·simp only[go_sem,seval];exact⟨0,by omega,rfl,rfl⟩
      ·intro k hk;have hsl:=s6 (L.take k) need;by_cases hkt:k<L.length
       ·have hst:fg need (L.take (k+1))=(fg need (L.take k)).set (L.getD k 0).toNat true:=gI (f:=fun(n:List Bool) (v:Int)=>n.set v.toNat true) (b:=need) (0:Int) hkt;have hz:=hbo.2.2 _ (aP hkt:L.getD k 0∈L);simp only[go_sem,seval,ev2,hbg]
        repeat' first|assumption|simp (disch:=first|assumption|omega|simp;try omega) only[ag];try simp only[go_sem,seval,ev2,hbg]|(with_reducible first|apply aa|intro)|(try rw[ae]);omega
        exact⟨k+1,by omega,by omega,rfl,hst.symm⟩
       ·have hst:fg need (L.take k)=fg need L:=by rw[ag (by omega)]
        rw[hst];rw[hst] at hsl;simp only[go_sem,seval,ev2,hbg]
        repeat' first|assumption|simp (disch:=first|assumption|omega|simp;try omega) only[ag];try simp only[go_sem,seval,ev2,hbg]|(with_reducible first|apply aa|intro)|(try rw[ae]);omega
        refine xX (E:=dx 0) tok Tryz.follows 1000 1000 [6,17] (aw [0,2,3,4,8,9,10,11,16,5] (.three 1 (.three 6 (.two 7 (.one 12 (.one 13 (.fst 14 (.one 15 (.one 17 (.fst 18 .done)))))) 12 (.one 7 (.one 13 (.fst 14 (.one 15 (.one 17 (.fst 18 .done))))))) 7 (.two 6 (.one 12 (.one 13 (.fst 14 (.one 15 (.one 17 (.fst 18 .done)))))) 12 (.one 6 (.one 13 (.fst 14 (.one 15 (.one 17 (.fst 18 .done))))))) 12 (.two 6 (.one 7 (.one 13 (.fst 14 (.one 15 (.one 17 (.fst 18 .done)))))) 7 (.one 6 (.one 13 (.fst 14 (.one 15 (.one 17 (.fst 18 .done)))))))) 7 (.two 1 (.two 6 (.one 12 (.one 13 (.fst 14 (.one 15 (.one 17 (.fst 18 .done)))))) 12 (.one 6 (.one 13 (.fst 14 (.one 15 (.one 17 (.fst 18 .done))))))) 12 (.one 1 (.one 6 (.one 13 (.fst 14 (.one 15 (.one 17 (.fst 18 .done)))))))) 12 (.two 1 (.two 6 (.one 7 (.one 13 (.fst 14 (.one 15 (.one 17 (.fst 18 .done)))))) 7 (.one 6 (.one 13 (.fst 14 (.one 15 (.one 17 (.fst 18 .done))))))) 7 (.one 1 (.one 6 (.one 13 (.fst 14 (.one 15 (.one 17 (.fst 18 .done)))))))))) (by kernel_rfl) ?_;simp only[go_sem,seval,ev2,hbg]
        repeat' first|assumption|simp (disch:=first|assumption|omega|simp;try omega) only[ag];try simp only[go_sem,seval,ev2,hbg]|(with_reducible first|apply aa|intro)|(refine aA htb ?_;simp only[go_sem,seval,ev2,hbg])|(try rw[ae]);omega
        all_goals exact⟨(m,fg need L,⟨c.first+(m:Int),L,s8 c (c.first+(m:Int)) L⟩::out),⟨by simp only;omega,hsl.trans hnl,by simp only[cU];omega,by rw[<-hinv,hstep]⟩,by simp only;omega,⟨rfl,by simp only⟩,rfl⟩
     ·rw[if_neg hnd] at hstep;rw[Bool.not_eq_true] at hnd;simp only[go_sem,seval,ev2,hnd,hbg]
      repeat' first|assumption|simp (disch:=first|assumption|omega|simp;try omega) only[ag];try simp only[go_sem,seval,ev2,hnd,hbg]|(with_reducible first|apply aa|intro)|(try rw[ae]);omega
      exact⟨(m,need,out),⟨by simp only;omega,hnl,by simp only;omega,by rw[<-hinv,hstep]⟩,by simp only;omega,⟨rfl,by simp only⟩,rfl⟩
end Go.Proofs

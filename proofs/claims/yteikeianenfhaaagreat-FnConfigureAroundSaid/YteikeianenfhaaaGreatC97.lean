/- Contracts, plain definitions and lemmas. Conditions: none; lemmas. -/
import Derived.Test.YteikeianenfhaaaGreatC94
import Derived.Test.YteikeianenfhaaaGreatC7
set_option maxRecDepth 20000
set_option linter.unusedSimpArgs false
set_option linter.unusedVariables false
set_option maxHeartbeats 2000000
namespace Go.Proofs
set_option linter.defProp false
open Go Go.VL Tryz
variable {c:Circ}{N n:Nat}{l:List (List Int)}{α:Type}{x:List Int}
def Tryz.c_joinCuts (P Q:List (List Int)) (hP:P.length<=9) (hQ:Q.length<=9) (pa : ∀ x∈P,asc x/\x.length<=3) (qa : ∀ x∈Q,asc x/\x.length<=3):ICall prog 209 [.d (dIss P),.d (dIss Q)] []
  (fun r H'=>∃ g,r=.sl 0 g 1 0 (qfL P Q).length/\H'=[.row g 1 false ((qfL P Q).map fun x=>dIs x)]):=by
 refine qaz (E:=env 0) tok rfl 1000 func209 rfl rfl ntmps209 (by simp) ?_
 repeat' first|assumption|(simp (disch:=first|assumption|omega|(simp;done)|(simp;omega)) only[go_sem,seval,yaa,qau])|(with_reducible first|apply And.intro|intro _)|((try rw[qaa]);omega)
 refine qaf (E:=env 0) tok (σ:=Nat) (fun a=>[(13,.d (dI a)),(12,.d (dI P.length)),(11,.d (dIss P)),(5,.sl 0 ((P.take a).foldl (fun l x=>rowC x Q l) []).length 1 0 ((P.take a).foldl (fun l x=>rowC x Q l) []).length),(1,.d (dIss Q))])
  (fun a=>[.row ((P.take a).foldl (fun l x=>rowC x Q l) []).length 1 false (((P.take a).foldl (fun l x=>rowC x Q l) []).map fun x=>dIs x)])
  (fun a=>a<=P.length/\((P.take a).foldl (fun l x=>rowC x Q l) []).length<=8) (fun a=>P.length-a) [] [(5,1,false)] 1000 1000 ?_ ?_
 ·simp only[go_sem,seval];exact⟨0,⟨by omega,by simp⟩,by simp⟩
 ·rintro a ⟨ha,hl8⟩;by_cases hat:a<P.length
  ·have hsa:=qaA (f:=fun l x=>rowC x Q l) (b:=[]) ([]:List Int) hat;have hpx:=pa _ (qad hat:P.getD a []∈P);generalize hx9:P.getD a []=X at *
   generalize (P.take a).foldl (fun l x=>rowC x Q l) []=L0 at *
   repeat' first|assumption|(simp (disch:=first|assumption|omega|(simp;done)|(simp;omega)) only[go_sem,seval,hx9,yaa,qau])|(with_reducible first|apply And.intro|intro _)|((try rw[qaa]);omega)
   refine qaf (E:=env 0) tok (σ:=Nat) (fun b=>[(19,.d (dI b)),(18,.d (dI Q.length)),(17,.d (dIss Q)),(7,.d (dIs X)),(13,.d (dI a)),(12,.d (dI P.length)),(11,.d (dIss P)),(5,.sl 0 (rowC X (Q.take b) L0).length 1 0 (rowC X (Q.take b) L0).length),(1,.d (dIss Q))])
    (fun b=>[.row (rowC X (Q.take b) L0).length 1 false ((rowC X (Q.take b) L0).map fun x=>dIs x)])
    (fun b=>b<=Q.length) (fun b=>Q.length-b) [] [] 1000 1000 ?_ ?_
   ·simp only[go_sem,seval];exact⟨0,by omega,by simp[rowC]⟩
   ·intro b hb;have hr8:=qhc (x:=X) (q:=Q.take b) hl8;by_cases hbt:b<Q.length
    ·have hsb:rowC X (Q.take (b+1)) L0=addC (rowC X (Q.take b) L0) (qaH X (Q.getD b [])):=qaA (f:=fun l y=>addC l (qaH X y)) (b:=L0) ([]:List Int) hbt;have hqy:=qa _ (qad hbt:Q.getD b []∈Q);generalize hy9:Q.getD b []=Y at *
     generalize rowC X (Q.take b) L0=L1 at *
     have had:addC L1 (qaH X Y)=if(qaH X Y).length<=3/\L1.length<8/\qaH X Y∉L1 then L1 ++ [qaH X Y] else L1:=rfl
     repeat' first|assumption|(simp (disch:=first|assumption|omega|(simp;done)|(simp;omega)) only[go_sem,seval,hx9,hy9,yaa,qau])|(with_reducible first|apply And.intro|intro _)|((try rw[qaa]);omega)
     refine qan (c_Concat X Y (by omega) (by omega)) [1] (by simp only[go_sem,seval]) ?_;rintro r0 H1 ⟨g',rfl,rfl⟩
     repeat' first|assumption|(simp (disch:=first|assumption|omega|(simp;done)|(simp;omega)) only[go_sem,seval,hx9,hy9,yaa,qau])|(with_reducible first|apply And.intro|intro _)|((try rw[qaa]);omega)
     have hxy:X.length+Y.length=(X++Y).length:=by simp
     rw[hxy];refine qan (c_Sort g' (X++Y) (by simp;omega)) [2] (by simp only[go_sem,seval]) ?_;rintro r0 H1 ⟨m,hm,rfl⟩;have hml:=hm.len;rw[<-hxy] at hml
     repeat' first|assumption|(simp (disch:=first|assumption|omega|(simp;done)|(simp;omega)) only[go_sem,seval,hx9,hy9,yaa,qau])|(with_reducible first|apply And.intro|intro _)|((try rw[qaa]);omega)
     rw[<-hml];refine qan (c_Compact g' m (by omega)) [2] (by simp only[go_sem,seval]) ?_;have hz:qbY m=qaH X Y:=join_eq hpx.1 hqy.1 hm.1 (SortTo.pairwise (by rw[hxy,<-hm.len] at hml;rw[hm.len];exact hm));rw[hz];generalize qaH X Y=Z at *
     rintro r0 H1 ⟨g2,rfl,rfl⟩
     repeat' first|assumption|(simp (disch:=first|assumption|omega|(simp;done)|(simp;omega)) only[go_sem,seval,hx9,hy9,yaa,qau])|(with_reducible first|apply And.intro|intro _)|(refine qac (c_ContainsFunc L1 Z (by omega)) ?_)|((try rw[qaa]);omega)
     ·rename_i h9;have e:rowC X (Q.take (b+1)) L0=L1:=by rw[hsb,had,if_neg (by rintro⟨q1,q2,q3⟩;omega)]
      refine⟨b+1,by omega,by omega,?_⟩;rw[e];exact⟨⟨rfl,rfl⟩,rfl,rfl⟩
     ·rename_i h9 h8;have e:rowC X (Q.take (b+1)) L0=L1 ++ [Z]:=by rw[hsb,had,if_pos ⟨by omega,by omega,h8⟩]
      refine⟨b+1,by omega,by omega,?_⟩;rw[e];exact⟨⟨by simp,by simp⟩,by simp,by simp⟩
     ·rename_i h9 h8;have e:rowC X (Q.take (b+1)) L0=L1:=by rw[hsb,had,if_neg (by rintro⟨q1,q2,q3⟩;exact q3 h8)]
      refine⟨b+1,by omega,by omega,?_⟩;rw[e];exact⟨⟨rfl,rfl⟩,rfl,rfl⟩
    ·repeat' first|assumption|(simp (disch:=first|assumption|omega|(simp;done)|(simp;omega)) only[go_sem,seval,yaa,qau])|(with_reducible first|apply And.intro|intro _)|((try rw[qaa]);omega)
     refine⟨a+1,⟨by omega,?_⟩,by omega,?_⟩
     ·rw[hsa];exact qhc hl8
     ·rw[hsa];exact⟨⟨rfl,rfl⟩,rfl,rfl⟩
  ·obtain rfl:a=P.length:=by omega
   repeat' first|assumption|(simp (disch:=first|assumption|omega|(simp;done)|(simp;omega)) only[go_sem,seval,yaa,qau])|(with_reducible first|apply And.intro|intro _)|((try rw[qaa]);omega)
   exact qbS ⟨_,rfl,rfl⟩

def Tryz.c_Cuts (c:Circ) (hc:c.Valid):PureF prog 176 [dC c] (qlA (qbf c)):=by
 have hf:=hc.first_bd;have hi0:=hc.i0;have hi1:=hc.i1;have hfst:=c_firstGate c (by omega);have hl0:=qa5 (c:=c) hf.1 0;have hcv:=c_CircuitValid c;refine qcE (E:=env 0) tok rfl 1000 func176 rfl rfl ntmps176 (by simp) fun ok=>?_
 simp only[go_sem,seval] at ok⊢
 repeat' first|assumption|(simp (disch:=first|assumption|omega|(simp;done)|(simp;omega)) only[yaa,qaE];try simp only[go_sem,seval])|(with_reducible first|apply And.intro|intro _)|(refine qac hfst ?_;simp only[go_sem,seval])|(refine qac hcv ?_;simp only[go_sem,seval])|((try rw[qaa]);omega)
 ·rename_i h9;exact absurd hc h9
 rename_i h9;refine qaf (E:=env 0) tok (σ:=Nat) (fun v=>[(1,.ptr 0 0),(3,.sl 3 (v-1) 1 0 v),(4,.d (dI v))]) (fun v=>[.box [.d (dI c.inputs),.d (dIs c.next),.d (dPs c.gates),.d (dIs c.outs)],.dead 0,.dead 0,.row (v-1) 1 false (((qaI c 0).take v).map fun x=>dIss x)])
  (fun v=>1<=v/\(v:Int)<=c.first) (fun v=>c.first.toNat-v) [] [] 1000 1000 ?_ ?_
 ·simp only[go_sem,seval];exact⟨1,⟨by omega,by omega⟩,⟨⟨rfl,rfl⟩,rfl⟩,rfl,by simp[qaI]⟩
 ·rintro v ⟨hv1,hv⟩;by_cases hlt:(v:Int)<c.first
  ·have hg:(qaI c 0).getD v []=[[(v:Int)]]:=by
    obtain⟨m,rfl⟩ : ∃ m,v=m+1:=⟨v-1,by omega⟩;simp[qaI,List.getD,show m<c.first.toNat-1 by omega]
   have hts:=qaT (f:=fun x=>dIss x) ([]:List (List Int)) (show v<(qaI c 0).length by omega);simp only[go_sem,seval]
   repeat' first|assumption|(simp (disch:=first|assumption|omega|(simp;done)|(simp;omega)) only[yaa,qaE];try simp only[go_sem,seval])|(with_reducible first|apply And.intro|intro _)|(refine qac hfst ?_;simp only[go_sem,seval])|((try rw[qaa]);omega)
   ·simp;omega
   ·refine⟨v+1,⟨by omega,by omega⟩,by omega,⟨⟨by omega,rfl⟩,by omega⟩,by omega,?_⟩;rw[hts,hg];rfl
  ·simp only[go_sem,seval]
   repeat' first|assumption|(simp (disch:=first|assumption|omega|(simp;done)|(simp;omega)) only[yaa,qaE];try simp only[go_sem,seval])|(with_reducible first|apply And.intro|intro _)|(refine qac hfst ?_;simp only[go_sem,seval])|((try rw[qaa]);omega)
   have hv3:v=c.first.toNat:=by omega
   subst hv3;clear hlt hv hv1;have hlg:=hc.lg;refine qaf (E:=env 0) tok (σ:=Nat) (fun i=>[(28,.d (dI i)),(27,.d (dI c.gates.length)),(26,.d (dPs c.gates)),(1,.ptr 0 0),(3,.sl 3 (c.first.toNat-1+i) 1 0 (c.first.toNat+i))]) (fun i=>[.box [.d (dI c.inputs),.d (dIs c.next),.d (dPs c.gates),.d (dIs c.outs)],.dead 0,.dead 0,.row (c.first.toNat-1+i) 1 false ((qaI c i).map fun x=>dIss x)])
    (fun i=>i<=c.gates.length) (fun i=>c.gates.length-i) [] [] 1000 1000 ?_ ?_
   ·simp only[go_sem,seval];exact⟨0,by omega,⟨rfl,rfl,rfl⟩,rfl,rfl⟩
   ·intro i hi;have hli:=qa5 (c:=c) hf.1 i;by_cases hlt:i<c.gates.length
    ·obtain⟨g1,g2⟩:=hc.g i hlt;have hco:=qcr hc i hi;unfold qaY at g1 g2;simp only[go_sem,seval]
     repeat' first|assumption|(simp (disch:=first|assumption|omega|(simp;done)|(simp;omega)) only[yaa,qaE];try simp only[go_sem,seval])|(with_reducible first|apply And.intro|intro _)|(refine qac hfst ?_;simp only[go_sem,seval])|((try rw[qaa]);omega)
     have hA:(qbi c i/2).toNat<(qaI c i).length:=by unfold qbi;omega
     have hB:(qbj c i/2).toNat<(qaI c i).length:=by unfold qbj;omega
     obtain⟨pa,-,-,pl⟩:=hco _ hA;obtain⟨qa,-,-,ql⟩:=hco _ hB;have hjn:(qaI c (i+1))=qaI c i ++ [qfL ((qaI c i).getD (qbi c i/2).toNat []) ((qaI c i).getD (qbj c i/2).toNat []) ++ [[c.first+(i:Int)]]]:=rfl;have hgA:(c.gates.getD i (0,0)).1=qbi c i:=rfl;have hgB:(c.gates.getD i (0,0)).2=qbj c i:=rfl;rw[hgA] at g1 ⊢;rw[hgB] at g2 ⊢;have hjl:=qkA ((qaI c i).getD (qbi c i/2).toNat []) ((qaI c i).getD (qbj c i/2).toNat []);have hjo:=c_joinCuts _ _ pl ql (fun x hx=>⟨(pa x hx).asc,(pa x hx).len⟩) (fun x hx=>⟨(qa x hx).asc,(qa x hx).len⟩);generalize hP9:(qaI c i).getD (qbi c i/2).toNat []=P at *
     generalize hQ9:(qaI c i).getD (qbj c i/2).toNat []=Q at *
     refine qaL (n:=0) [12] (fsts [0,1,6,7,2,3,4,5,8,9,10,11] (.one 12 (.fst 13 .done))) ?_;simp only[go_sem,seval,hP9,hQ9]
     repeat' first|assumption|(simp (disch:=first|assumption|omega|(simp;done)|(simp;omega)) only[yaa,qaE];try simp only[go_sem,seval,hP9,hQ9])|(with_reducible first|apply And.intro|intro _)|(refine qac hfst ?_;simp only[go_sem,seval,hP9,hQ9])|((try rw[qaa]);omega)
     refine qan hjo [] (by simp only[go_sem,seval]) ?_;rintro r0 H1 ⟨g',rfl,rfl⟩;simp only[go_sem,seval,hP9,hQ9]
     repeat' first|assumption|(simp (disch:=first|assumption|omega|(simp;done)|(simp;omega)) only[yaa,qaE];try simp only[go_sem,seval,hP9,hQ9])|(with_reducible first|apply And.intro|intro _)|(refine qac hfst ?_;simp only[go_sem,seval,hP9,hQ9])|((try rw[qaa]);omega)
     refine⟨i+1,by omega,by omega,⟨rfl,by omega,by omega⟩,by omega,?_⟩;rw[hjn,yaz];simp
    ·simp only[go_sem,seval]
     repeat' first|assumption|(simp (disch:=first|assumption|omega|(simp;done)|(simp;omega)) only[yaa,qaE];try simp only[go_sem,seval])|(with_reducible first|apply And.intro|intro _)|(refine qac hfst ?_;simp only[go_sem,seval])|((try rw[qaa]);omega)
     rw[qbf,show i=c.gates.length by omega]

def qfN (c:Circ) (N:Nat) (l:List (List Int)):List D:=qdh c l++List.replicate (N-l.length) .nil
def arrI (N:Nat) (l:List Int):List Int:=l++List.replicate (N-l.length) 0
def qgP (h:c.first.toNat<=l.length) (hN:l.length<=N):(qfN c N l).length=N:=by
 simp[qfN,qdi h];omega
def qkQ {l:List Int}(hN:l.length<=N):(arrI N l).length=N:=by
 simp[arrI];omega
def qr8 {l:List Int}{v:Nat}(h:v<l.length):(arrI N l).getD v 0=l.getD v 0:=by
 simp[arrI,List.getD,List.getElem?_append_left h]
def qqf {x : α}(h:0<n):List.replicate n x=x::List.replicate (n-1) x:=by
 obtain⟨m,rfl⟩ : ∃ m,n=m+1:=⟨n-1,by omega⟩;rfl
def qqg {l r:List α}{x y : α}(h:n=l.length):(l++x::r).set n y=l++y::r:=by
 subst h;simp
def qje (h:c.first.toNat<=l.length) (hN:l.length<N):(qfN c N l).set l.length (dIs x)=qfN c N (l ++ [x]):=by
 unfold qfN;rw[qqf (show 0<N-l.length by omega),qqg (by rw[qdi h]),qhe h,yar];simp[show N-(l.length+1)=N-l.length-1 by omega]
def qot (h:c.first.toNat<=l.length) (hN:l.length<N) {y:List Int}:(qfN c N (l ++ [x])).set l.length (dIs y)=qfN c N (l ++ [y]):=by
 rw[<-qje h hN,<-qje h hN,List.set_set]
def qqh (h:c.first.toNat<=l.length) {z:D}:(qfN c N (l ++ [x])).getD l.length z=dIs x:=by
 unfold qfN;rw[qhe h,yar,List.getD_eq_getElem?_getD,List.getElem?_append_right (by rw[qdi h];omega),qdi h];simp
def qr9 {l:List Int}(hN:l.length<N) {x:Int}:(arrI N l).set l.length x=arrI N (l ++ [x]):=by
 unfold arrI;rw[qqf (show 0<N-l.length by omega),qqg rfl,yar];simp[show N-(l.length+1)=N-l.length-1 by omega]
def Tryz.c_bestCuts (c:Circ) (hc:c.Valid):ICall prog 102 [.ptr 0 0] [.box [.d (dI c.inputs),.d (dIs c.next),.d (dPs c.gates),.d (dIs c.outs)]] (fun r H'=>r=.d (.tup [.lst 1 (qdh c (qbm c)),dIs (arrC c)])/\H'=[.box [.d (dI c.inputs),.d (dIs c.next),.d (dPs c.gates),.d (dIs c.outs)]]):=by
 have hf:=hc.first_bd;have hi0:=hc.i0;have hi1:=hc.i1;have hfst:=c_firstGate c (by omega);have hcu:=c_Cuts c hc;have hbd:=qkB c (qbf c);have hcl:=qa5 (c:=c) hf.1 c.gates.length;have hco:=qcr hc c.gates.length (yad _);have hlg:=hc.lg;rw[<-qbf] at hcl hco;refine qaz (E:=env 1) tok rfl 1000 func102 rfl rfl ntmps102 (by simp) ?_;simp only[go_sem,seval]
 repeat' first|assumption|(simp (disch:=first|assumption|omega|(simp;done)|(simp;omega)) only[yaa,qau,qaE];try simp only[go_sem,seval])|(with_reducible first|apply And.intro|intro _)|(refine qac hfst ?_;simp only[go_sem,seval])|(refine qbJ hcu ?_;simp only[go_sem,seval])|exact lexT|((try rw[qaa]);omega)
 have hgate : ∀ i,i<c.gates.length->∃ x r,(qbf c).getD (c.first.toNat+i) []=x::r/\r≠[]:=fun i hi=>by
  have h1:=qiP hc hi;rw[qbf,qcZ hf.1 hi];cases hj:qfL ((qaI c i).getD (qbi c i/2).toNat []) ((qaI c i).getD (qbj c i/2).toNat []) with
  | nil=>rw[hj] at h1;simp at h1
  | cons x r=>exact⟨x,r ++ [[c.first+(i:Int)]],rfl,by simp⟩
 have hleaf : ∀ i,i<c.gates.length->∀ cut∈((qbf c).getD (c.first.toNat+i) []).dropLast,∀ z∈cut,0<=z/\z<c.first+(i:Int):=fun i hi cut hcut z hz=>by
  rw[qbf,qcZ hf.1 hi,List.dropLast_concat] at hcut;have hl:=qa5 (c:=c) hf.1 i;obtain⟨g1,g2⟩:=hc.g i hi;have ha:(qbi c i/2).toNat<c.first.toNat+i:=by unfold qbi;unfold qaY at g1;omega
  have hb:(qbj c i/2).toNat<c.first.toNat+i:=by unfold qbj;unfold qaY at g2;omega
  obtain⟨a1,-⟩:=qcr hc i (by omega) _ (by rw[hl];exact ha);obtain⟨b1,-⟩:=qcr hc i (by omega) _ (by rw[hl];exact hb);refine qfh (P:=fun cut=>∀ z∈cut,0<=z/\z<c.first+(i:Int)) (fun x hx y hy hle z hz=>?_) cut hcut z hz;rcases(qbo _ _).1 hz with h2|h2
  ·have:=(a1 x hx).rng z h2;omega
  ·have:=(b1 y hy).rng z h2;omega
 have efin:qbm c=(qaR c (qbf c) c.gates.length).1/\arrC c=(qaR c (qbf c) c.gates.length).2:=⟨rfl,rfl⟩;rw[efin.1,efin.2];generalize qbf c=cuts at *
 have hbl:=qdR c cuts;refine qaf (E:=env 1) tok (σ:=Nat) (fun i=>[(7,.d (dI (c.first+(i:Int)))),(6,.sl 2 0 1 0 cuts.length),(5,.sl 1 0 1 0 cuts.length),(4,.d (qlA cuts)),(0,.ptr 0 0)])
  (fun i=>[.box [.d (dI c.inputs),.d (dIs c.next),.d (dPs c.gates),.d (dIs c.outs)],.row 0 1 false (qfN c cuts.length (qaR c cuts i).1),.row 0 1 true ((arrI cuts.length (qaR c cuts i).2).map (D.int .i64))])
  (fun i=>i<=c.gates.length) (fun i=>c.gates.length-i) [] [] 1000 1000 ?_ ?_
 ·simp only[go_sem,seval];refine⟨0,by omega,by omega,?_,?_⟩
  ·simp[qaR,qfN,qdh,hcl]
  ·simp[qaR,arrI,hcl]
 ·intro i hi;have hbli:=hbl i;by_cases hlt:i<c.gates.length
  ·have hsu:qaR c cuts (i+1)=((qaR c cuts i).1 ++ [qbE (qaR c cuts i).2 (cuts.getD (c.first.toNat+i) []).dropLast],(qaR c cuts i).2 ++ [1+qca (qaR c cuts i).2 (qbE (qaR c cuts i).2 (cuts.getD (c.first.toNat+i) []).dropLast)]):=rfl;have hlf:=hleaf i hlt;obtain⟨x,r,hxr,hr0⟩:=hgate i hlt;have hle:=(hco (c.first.toNat+i) (by omega)).2.2.2;have hM3 : ∀ z∈(cuts.getD (c.first.toNat+i) []).dropLast,z.length<=3:=fun z hz=>((hco (c.first.toNat+i) (by omega)).1 z (List.dropLast_subset _ hz)).len
   have hbdi:=hbd i;generalize hL:cuts.getD (c.first.toNat+i) []=L at *
   generalize (qaR c cuts i).2=A at *
   generalize (qaR c cuts i).1=B at *
   have eL:(c.first+(i:Int)).toNat=c.first.toNat+i:=by omega
   have hL2:2<=L.length:=by
    rw[hxr];cases r with
    | nil=>exact absurd rfl hr0
    | cons y r=>simp
   have eM:List.take ((L.length:Int)-1).toNat (L.map fun x=>dIs x)=L.dropLast.map fun x=>dIs x:=by
    rw[List.dropLast_eq_take,List.map_take,show((L.length:Int)-1).toNat=L.length-1 by omega]
   have hML:L.dropLast.length=L.length-1:=by simp
   simp only[go_sem,seval,eL,hL,eM]
   repeat' first|assumption|(simp (disch:=first|assumption|omega|(simp;done)|(simp;omega)) only[yaa,qau,qaE];try simp only[go_sem,seval,eL,hL,eM])|(with_reducible first|apply And.intro|intro _)|exact lexT|((try rw[qaa]);omega)
   generalize L.dropLast=M at *
   have hBL:B.length=c.first.toNat+i:=hbli.1
   have hAL:A.length=c.first.toNat+i:=hbli.2
   have harb:=fun cut (hcut:cut∈M)=>qeq (arr:=A) (cut:=cut) (m:=i) (fun z _=>(hbdi z.toNat).2) (by omega)
   refine qaf (E:=env 1) tok (σ:=Nat) (fun j=>[(44,.d (dI j)),(43,.d (dI M.length)),(42,.d (dIss M)),(8,.d (dI (if j=0 then -1 else qca A (qbE A (M.take j))))),(7,.d (dI (c.first+(i:Int)))),(6,.sl 2 0 1 0 cuts.length),(5,.sl 1 0 1 0 cuts.length),(4,.d (qlA cuts)),(0,.ptr 0 0)])
    (fun j=>[.box [.d (dI c.inputs),.d (dIs c.next),.d (dPs c.gates),.d (dIs c.outs)],.row 0 1 false (if j=0 then qfN c cuts.length B else qfN c cuts.length (B ++ [qbE A (M.take j)])),.row 0 1 true ((arrI cuts.length A).map (D.int .i64))])
    (fun j=>j<=M.length) (fun j=>M.length-j) [] [] 1000 1000 ?_ ?_
   ·simp only[go_sem,seval];refine⟨0,by omega,?_⟩;simp
   ·intro j hj;by_cases hjt:j<M.length
    ·have hxm:=qad hjt (z:=([]:List Int));have hlx:=hlf _ hxm;have hx3:=hM3 _ hxm;have hts:M.take (j+1)=M.take j ++ [M.getD j []]:=by simpa using qaT (f:=fun x:List Int=>x) [] hjt
     generalize hX:M.getD j []=X at *
     simp only[go_sem,seval,eL,hL,hX]
     repeat' first|assumption|(simp (disch:=first|assumption|omega|(simp;done)|(simp;omega)) only[yaa,qau,qaE];try simp only[go_sem,seval,eL,hL,hX])|(with_reducible first|apply And.intro|intro _)|exact lexT|((try rw[qaa]);omega)
     refine qaf (E:=env 1) tok (σ:=Nat) (fun k=>[(50,.d (dI k)),(49,.d (dI X.length)),(48,.d (dIs X)),(11,.d (dI (qca A (X.take k)))),(10,.d (dIs X)),(44,.d (dI j)),(43,.d (dI M.length)),(42,.d (dIss M)),(8,.d (dI (if j=0 then -1 else qca A (qbE A (M.take j))))),(7,.d (dI (c.first+(i:Int)))),(6,.sl 2 0 1 0 cuts.length),(5,.sl 1 0 1 0 cuts.length),(4,.d (qlA cuts)),(0,.ptr 0 0)])
      (fun k=>[.box [.d (dI c.inputs),.d (dIs c.next),.d (dPs c.gates),.d (dIs c.outs)],.row 0 1 false (if j=0 then qfN c cuts.length B else qfN c cuts.length (B ++ [qbE A (M.take j)])),.row 0 1 true ((arrI cuts.length A).map (D.int .i64))])
      (fun k=>k<=X.length) (fun k=>X.length-k) [] [] 1000 1000 ?_ ?_
     ·simp only[go_sem,seval];refine⟨0,by omega,?_⟩;simp[qca]
     ·intro k hk;by_cases hkt:k<X.length
      ·have e1:qca A (X.take (k+1))=max (qca A (X.take k)) (A.getD (X.getD k 0).toNat 0):=qaA (f:=fun(t v:Int)=>max t (A.getD v.toNat 0)) (b:=0) (0:Int) hkt;have hxk:=hlx _ (qad hkt:X.getD k 0∈X);have hxr2:=hbdi (X.getD k 0).toNat;have hag:=qr8 (N:=cuts.length) (l:=A) (v:=(X.getD k 0).toNat) (by omega);have hal:=qkQ (N:=cuts.length) (l:=A) (by omega);have hfb:=qeq (arr:=A) (cut:=X.take k) (m:=i) (fun z _=>(hbdi z.toNat).2) (by omega);simp only[go_sem,seval,eL,hL,hX]
       repeat' first|assumption|(simp (disch:=first|assumption|omega|(simp;done)|(simp;omega)) only[yaa,qau,qaE];try simp only[go_sem,seval,eL,hL,hX])|(with_reducible first|apply And.intro|intro _)|exact lexT|((try rw[qaa]);omega)
       ·exact⟨k+1,by omega,by omega,rfl,by rw[hag,<-e1]⟩
      ·obtain rfl:k=X.length:=by omega
       rw[yaA];have hfb:=qeq (arr:=A) (cut:=X) (m:=i) (fun z _=>(hbdi z.toNat).2) (by omega);by_cases hj0:j=0
       ·subst hj0;rw[if_pos rfl,if_pos rfl];simp only[go_sem,seval,eL,hL,hX]
        repeat' first|assumption|(simp (disch:=first|assumption|omega|(simp;done)|(simp;omega)) only[yaa,qau,qaE];try simp only[go_sem,seval,eL,hL,hX])|(with_reducible first|apply And.intro|intro _)|exact lexT|((try rw[qaa]);omega)
        ·rw[qgP (by omega) (by omega)];omega
        ·have h1:qbE A (M.take 1)=X:=by
          have:M.take 1=[X]:=by simpa using hts
          rw[this];rfl
         refine⟨1,by omega,by omega,⟨rfl,?_⟩,?_⟩
         ·rw[if_neg (by decide),h1]
         ·rw[if_neg (by decide),h1,<-hBL];exact qje (by omega) (by omega)
       ·rw[if_neg hj0,if_neg hj0];have hbm:qbE A (M.take j)∈M:=yau (qhd (by simp;omega));have hsn:=qiQ (arr:=A) (l:=M.take j) (y:=X) (by simp;omega);rw[<-hts] at hsn;have hbb:=harb _ hbm;have hbg:=fun z=>qqh (c:=c) (N:=cuts.length) (l:=B) (x:=qbE A (M.take j)) (z:=z) (by omega)
        rw[hBL] at hbg;generalize qbE A (M.take j)=Y at *
        simp only[go_sem,seval,eL,hL,hX,hbg]
        repeat' first|assumption|(simp (disch:=first|assumption|omega|(simp;done)|(simp;omega)) only[yaa,qau,qaE];try simp only[go_sem,seval,eL,hL,hX,hbg])|(with_reducible first|apply And.intro|intro _)|exact lexT|((try rw[qaa]);omega)
        ·rw[qgP (by simp;omega) (by simp;omega)];omega
        ·rw[qgP (by simp;omega) (by simp;omega)];omega
        ·refine⟨j+1,by omega,by omega,⟨rfl,?_⟩,?_⟩
         ·rw[if_neg (by omega),hsn,if_pos (show qbF _ _ _ by unfold qbF;omega)]
         ·rw[if_neg (by omega),hsn,if_pos (show qbF _ _ _ by unfold qbF;omega),<-hBL];exact qot (by omega) (by omega)
        ·refine⟨j+1,by omega,by omega,⟨rfl,?_⟩,?_⟩
         ·rw[if_neg (by omega),hsn,if_neg (show ¬ qbF _ _ _ by unfold qbF;omega)]
         ·rw[if_neg (by omega),hsn,if_neg (show ¬ qbF _ _ _ by unfold qbF;omega)]
    ·obtain rfl:j=M.length:=by omega
     rw[yaA,if_neg (by omega),if_neg (by omega)];simp only[go_sem,seval,eL,hL];have hfb:=harb _ (qhd (arr:=A) (l:=M) (by omega))
     repeat' first|assumption|(simp (disch:=first|assumption|omega|(simp;done)|(simp;omega)) only[yaa,qau,qaE];try simp only[go_sem,seval,eL,hL])|(with_reducible first|apply And.intro|intro _)|exact lexT|((try rw[qaa]);omega)
     ·rw[qkQ (by omega)];omega
     ·refine⟨i+1,by omega,by omega,by omega,?_,?_⟩
      ·rw[hsu]
      ·rw[hsu,Int.add_comm 1,<-hAL];exact qr9 (by omega)
  ·obtain rfl:i=c.gates.length:=by omega
   simp only[go_sem,seval]
   repeat' first|assumption|(simp (disch:=first|assumption|omega|(simp;done)|(simp;omega)) only[yaa,qau,qaE];try simp only[go_sem,seval])|(with_reducible first|apply And.intro|intro _)|exact lexT|((try rw[qaa]);omega)
   refine qcF (by simp) (by simp only[go_sem,seval]) ?_;simp only[go_sem,seval]
   repeat' first|assumption|(simp (disch:=first|assumption|omega|(simp;done)|(simp;omega)) only[yaa,qau,qaE];try simp only[go_sem,seval])|(with_reducible first|apply And.intro|intro _)|exact lexT|((try rw[qaa]);omega)
   rw[yaa (by rw[qgP (by omega) (by omega)];omega),yaa (by rw[qkQ (by omega)];omega)];simp[qfN,arrI,hcl,hbli.1,hbli.2]
end Go.Proofs

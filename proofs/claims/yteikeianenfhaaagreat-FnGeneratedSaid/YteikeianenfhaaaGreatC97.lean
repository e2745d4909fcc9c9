/- Contracts, plain definitions and lemmas. Conditions: none; lemmas. -/
import Derived.Test.YteikeianenfhaaaGreatC94
import Derived.Test.YteikeianenfhaaaGreatC7
set_option maxRecDepth 20000
set_option linter.unusedSimpArgs false
set_option linter.unusedVariables false
set_option maxHeartbeats 2000000
namespace Go.Proofs
open Go Go.VL Tryz
theorem Tryz.c_joinCuts (P Q:List (List Int)) (hP:P.length<=9) (hQ:Q.length<=9) (pa : ∀ x∈P,asc x/\x.length<=3) (qa : ∀ x∈Q,asc x/\x.length<=3):ICall prog 209 [.d (dIss P),.d (dIss Q)] []
  (fun r H'=>∃ g,r=.sl 0 g 1 0 (qgX P Q).length/\H'=[.row g 1 false ((qgX P Q).map fun x=>dIs x)]):=by
 refine qau (E:=env 0) tok rfl 1000 func209 rfl rfl ntmps209 (by simp) ?_
 repeat' first|assumption|(simp (disch:=first|assumption|omega|(simp;done)|(simp;omega)) only[go_sem,seval,yaa,qaN])|(with_reducible first|apply And.intro|intro _)|((try rw[qaa]);omega)
 refine qao (E:=env 0) tok (σ:=Nat) (fun a=>[(13,.d (dI a)),(12,.d (dI P.length)),(11,.d (dIss P)),(5,.sl 0 ((P.take a).foldl (fun l x=>rowC x Q l) []).length 1 0 ((P.take a).foldl (fun l x=>rowC x Q l) []).length),(1,.d (dIss Q))])
  (fun a=>[.row ((P.take a).foldl (fun l x=>rowC x Q l) []).length 1 false (((P.take a).foldl (fun l x=>rowC x Q l) []).map fun x=>dIs x)])
  (fun a=>a<=P.length/\((P.take a).foldl (fun l x=>rowC x Q l) []).length<=8) (fun a=>P.length-a) [] [(5,1,false)] 1000 1000 ?_ ?_
 ·simp only[go_sem,seval];exact⟨0,⟨by omega,by simp⟩,by simp⟩
 ·rintro a ⟨ha,hl8⟩;by_cases hat:a<P.length
  ·have hsa:=qa8 (f:=fun l x=>rowC x Q l) (b:=[]) ([]:List Int) hat;have hpx:=pa _ (qac hat:P.getD a []∈P);generalize hx9:P.getD a []=X at *
   generalize (P.take a).foldl (fun l x=>rowC x Q l) []=L0 at *
   repeat' first|assumption|(simp (disch:=first|assumption|omega|(simp;done)|(simp;omega)) only[go_sem,seval,hx9,yaa,qaN])|(with_reducible first|apply And.intro|intro _)|((try rw[qaa]);omega)
   refine qao (E:=env 0) tok (σ:=Nat) (fun b=>[(19,.d (dI b)),(18,.d (dI Q.length)),(17,.d (dIss Q)),(7,.d (dIs X)),(13,.d (dI a)),(12,.d (dI P.length)),(11,.d (dIss P)),(5,.sl 0 (rowC X (Q.take b) L0).length 1 0 (rowC X (Q.take b) L0).length),(1,.d (dIss Q))])
    (fun b=>[.row (rowC X (Q.take b) L0).length 1 false ((rowC X (Q.take b) L0).map fun x=>dIs x)])
    (fun b=>b<=Q.length) (fun b=>Q.length-b) [] [] 1000 1000 ?_ ?_
   ·simp only[go_sem,seval];exact⟨0,by omega,by simp[rowC]⟩
   ·intro b hb;have hr8:=qkF (x:=X) (q:=Q.take b) hl8;by_cases hbt:b<Q.length
    ·have hsb:rowC X (Q.take (b+1)) L0=addC (rowC X (Q.take b) L0) (qaS X (Q.getD b [])):=qa8 (f:=fun l y=>addC l (qaS X y)) (b:=L0) ([]:List Int) hbt;have hqy:=qa _ (qac hbt:Q.getD b []∈Q);generalize hy9:Q.getD b []=Y at *
     generalize rowC X (Q.take b) L0=L1 at *
     have had:addC L1 (qaS X Y)=if(qaS X Y).length<=3/\L1.length<8/\qaS X Y∉L1 then L1 ++ [qaS X Y] else L1:=rfl
     repeat' first|assumption|(simp (disch:=first|assumption|omega|(simp;done)|(simp;omega)) only[go_sem,seval,hx9,hy9,yaa,qaN])|(with_reducible first|apply And.intro|intro _)|((try rw[qaa]);omega)
     refine qal (c_Concat X Y (by omega) (by omega)) [1] (by simp only[go_sem,seval]) ?_;rintro r0 H1 ⟨g',rfl,rfl⟩
     repeat' first|assumption|(simp (disch:=first|assumption|omega|(simp;done)|(simp;omega)) only[go_sem,seval,hx9,hy9,yaa,qaN])|(with_reducible first|apply And.intro|intro _)|((try rw[qaa]);omega)
     have hxy:X.length+Y.length=(X++Y).length:=by simp
     rw[hxy];refine qal (c_Sort g' (X++Y) (by simp;omega)) [2] (by simp only[go_sem,seval]) ?_;rintro r0 H1 ⟨m,hm,rfl⟩;have hml:=hm.len;rw[<-hxy] at hml
     repeat' first|assumption|(simp (disch:=first|assumption|omega|(simp;done)|(simp;omega)) only[go_sem,seval,hx9,hy9,yaa,qaN])|(with_reducible first|apply And.intro|intro _)|((try rw[qaa]);omega)
     rw[<-hml];refine qal (c_Compact g' m (by omega)) [2] (by simp only[go_sem,seval]) ?_;have hz:qbK m=qaS X Y:=join_eq hpx.1 hqy.1 hm.1 (SortTo.pairwise (by rw[hxy,<-hm.len] at hml;rw[hm.len];exact hm));rw[hz];generalize qaS X Y=Z at *
     rintro r0 H1 ⟨g2,rfl,rfl⟩
     repeat' first|assumption|(simp (disch:=first|assumption|omega|(simp;done)|(simp;omega)) only[go_sem,seval,hx9,hy9,yaa,qaN])|(with_reducible first|apply And.intro|intro _)|(refine qab (c_ContainsFunc L1 Z (by omega)) ?_)|((try rw[qaa]);omega)
     ·rename_i h9;have e:rowC X (Q.take (b+1)) L0=L1:=by rw[hsb,had,if_neg (by rintro⟨q1,q2,q3⟩;omega)]
      refine⟨b+1,by omega,by omega,?_⟩;rw[e];exact⟨⟨rfl,rfl⟩,rfl,rfl⟩
     ·rename_i h9 h8;have e:rowC X (Q.take (b+1)) L0=L1 ++ [Z]:=by rw[hsb,had,if_pos ⟨by omega,by omega,h8⟩]
      refine⟨b+1,by omega,by omega,?_⟩;rw[e];exact⟨⟨by simp,by simp⟩,by simp,by simp⟩
     ·rename_i h9 h8;have e:rowC X (Q.take (b+1)) L0=L1:=by rw[hsb,had,if_neg (by rintro⟨q1,q2,q3⟩;exact q3 h8)]
      refine⟨b+1,by omega,by omega,?_⟩;rw[e];exact⟨⟨rfl,rfl⟩,rfl,rfl⟩
    ·repeat' first|assumption|(simp (disch:=first|assumption|omega|(simp;done)|(simp;omega)) only[go_sem,seval,yaa,qaN])|(with_reducible first|apply And.intro|intro _)|((try rw[qaa]);omega)
     refine⟨a+1,⟨by omega,?_⟩,by omega,?_⟩
     ·rw[hsa];exact qkF hl8
     ·rw[hsa];exact⟨⟨rfl,rfl⟩,rfl,rfl⟩
  ·obtain rfl:a=P.length:=by omega
   repeat' first|assumption|(simp (disch:=first|assumption|omega|(simp;done)|(simp;omega)) only[go_sem,seval,yaa,qaN])|(with_reducible first|apply And.intro|intro _)|((try rw[qaa]);omega)
   exact qcz ⟨_,rfl,rfl⟩

theorem Tryz.c_Cuts (c:Circ) (hc:c.Valid):PureF prog 176 [dC c] (qta (qco c)):=by
 have hf:=hc.first_bd;have hi0:=hc.i0;have hi1:=hc.i1;have hfst:=c_firstGate c (by omega);have hl0:=qbf (c:=c) hf.1 0;have hcv:=c_CircuitValid c;refine qe0 (E:=env 0) tok rfl 1000 func176 rfl rfl ntmps176 (by simp) fun ok=>?_
 simp only[go_sem,seval] at ok⊢
 repeat' first|assumption|(simp (disch:=first|assumption|omega|(simp;done)|(simp;omega)) only[yaa,qci];try simp only[go_sem,seval])|(with_reducible first|apply And.intro|intro _)|(refine qab hfst ?_;simp only[go_sem,seval])|(refine qab hcv ?_;simp only[go_sem,seval])|((try rw[qaa]);omega)
 ·rename_i h9;exact absurd hc h9
 rename_i h9;refine qao (E:=env 0) tok (σ:=Nat) (fun v=>[(1,.ptr 0 0),(3,.sl 3 (v-1) 1 0 v),(4,.d (dI v))]) (fun v=>[.box [.d (dI c.inputs),.d (dIs c.next),.d (dPs c.gates),.d (dIs c.outs)],.dead 0,.dead 0,.row (v-1) 1 false (((qaM c 0).take v).map fun x=>dIss x)])
  (fun v=>1<=v/\(v:Int)<=c.first) (fun v=>c.first.toNat-v) [] [] 1000 1000 ?_ ?_
 ·simp only[go_sem,seval];exact⟨1,⟨by omega,by omega⟩,⟨⟨rfl,rfl⟩,rfl⟩,rfl,by simp[qaM]⟩
 ·rintro v ⟨hv1,hv⟩;by_cases hlt:(v:Int)<c.first
  ·have hg:(qaM c 0).getD v []=[[(v:Int)]]:=by
    obtain⟨m,rfl⟩ : ∃ m,v=m+1:=⟨v-1,by omega⟩;simp[qaM,List.getD,show m<c.first.toNat-1 by omega]
   have hts:=qa9 (f:=fun x=>dIss x) ([]:List (List Int)) (show v<(qaM c 0).length by omega);simp only[go_sem,seval]
   repeat' first|assumption|(simp (disch:=first|assumption|omega|(simp;done)|(simp;omega)) only[yaa,qci];try simp only[go_sem,seval])|(with_reducible first|apply And.intro|intro _)|(refine qab hfst ?_;simp only[go_sem,seval])|((try rw[qaa]);omega)
   ·simp;omega
   ·refine⟨v+1,⟨by omega,by omega⟩,by omega,⟨⟨by omega,rfl⟩,by omega⟩,by omega,?_⟩;rw[hts,hg];rfl
  ·simp only[go_sem,seval]
   repeat' first|assumption|(simp (disch:=first|assumption|omega|(simp;done)|(simp;omega)) only[yaa,qci];try simp only[go_sem,seval])|(with_reducible first|apply And.intro|intro _)|(refine qab hfst ?_;simp only[go_sem,seval])|((try rw[qaa]);omega)
   have hv3:v=c.first.toNat:=by omega
   subst hv3;clear hlt hv hv1;have hlg:=hc.lg;refine qao (E:=env 0) tok (σ:=Nat) (fun i=>[(28,.d (dI i)),(27,.d (dI c.gates.length)),(26,.d (dPs c.gates)),(1,.ptr 0 0),(3,.sl 3 (c.first.toNat-1+i) 1 0 (c.first.toNat+i))]) (fun i=>[.box [.d (dI c.inputs),.d (dIs c.next),.d (dPs c.gates),.d (dIs c.outs)],.dead 0,.dead 0,.row (c.first.toNat-1+i) 1 false ((qaM c i).map fun x=>dIss x)])
    (fun i=>i<=c.gates.length) (fun i=>c.gates.length-i) [] [] 1000 1000 ?_ ?_
   ·simp only[go_sem,seval];exact⟨0,by omega,⟨rfl,rfl,rfl⟩,rfl,rfl⟩
   ·intro i hi;have hli:=qbf (c:=c) hf.1 i;by_cases hlt:i<c.gates.length
    ·obtain⟨g1,g2⟩:=hc.g i hlt;have hco:=qdE hc i hi;unfold qaK at g1 g2;simp only[go_sem,seval]
     repeat' first|assumption|(simp (disch:=first|assumption|omega|(simp;done)|(simp;omega)) only[yaa,qci];try simp only[go_sem,seval])|(with_reducible first|apply And.intro|intro _)|(refine qab hfst ?_;simp only[go_sem,seval])|((try rw[qaa]);omega)
     have hA:(qbN c i/2).toNat<(qaM c i).length:=by unfold qbN;omega
     have hB:(qbO c i/2).toNat<(qaM c i).length:=by unfold qbO;omega
     obtain⟨pa,-,-,pl⟩:=hco _ hA;obtain⟨qa,-,-,ql⟩:=hco _ hB;have hjn:(qaM c (i+1))=qaM c i ++ [qgX ((qaM c i).getD (qbN c i/2).toNat []) ((qaM c i).getD (qbO c i/2).toNat []) ++ [[c.first+(i:Int)]]]:=rfl;have hgA:(c.gates.getD i (0,0)).1=qbN c i:=rfl;have hgB:(c.gates.getD i (0,0)).2=qbO c i:=rfl;rw[hgA] at g1 ⊢;rw[hgB] at g2 ⊢;have hjl:=qnS ((qaM c i).getD (qbN c i/2).toNat []) ((qaM c i).getD (qbO c i/2).toNat []);have hjo:=c_joinCuts _ _ pl ql (fun x hx=>⟨(pa x hx).asc,(pa x hx).len⟩) (fun x hx=>⟨(qa x hx).asc,(qa x hx).len⟩);generalize hP9:(qaM c i).getD (qbN c i/2).toNat []=P at *
     generalize hQ9:(qaM c i).getD (qbO c i/2).toNat []=Q at *
     refine qaP (n:=0) [12] (fsts [0,1,6,7,2,3,4,5,8,9,10,11] (.one 12 (.fst 13 .done))) ?_;simp only[go_sem,seval,hP9,hQ9]
     repeat' first|assumption|(simp (disch:=first|assumption|omega|(simp;done)|(simp;omega)) only[yaa,qci];try simp only[go_sem,seval,hP9,hQ9])|(with_reducible first|apply And.intro|intro _)|(refine qab hfst ?_;simp only[go_sem,seval,hP9,hQ9])|((try rw[qaa]);omega)
     refine qal hjo [] (by simp only[go_sem,seval]) ?_;rintro r0 H1 ⟨g',rfl,rfl⟩;simp only[go_sem,seval,hP9,hQ9]
     repeat' first|assumption|(simp (disch:=first|assumption|omega|(simp;done)|(simp;omega)) only[yaa,qci];try simp only[go_sem,seval,hP9,hQ9])|(with_reducible first|apply And.intro|intro _)|(refine qab hfst ?_;simp only[go_sem,seval,hP9,hQ9])|((try rw[qaa]);omega)
     refine⟨i+1,by omega,by omega,⟨rfl,by omega,by omega⟩,by omega,?_⟩;rw[hjn,yaE];simp
    ·simp only[go_sem,seval]
     repeat' first|assumption|(simp (disch:=first|assumption|omega|(simp;done)|(simp;omega)) only[yaa,qci];try simp only[go_sem,seval])|(with_reducible first|apply And.intro|intro _)|(refine qab hfst ?_;simp only[go_sem,seval])|((try rw[qaa]);omega)
     rw[qco,show i=c.gates.length by omega]

def qfx (c:Circ) (N:Nat) (l:List (List Int)):List D:=qfZ c l++List.replicate (N-l.length) .nil
def arrI (N:Nat) (l:List Int):List Int:=l++List.replicate (N-l.length) 0
theorem qgm {c:Circ}{N:Nat}{l:List (List Int)}(h:c.first.toNat<=l.length) (hN:l.length<=N):(qfx c N l).length=N:=by
 simp[qfx,qe3 h];omega
theorem qkI {N:Nat}{l:List Int}(hN:l.length<=N):(arrI N l).length=N:=by
 simp[arrI];omega
theorem qtc {N:Nat}{l:List Int}{v:Nat}(h:v<l.length):(arrI N l).getD v 0=l.getD v 0:=by
 simp[arrI,List.getD,List.getElem?_append_left h]
theorem qqL {α : Type}{n:Nat}{x : α}(h:0<n):List.replicate n x=x::List.replicate (n-1) x:=by
 obtain⟨m,rfl⟩ : ∃ m,n=m+1:=⟨n-1,by omega⟩;rfl
theorem qqM {α : Type}{l r:List α}{x y : α}{n:Nat}(h:n=l.length):(l++x::r).set n y=l++y::r:=by
 subst h;simp
theorem qiQ {c:Circ}{N:Nat}{l:List (List Int)}(h:c.first.toNat<=l.length) (hN:l.length<N) {x:List Int}:(qfx c N l).set l.length (dIs x)=qfx c N (l ++ [x]):=by
 unfold qfx;rw[qqL (show 0<N-l.length by omega),qqM (by rw[qe3 h]),qjM h,yaq];simp[show N-(l.length+1)=N-l.length-1 by omega]
theorem qoX {c:Circ}{N:Nat}{l:List (List Int)}(h:c.first.toNat<=l.length) (hN:l.length<N) {x y:List Int}:(qfx c N (l ++ [x])).set l.length (dIs y)=qfx c N (l ++ [y]):=by
 rw[<-qiQ h hN,<-qiQ h hN,List.set_set]
theorem qqN {c:Circ}{N:Nat}{l:List (List Int)}(h:c.first.toNat<=l.length) {x:List Int}{z:D}:(qfx c N (l ++ [x])).getD l.length z=dIs x:=by
 unfold qfx;rw[qjM h,yaq,List.getD_eq_getElem?_getD,List.getElem?_append_right (by rw[qe3 h];omega),qe3 h];simp
theorem qtd {N:Nat}{l:List Int}(hN:l.length<N) {x:Int}:(arrI N l).set l.length x=arrI N (l ++ [x]):=by
 unfold arrI;rw[qqL (show 0<N-l.length by omega),qqM rfl,yaq];simp[show N-(l.length+1)=N-l.length-1 by omega]
theorem Tryz.c_bestCuts (c:Circ) (hc:c.Valid):ICall prog 102 [.ptr 0 0] [.box [.d (dI c.inputs),.d (dIs c.next),.d (dPs c.gates),.d (dIs c.outs)]] (fun r H'=>r=.d (.tup [.lst 1 (qfZ c (qbY c)),dIs (arrC c)])/\H'=[.box [.d (dI c.inputs),.d (dIs c.next),.d (dPs c.gates),.d (dIs c.outs)]]):=by
 have hf:=hc.first_bd;have hi0:=hc.i0;have hi1:=hc.i1;have hfst:=c_firstGate c (by omega);have hcu:=c_Cuts c hc;have hbd:=qnV c (qco c);have hcl:=qbf (c:=c) hf.1 c.gates.length;have hco:=qdE hc c.gates.length (yad _);have hlg:=hc.lg;rw[<-qco] at hcl hco;refine qau (E:=env 1) tok rfl 1000 func102 rfl rfl ntmps102 (by simp) ?_;simp only[go_sem,seval]
 repeat' first|assumption|(simp (disch:=first|assumption|omega|(simp;done)|(simp;omega)) only[yaa,qaN,qci];try simp only[go_sem,seval])|(with_reducible first|apply And.intro|intro _)|(refine qab hfst ?_;simp only[go_sem,seval])|(refine qcN hcu ?_;simp only[go_sem,seval])|exact lexT|((try rw[qaa]);omega)
 have hgate : ∀ i,i<c.gates.length->∃ x r,(qco c).getD (c.first.toNat+i) []=x::r/\r≠[]:=fun i hi=>by
  have h1:=qlG hc hi;rw[qco,qdZ hf.1 hi];cases hj:qgX ((qaM c i).getD (qbN c i/2).toNat []) ((qaM c i).getD (qbO c i/2).toNat []) with
  | nil=>rw[hj] at h1;simp at h1
  | cons x r=>exact⟨x,r ++ [[c.first+(i:Int)]],rfl,by simp⟩
 have hleaf : ∀ i,i<c.gates.length->∀ cut∈((qco c).getD (c.first.toNat+i) []).dropLast,∀ z∈cut,0<=z/\z<c.first+(i:Int):=fun i hi cut hcut z hz=>by
  rw[qco,qdZ hf.1 hi,List.dropLast_concat] at hcut;have hl:=qbf (c:=c) hf.1 i;obtain⟨g1,g2⟩:=hc.g i hi;have ha:(qbN c i/2).toNat<c.first.toNat+i:=by unfold qbN;unfold qaK at g1;omega
  have hb:(qbO c i/2).toNat<c.first.toNat+i:=by unfold qbO;unfold qaK at g2;omega
  obtain⟨a1,-⟩:=qdE hc i (by omega) _ (by rw[hl];exact ha);obtain⟨b1,-⟩:=qdE hc i (by omega) _ (by rw[hl];exact hb);refine qgi (P:=fun cut=>∀ z∈cut,0<=z/\z<c.first+(i:Int)) (fun x hx y hy hle z hz=>?_) cut hcut z hz;rcases(qbl _ _).1 hz with h2|h2
  ·have:=(a1 x hx).rng z h2;omega
  ·have:=(b1 y hy).rng z h2;omega
 have efin:qbY c=(qaZ c (qco c) c.gates.length).1/\arrC c=(qaZ c (qco c) c.gates.length).2:=⟨rfl,rfl⟩;rw[efin.1,efin.2];generalize qco c=cuts at *
 have hbl:=qd0 c cuts;refine qao (E:=env 1) tok (σ:=Nat) (fun i=>[(7,.d (dI (c.first+(i:Int)))),(6,.sl 2 0 1 0 cuts.length),(5,.sl 1 0 1 0 cuts.length),(4,.d (qta cuts)),(0,.ptr 0 0)])
  (fun i=>[.box [.d (dI c.inputs),.d (dIs c.next),.d (dPs c.gates),.d (dIs c.outs)],.row 0 1 false (qfx c cuts.length (qaZ c cuts i).1),.row 0 1 true ((arrI cuts.length (qaZ c cuts i).2).map (D.int .i64))])
  (fun i=>i<=c.gates.length) (fun i=>c.gates.length-i) [] [] 1000 1000 ?_ ?_
 ·simp only[go_sem,seval];refine⟨0,by omega,by omega,?_,?_⟩
  ·simp[qaZ,qfx,qfZ,hcl]
  ·simp[qaZ,arrI,hcl]
 ·intro i hi;have hbli:=hbl i;by_cases hlt:i<c.gates.length
  ·have hsu:qaZ c cuts (i+1)=((qaZ c cuts i).1 ++ [qb5 (qaZ c cuts i).2 (cuts.getD (c.first.toNat+i) []).dropLast],(qaZ c cuts i).2 ++ [1+qcg (qaZ c cuts i).2 (qb5 (qaZ c cuts i).2 (cuts.getD (c.first.toNat+i) []).dropLast)]):=rfl;have hlf:=hleaf i hlt;obtain⟨x,r,hxr,hr0⟩:=hgate i hlt;have hle:=(hco (c.first.toNat+i) (by omega)).2.2.2;have hM3 : ∀ z∈(cuts.getD (c.first.toNat+i) []).dropLast,z.length<=3:=fun z hz=>((hco (c.first.toNat+i) (by omega)).1 z (List.dropLast_subset _ hz)).len
   have hbdi:=hbd i;generalize hL:cuts.getD (c.first.toNat+i) []=L at *
   generalize (qaZ c cuts i).2=A at *
   generalize (qaZ c cuts i).1=B at *
   have eL:(c.first+(i:Int)).toNat=c.first.toNat+i:=by omega
   have hL2:2<=L.length:=by
    rw[hxr];cases r with
    | nil=>exact absurd rfl hr0
    | cons y r=>simp
   have eM:List.take ((L.length:Int)-1).toNat (L.map fun x=>dIs x)=L.dropLast.map fun x=>dIs x:=by
    rw[List.dropLast_eq_take,List.map_take,show((L.length:Int)-1).toNat=L.length-1 by omega]
   have hML:L.dropLast.length=L.length-1:=by simp
   simp only[go_sem,seval,eL,hL,eM]
   repeat' first|assumption|(simp (disch:=first|assumption|omega|(simp;done)|(simp;omega)) only[yaa,qaN,qci];try simp only[go_sem,seval,eL,hL,eM])|(with_reducible first|apply And.intro|intro _)|exact lexT|((try rw[qaa]);omega)
   generalize L.dropLast=M at *
   have hBL:B.length=c.first.toNat+i:=hbli.1
   have hAL:A.length=c.first.toNat+i:=hbli.2
   have harb:=fun cut (hcut:cut∈M)=>qfm (arr:=A) (cut:=cut) (m:=i) (fun z _=>(hbdi z.toNat).2) (by omega)
   refine qao (E:=env 1) tok (σ:=Nat) (fun j=>[(44,.d (dI j)),(43,.d (dI M.length)),(42,.d (dIss M)),(8,.d (dI (if j=0 then -1 else qcg A (qb5 A (M.take j))))),(7,.d (dI (c.first+(i:Int)))),(6,.sl 2 0 1 0 cuts.length),(5,.sl 1 0 1 0 cuts.length),(4,.d (qta cuts)),(0,.ptr 0 0)])
    (fun j=>[.box [.d (dI c.inputs),.d (dIs c.next),.d (dPs c.gates),.d (dIs c.outs)],.row 0 1 false (if j=0 then qfx c cuts.length B else qfx c cuts.length (B ++ [qb5 A (M.take j)])),.row 0 1 true ((arrI cuts.length A).map (D.int .i64))])
    (fun j=>j<=M.length) (fun j=>M.length-j) [] [] 1000 1000 ?_ ?_
   ·simp only[go_sem,seval];refine⟨0,by omega,?_⟩;simp
   ·intro j hj;by_cases hjt:j<M.length
    ·have hxm:=qac hjt (z:=([]:List Int));have hlx:=hlf _ hxm;have hx3:=hM3 _ hxm;have hts:M.take (j+1)=M.take j ++ [M.getD j []]:=by simpa using qa9 (f:=fun x:List Int=>x) [] hjt
     generalize hX:M.getD j []=X at *
     simp only[go_sem,seval,eL,hL,hX]
     repeat' first|assumption|(simp (disch:=first|assumption|omega|(simp;done)|(simp;omega)) only[yaa,qaN,qci];try simp only[go_sem,seval,eL,hL,hX])|(with_reducible first|apply And.intro|intro _)|exact lexT|((try rw[qaa]);omega)
     refine qao (E:=env 1) tok (σ:=Nat) (fun k=>[(50,.d (dI k)),(49,.d (dI X.length)),(48,.d (dIs X)),(11,.d (dI (qcg A (X.take k)))),(10,.d (dIs X)),(44,.d (dI j)),(43,.d (dI M.length)),(42,.d (dIss M)),(8,.d (dI (if j=0 then -1 else qcg A (qb5 A (M.take j))))),(7,.d (dI (c.first+(i:Int)))),(6,.sl 2 0 1 0 cuts.length),(5,.sl 1 0 1 0 cuts.length),(4,.d (qta cuts)),(0,.ptr 0 0)])
      (fun k=>[.box [.d (dI c.inputs),.d (dIs c.next),.d (dPs c.gates),.d (dIs c.outs)],.row 0 1 false (if j=0 then qfx c cuts.length B else qfx c cuts.length (B ++ [qb5 A (M.take j)])),.row 0 1 true ((arrI cuts.length A).map (D.int .i64))])
      (fun k=>k<=X.length) (fun k=>X.length-k) [] [] 1000 1000 ?_ ?_
     ·simp only[go_sem,seval];refine⟨0,by omega,?_⟩;simp[qcg]
     ·intro k hk;by_cases hkt:k<X.length
      ·have e1:qcg A (X.take (k+1))=max (qcg A (X.take k)) (A.getD (X.getD k 0).toNat 0):=qa8 (f:=fun(t v:Int)=>max t (A.getD v.toNat 0)) (b:=0) (0:Int) hkt;have hxk:=hlx _ (qac hkt:X.getD k 0∈X);have hxr2:=hbdi (X.getD k 0).toNat;have hag:=qtc (N:=cuts.length) (l:=A) (v:=(X.getD k 0).toNat) (by omega);have hal:=qkI (N:=cuts.length) (l:=A) (by omega);have hfb:=qfm (arr:=A) (cut:=X.take k) (m:=i) (fun z _=>(hbdi z.toNat).2) (by omega);simp only[go_sem,seval,eL,hL,hX]
       repeat' first|assumption|(simp (disch:=first|assumption|omega|(simp;done)|(simp;omega)) only[yaa,qaN,qci];try simp only[go_sem,seval,eL,hL,hX])|(with_reducible first|apply And.intro|intro _)|exact lexT|((try rw[qaa]);omega)
       ·exact⟨k+1,by omega,by omega,rfl,by rw[hag,<-e1]⟩
      ·obtain rfl:k=X.length:=by omega
       rw[yav];have hfb:=qfm (arr:=A) (cut:=X) (m:=i) (fun z _=>(hbdi z.toNat).2) (by omega);by_cases hj0:j=0
       ·subst hj0;rw[if_pos rfl,if_pos rfl];simp only[go_sem,seval,eL,hL,hX]
        repeat' first|assumption|(simp (disch:=first|assumption|omega|(simp;done)|(simp;omega)) only[yaa,qaN,qci];try simp only[go_sem,seval,eL,hL,hX])|(with_reducible first|apply And.intro|intro _)|exact lexT|((try rw[qaa]);omega)
        ·rw[qgm (by omega) (by omega)];omega
        ·have h1:qb5 A (M.take 1)=X:=by
          have:M.take 1=[X]:=by simpa using hts
          rw[this];rfl
         refine⟨1,by omega,by omega,⟨rfl,?_⟩,?_⟩
         ·rw[if_neg (by decide),h1]
         ·rw[if_neg (by decide),h1,<-hBL];exact qiQ (by omega) (by omega)
       ·rw[if_neg hj0,if_neg hj0];have hbm:qb5 A (M.take j)∈M:=yat (qgY (by simp;omega));have hsn:=qmZ (arr:=A) (l:=M.take j) (y:=X) (by simp;omega);rw[<-hts] at hsn;have hbb:=harb _ hbm;have hbg:=fun z=>qqN (c:=c) (N:=cuts.length) (l:=B) (x:=qb5 A (M.take j)) (z:=z) (by omega)
        rw[hBL] at hbg;generalize qb5 A (M.take j)=Y at *
        simp only[go_sem,seval,eL,hL,hX,hbg]
        repeat' first|assumption|(simp (disch:=first|assumption|omega|(simp;done)|(simp;omega)) only[yaa,qaN,qci];try simp only[go_sem,seval,eL,hL,hX,hbg])|(with_reducible first|apply And.intro|intro _)|exact lexT|((try rw[qaa]);omega)
        ·rw[qgm (by simp;omega) (by simp;omega)];omega
        ·rw[qgm (by simp;omega) (by simp;omega)];omega
        ·refine⟨j+1,by omega,by omega,⟨rfl,?_⟩,?_⟩
         ·rw[if_neg (by omega),hsn,if_pos (show qch _ _ _ by unfold qch;omega)]
         ·rw[if_neg (by omega),hsn,if_pos (show qch _ _ _ by unfold qch;omega),<-hBL];exact qoX (by omega) (by omega)
        ·refine⟨j+1,by omega,by omega,⟨rfl,?_⟩,?_⟩
         ·rw[if_neg (by omega),hsn,if_neg (show ¬ qch _ _ _ by unfold qch;omega)]
         ·rw[if_neg (by omega),hsn,if_neg (show ¬ qch _ _ _ by unfold qch;omega)]
    ·obtain rfl:j=M.length:=by omega
     rw[yav,if_neg (by omega),if_neg (by omega)];simp only[go_sem,seval,eL,hL];have hfb:=harb _ (qgY (arr:=A) (l:=M) (by omega))
     repeat' first|assumption|(simp (disch:=first|assumption|omega|(simp;done)|(simp;omega)) only[yaa,qaN,qci];try simp only[go_sem,seval,eL,hL])|(with_reducible first|apply And.intro|intro _)|exact lexT|((try rw[qaa]);omega)
     ·rw[qkI (by omega)];omega
     ·refine⟨i+1,by omega,by omega,by omega,?_,?_⟩
      ·rw[hsu]
      ·rw[hsu,Int.add_comm 1,<-hAL];exact qtd (by omega)
  ·obtain rfl:i=c.gates.length:=by omega
   simp only[go_sem,seval]
   repeat' first|assumption|(simp (disch:=first|assumption|omega|(simp;done)|(simp;omega)) only[yaa,qaN,qci];try simp only[go_sem,seval])|(with_reducible first|apply And.intro|intro _)|exact lexT|((try rw[qaa]);omega)
   refine qnF (by simp) (by simp only[go_sem,seval]) ?_;simp only[go_sem,seval]
   repeat' first|assumption|(simp (disch:=first|assumption|omega|(simp;done)|(simp;omega)) only[yaa,qaN,qci];try simp only[go_sem,seval])|(with_reducible first|apply And.intro|intro _)|exact lexT|((try rw[qaa]);omega)
   rw[yaa (by rw[qgm (by omega) (by omega)];omega),yaa (by rw[qkI (by omega)];omega)];simp[qfx,arrI,hcl,hbli.1,hbli.2]
end Go.Proofs

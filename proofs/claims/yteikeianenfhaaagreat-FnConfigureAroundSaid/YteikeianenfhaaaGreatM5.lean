/- Contracts, plain definitions and lemmas. Conditions: none; lemmas. -/
import Derived.Test.YteikeianenfhaaaGreatC53
import Derived.Test.YteikeianenfhaaaGreatM3
import Derived.Test.YteikeianenfhaaaGreatC85
import Derived.Test.YteikeianenfhaaaGreatK5
import Derived.Test.YteikeianenfhaaaGreatC7
import Derived.Test.YteikeianenfhaaaGreatC74
import Derived.Test.YteikeianenfhaaaGreatD6
import Derived.Test.YteikeianenfhaaaGreatC9
import Derived.Test.YteikeianenfhaaaGreatK1
import Derived.Test.YteikeianenfhaaaGreatF3
set_option maxRecDepth 20000
set_option linter.unusedSimpArgs false
set_option linter.unusedVariables false
set_option maxHeartbeats 2000000
namespace Go.Proofs
set_option linter.defProp false
open Go Go.VL Tryz
variable {c:Circ}{list:List (Int×Int)}{k:Kcfg}{n i:Nat}
def Tryz.c_sameConfig (a b:Kcfg):Pure prog 15 [dK a,dK b] (.bool (decide (a=b))):=by
 refine qax func15 rfl ntmps15 fun ok=>?_
 simp only[go_sem,seval] at ok⊢
 repeat' first|assumption|(simp (disch:=first|assumption|omega|(simp;done)|(simp;omega)) only[];try simp only[go_sem,seval])|(with_reducible first|apply And.intro|intro _)|exact lexT|((try rw[qaa]);omega)
 ·rename_i h1;exact(decide_eq_false fun e=>by subst e;simp at h1).symm
 ·have hl:a.tiles.length=b.tiles.length/\a.pads.length=b.pads.length:=by simp_all
  refine qaw (E:=env 0) tok (σ:=Nat) (fun i=>[(2,.ptr 0 0),(3,.ptr 1 0),(5,.d (dI i))]) (fun _=>[.box [.d (dTcs a.tiles),.d (dQs a.pads)],.box [.d (dTcs b.tiles),.d (dQs b.pads)]])
   (fun i=>i<=a.tiles.length/\∀ k,k<i->a.tiles.getD k tc0=b.tiles.getD k tc0) (fun i=>a.tiles.length-i) [] 1000 1000 ?_ ?_ ?_
  ·simp only[go_sem,seval]
  ·simp only[go_sem,seval];exact⟨0,⟨by omega,fun k hk=>by omega⟩,rfl⟩
  ·rintro i ⟨hi,hk⟩;by_cases hlt:i<a.tiles.length
   ·have hlb:i<b.tiles.length:=by omega
    have gx:=qam (z:=D.agg [D.int .i64 0,.nil,.bool false,.nil]) hlt;have gy:=qam (z:=D.agg [D.int .i64 0,.nil,.bool false,.nil]) hlb;generalize hx9:a.tiles.getD i tc0=x at *
    generalize hy9:b.tiles.getD i tc0=y at *
    obtain⟨x1,x2,x3,x4⟩:=x;obtain⟨y1,y2,y3,y4⟩:=y;simp only[go_sem,seval,gx,gy]
    repeat' first|assumption|(simp (disch:=first|assumption|omega|(simp;done)|(simp;omega)) only[];try simp only[go_sem,seval,gx,gy])|(with_reducible first|apply And.intro|intro _)|(refine qaN (fun _=>c_sameInts _ _) ?_;simp only[go_sem,seval,gx,gy])|exact lexT|((try rw[qaa]);omega)
    ·rename_i h1;refine(decide_eq_false fun e=>?_).symm;subst e;rw[hx9] at hy9;cases hy9;simp at h1
    ·rename_i h1;refine⟨i+1,⟨by omega,fun k hk2=>?_⟩,by omega,rfl⟩;by_cases hki:k=i
     ·subst hki;rw[hx9,hy9];simp_all
     ·exact hk k (by omega)
   ·obtain rfl:i=a.tiles.length:=by omega
    have ht:a.tiles=b.tiles:=by
     refine ybf hl.1 fun k h1 h2=>?_
     have:=hk k h1;simpa [List.getD,h1,h2] using this
    simp only[go_sem,seval]
    repeat' first|assumption|(simp (disch:=first|assumption|omega|(simp;done)|(simp;omega)) only[];try simp only[go_sem,seval])|(with_reducible first|apply And.intro|intro _)|exact lexT|((try rw[qaa]);omega)
    refine qaw (E:=env 0) tok (σ:=Nat) (fun i=>[(2,.ptr 0 0),(3,.ptr 1 0),(8,.d (dI i))]) (fun _=>[.box [.d (dTcs a.tiles),.d (dQs a.pads)],.box [.d (dTcs b.tiles),.d (dQs b.pads)]])
     (fun i=>i<=a.pads.length/\∀ k,k<i->a.pads.getD k (0,false)=b.pads.getD k (0,false)) (fun i=>a.pads.length-i) [] 1000 1000 ?_ ?_ ?_
    ·simp only[go_sem,seval]
    ·simp only[go_sem,seval];exact⟨0,⟨by omega,fun k hk=>by omega⟩,rfl⟩
    ·rintro i ⟨hi,hk⟩;by_cases hlt:i<a.pads.length
     ·have hlb:i<b.pads.length:=by omega
      have gx:=qap (z:=D.agg [D.int .i64 0,.bool false]) hlt;have gy:=qap (z:=D.agg [D.int .i64 0,.bool false]) hlb;generalize hx9:a.pads.getD i (0,false)=x at *
      generalize hy9:b.pads.getD i (0,false)=y at *
      obtain⟨x1,x2⟩:=x;obtain⟨y1,y2⟩:=y;simp only[go_sem,seval,gx,gy]
      repeat' first|assumption|(simp (disch:=first|assumption|omega|(simp;done)|(simp;omega)) only[];try simp only[go_sem,seval,gx,gy])|(with_reducible first|apply And.intro|intro _)|exact lexT|((try rw[qaa]);omega)
      ·rename_i h1;refine(decide_eq_false fun e=>?_).symm;subst e;rw[hx9] at hy9;cases hy9;simp at h1
      ·rename_i h1;refine⟨i+1,⟨by omega,fun k hk2=>?_⟩,by omega,rfl⟩;by_cases hki:k=i
       ·subst hki;rw[hx9,hy9];simp_all;exact of_decide_eq_true h1.1
       ·exact hk k (by omega)
     ·obtain rfl:i=a.pads.length:=by omega
      have hp:a.pads=b.pads:=by
       refine ybf hl.2 fun k h1 h2=>?_
       have:=hk k h1;simpa [List.getD,h1,h2] using this
      simp only[go_sem,seval]
      repeat' first|assumption|(simp (disch:=first|assumption|omega|(simp;done)|(simp;omega)) only[];try simp only[go_sem,seval])|(with_reducible first|apply And.intro|intro _)|exact lexT|((try rw[qaa]);omega)
      exact(decide_eq_true (by cases a;cases b;simp_all)).symm

def qox (c:Circ) (st:List Bool):Prop:=qqm c/\st.length=c.next.length
noncomputable instance (c:Circ) (st:List Bool):Decidable (qox c st):=Classical.propDecidable _
def Tryz.c_sameBools (a b:List Bool):Pure prog 21 [dBs a,dBs b] (.bool (decide (a=b))):=by
 refine qax func21 rfl ntmps21 fun ok=>?_
 simp only[go_sem,seval] at ok⊢;refine⟨fun h=>?_,fun hlen=>?_⟩
 ·simp only[false_eq_decide_iff];rintro rfl;exact h rfl
 refine qaw (E:=env 0) tok (σ:=Nat) (fun i=>[(0,.d (dBs a)),(1,.d (dBs b)),(5,.d (dI i))]) (fun _=>[]) (fun i=>i<=a.length/\∀ j,j<i->a.getD j false=b.getD j false) (fun i=>a.length-i) [] 1000 1000 ?_ ?_ ?_
 ·simp only[go_sem,seval]
 ·simp only[go_sem,seval];exact⟨0,⟨by omega,by omega⟩,rfl⟩
 ·rintro i ⟨hi,hinv⟩
  repeat' first|assumption|(simp (disch:=first|assumption|omega|(simp;done)|(simp;omega)) only[go_sem,seval])|(with_reducible first|apply And.intro|intro _)|exact lexT|((try rw[qaa]);omega)
  ·rename_i h1 h2;simp only[false_eq_decide_iff];rintro rfl;exact h2 rfl
  ·rename_i h1 h2;exact qiN h1 h2 hinv
  ·simp only[true_eq_decide_iff];exact qda false hlen fun j hj=>hinv j (by omega)

def padR (l:List Bool):List Bool:=l++List.replicate (3-l.length) false
def qoy (h:qcu c list=some k) {rows:List (List Bool)}(hr : ∀ r∈rows,(r.length:Int)=c.inputs) :
  (c.Valid/\k.ok/\Wf k)/\∃ V:Nat->Wr->Bool,(∀ i,i<rows.length->VOk k (qhT k V i) (rows.getD i []) (V i))/\∀ i,outE k (V i)=padR (qcG (qfS c rows i) c.outs):=by
 obtain⟨hv,-,rs,R,-,rfl⟩:=qfq h;refine⟨⟨hv,R.ok,R.wf⟩,runV c rs rows,fun i hi=>R.run hr hi,fun i=>?_⟩;rw[R.run_out,padR,qek]
def qoz (k:Kcfg) (V:Nat->Wr->Bool) (h:i<n):(qfp k V n).getD i []=outE k (V i):=by simp[qfp,List.getD,h]
def Tryz.c_padded (l:List Bool) (hl:l.length<=3):Pure prog 22 [dBs l] (dBs (padR l)):=by
 refine qax func22 rfl ntmps22 fun ok=>?_
 simp only[go_sem,seval,-List.reduceReplicate] at ok;simp only[go_sem,seval,-List.reduceReplicate]
 repeat' first|assumption|(simp (disch:=first|assumption|omega|(simp;done)|(simp;omega)) only[qag];try simp only[go_sem,seval,-List.reduceReplicate])|(with_reducible first|apply And.intro|intro _)|((try rw[qaa]);omega)
 have e:(3-(l.length:Int)).toNat=3-l.length:=by omega
 rw[e];rfl

def qqt {l m:List Tcfg}(h:l.length=m.length) (hg : ∀ j,j<l.length->l.getD j tc0=m.getD j tc0):l=m:=by
 refine ybf h fun k h1 h2=>?_
 have:=hg k h1;simpa [List.getD,h1,h2] using this
def brk (ds:List (Int×Int)) (i t w:Int):Int:=ds.foldl (fun w d=>if d.1=i/\d.2=t then 0 else w) w
def qfr : ∀ (ds:List (Int×Int)) (l:List Tcfg) {i t:Nat},(∀ d∈ds,0<=d.1/\0<=d.2)->i<l.length->t<(l.getD i tc0).drive.length->
  ((qcm l ds).getD i tc0).drive.getD t 0=brk ds i t ((l.getD i tc0).drive.getD t 0)
 | [],l,i,t,_,_,_=>rfl
 | d::r,l,i,t,h,hi,ht=>by
  have hd:=h d (yaC ..);show((qcm (setW l d.1.toNat d.2.toNat 0) r).getD i tc0).drive.getD t 0=brk r i t (if d.1=(i:Int)/\d.2=(t:Int) then 0 else(l.getD i tc0).drive.getD t 0)
  have hg:=qnw (l:=l) (a:=d.1.toNat) (b:=d.2.toNat) (v:=0) i;by_cases hc:i=d.1.toNat
  ·rw[if_pos ⟨hc,hi⟩,<-hc] at hg;rw[qfr r _ (fun q hq=>h q (yaj _ hq)) (by rw[qkI];exact hi) (by rw[<-hc,hg];simpa using ht),<-hc,hg];by_cases h2:d.2.toNat=t
   ·rw[if_pos ⟨by omega,by omega⟩,h2];simp only[qak ht]
   ·rw[if_neg (by omega)];simp only[qbG h2]
  ·rw[if_neg (by omega)] at hg;rw[qfr r _ (fun q hq=>h q (yaj _ hq)) (by rw[qkI];exact hi) (by rw[hg];exact ht),hg,if_neg (by omega)]

noncomputable instance:DecidableEq Rt:=fun _ _=>Classical.propDecidable _

def getD_p3 {a b c:Int}:([D.int .i64 a,D.int .i64 b,D.int .i64 c]:List D).getD n (D.int .i64 0)=D.int .i64 (([a,b,c]:List Int).getD n 0):=by
 match n with
 | 0|1|2|_+3=>rfl

def qoA (h : ∀ d∈list,(0<=d.1/\d.1<=24)/\0<=d.2/\d.2<=7) : ∀ d∈list,((qcg list).getD d.2.toNat []).getD d.1.toNat false=true:=by
 have stay : ∀ (l:List (Int×Int)) (b:List (List Bool)) (u t:Nat),(b.getD u []).getD t false=true->((l.foldl (fun b d=>b.set d.2.toNat ((b.getD d.2.toNat []).set d.1.toNat true)) b).getD u []).getD t false=true:=by
  intro l;induction l with
  | nil=>exact fun b u t h=>h
  | cons d l ih=>
   intro b u t hb;refine ih _ u t ?_;show((b.set d.2.toNat ((b.getD d.2.toNat []).set d.1.toNat true)).getD u []).getD t false=true
   by_cases e:d.2.toNat=u
   ·subst e;by_cases hl:d.2.toNat<b.length
    ·have e1:(b.set d.2.toNat ((b.getD d.2.toNat []).set d.1.toNat true)).getD d.2.toNat []=(b.getD d.2.toNat []).set d.1.toNat true:=by simp[List.getD,hl]
     rw[e1];by_cases e2:d.1.toNat=t
     ·subst e2;by_cases h3:d.1.toNat<(b.getD d.2.toNat []).length
      ·simp[List.getD,List.getElem?_set] at h3 ⊢;simp[h3]
      ·rw[yaY (by omega)];exact hb
     ·have:((b.getD d.2.toNat []).set d.1.toNat true).getD t false=(b.getD d.2.toNat []).getD t false:=by
       rw[List.getD_eq_getElem?_getD,List.getElem?_set_ne e2,<-List.getD_eq_getElem?_getD]
      rw[this];exact hb
    ·rw[yaY (by omega)];exact hb
   ·have e1:(b.set d.2.toNat ((b.getD d.2.toNat []).set d.1.toNat true)).getD u []=b.getD u []:=by
     rw[List.getD_eq_getElem?_getD,List.getElem?_set_ne e,<-List.getD_eq_getElem?_getD]
    rw[e1];exact hb
 have key : ∀ (l:List (Int×Int)) (b:List (List Bool)),b.length=8->(∀ u,u<8->(b.getD u []).length=25)->(∀ d∈l,(0<=d.1/\d.1<=24)/\0<=d.2/\d.2<=7)->∀ d∈l,((l.foldl (fun b d=>b.set d.2.toNat ((b.getD d.2.toNat []).set d.1.toNat true)) b).getD d.2.toNat []).getD d.1.toNat false=true:=by
  intro l;induction l with
  | nil=>intro b _ _ _ d hd;simp at hd
  | cons e l ih=>
   intro b hb hr hl d hd;have he:=hl e (by simp);have hrow : ∀ u,u<8->((b.set e.2.toNat ((b.getD e.2.toNat []).set e.1.toNat true)).getD u []).length=25:=by
    intro u hu;by_cases e2:e.2.toNat=u
    ·subst e2;have e1:(b.set e.2.toNat ((b.getD e.2.toNat []).set e.1.toNat true)).getD e.2.toNat []=(b.getD e.2.toNat []).set e.1.toNat true:=by simp[List.getD,show e.2.toNat<b.length by omega]
     rw[e1,yas];exact hr _ hu
    ·have e1:(b.set e.2.toNat ((b.getD e.2.toNat []).set e.1.toNat true)).getD u []=b.getD u []:=by
      rw[List.getD_eq_getElem?_getD,List.getElem?_set_ne e2,<-List.getD_eq_getElem?_getD]
     rw[e1];exact hr u hu
   rcases List.mem_cons.1 hd with rfl|h1
   ·refine stay l _ _ _ ?_;have e1:(b.set d.2.toNat ((b.getD d.2.toNat []).set d.1.toNat true)).getD d.2.toNat []=(b.getD d.2.toNat []).set d.1.toNat true:=by simp[List.getD,show d.2.toNat<b.length by omega]
    have h3:=hr d.2.toNat (by omega);rw[e1];rw[List.getD_eq_getElem?_getD,List.getElem?_set_self (by omega)];rfl
   ·exact ih _ (by rw[yas];exact hb) hrow (fun x hx=>hl x (by simp[hx])) d h1
 exact key list qiV rfl free0_ok.row h
def qsh {place:List Int}(hd:qjr list) {routes:List Rt}{busy:List (List Bool)}(h:RoutesOk c (qae c) place (qcg list) n busy routes) {k:Nat}(hi:i<routes.length) (hk:k<(routes.getD i rt0).hops.length) {d:Int×Int}(hm:d∈list) :
  d.1*8+d.2≠((routes.getD i rt0).hops.getD k (0,0)).1*8+(routes.getD i rt0).track:=by
 intro he;have hr:=h.each _ (qad hi:routes.getD i rt0∈routes);have ht:=hr.track;have h2:=hd.2 d hm;have e1:d.2=(routes.getD i rt0).track:=by omega
 have e2:d.1=((routes.getD i rt0).hops.getD k (0,0)).1:=by omega
 have h3:=qoA hd.2 d hm;have h4:=hr.tree.free _ (qad hk:(routes.getD i rt0).hops.getD k (0,0)∈(routes.getD i rt0).hops);rw[e1,e2,h4] at h3;cases h3

def qtf : ∀ (ds:List (Int×Int)) (i t w:Int),brk ds i t w=w∨∃ d∈ds,d.1=i/\d.2=t
 | [],i,t,w=>.inl rfl
 | d::ds,i,t,w=>by
  by_cases h:d.1=i/\d.2=t
  ·exact .inr ⟨d,yaC ..,h⟩
  ·have e:brk (d::ds) i t w=brk ds i t w:=by
    show brk ds i t (if d.1=i/\d.2=t then 0 else w)=_
    rw[if_neg h]
   rw[e];rcases qtf ds i t w with h2|⟨x,hx,h2⟩
   ·exact .inl h2
   ·exact .inr ⟨x,yaj _ hx,h2⟩
def qnL : ∀ (ds:List (Int×Int)) (i t:Int),brk ds i t 0=0
 | [],i,t=>rfl
 | d::ds,i,t=>by
  show brk ds i t (if d.1=i/\d.2=t then 0 else 0)=0
  rw[ite_self];exact qnL ds i t
def qoB {ds:List (Int×Int)}(hd : ∀ d∈ds,0<=d.1/\0<=d.2) (h : ∀ d∈ds,drv k d=0):qnx k ds=k:=by
 have hT:qcm k.tiles ds=k.tiles:=by
  have hl:=qhk ds k.tiles;refine qqt hl fun j hj=>?_
  rw[hl] at hj;obtain⟨e1,e2,e3,e4⟩:=qhK ds k.tiles j;have hdr:((qcm k.tiles ds).getD j tc0).drive=(k.tiles.getD j tc0).drive:=by
   refine qda 0 e2 fun t ht=>?_
   rw[e2] at ht;rw[qfr ds _ hd hj ht];rcases qtf ds j t ((k.tiles.getD j tc0).drive.getD t 0) with h2|⟨d,hm,h1,h2⟩
   ·exact h2
   ·have:=h d hm;unfold drv at this;rw[h1,h2,yba,yba] at this;rw[this,qnL]
  generalize (qcm k.tiles ds).getD j tc0=a at *
  generalize k.tiles.getD j tc0=b at *
  cases a;cases b;simp_all
 unfold qnx;rw[hT]
def ql5 (h:qcu c list=some k):qnx k list=k:=by
 obtain⟨hv,hd,rs,R,hro,rfl⟩:=qfq h;have hcl:=qby hv;have hp:PlaceOk (qae c).length (qb4 c (qae c)):=qgE (by omega);have hrc:qcy c (qae c) (qb4 c (qae c)) (qcg list)=(qcL c (qae c) (qb4 c (qae c)) (qcg list) (c.vars.toNat-1)).map (·.2):=rfl;rw[hrc] at hro;obtain⟨⟨busy,out⟩,h1,rfl⟩:=Option.map_eq_some_iff.1 hro;have hR:=qgI hv hp (qfF list) _ h1;refine qoB (fun d hm=>by have:=hd.2 d hm;omega) fun d hm=>?_
 have hb:=hd.2 d hm;refine R.drv_out (w:=d) ⟨hb.1,hb.2⟩ fun r hr e ht=>?_
 obtain⟨i,hi,rfl⟩:=qaV rt0 hr;obtain⟨j,hj,e2⟩:=qez ht;refine qsh hd hR hi hj hm ?_;rw[e2,e]
end Go.Proofs

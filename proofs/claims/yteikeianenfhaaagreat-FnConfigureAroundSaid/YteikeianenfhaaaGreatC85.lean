/- Contracts, plain definitions and lemmas. Conditions: none; lemmas. -/
import Derived.Test.YteikeianenfhaaaGreatC79
import Derived.Test.YteikeianenfhaaaGreatC9
import Derived.Test.YteikeianenfhaaaGreatC7
import Derived.Test.YteikeianenfhaaaGreatC53
set_option maxRecDepth 20000
set_option linter.unusedSimpArgs false
set_option linter.unusedVariables false
set_option maxHeartbeats 2000000
namespace Go.Proofs
set_option linter.defProp false
open Go Go.VL Tryz
variable {n:Nat}{k:Kcfg}{α:Type}
def getD_l3 {a b c:Int}:([D.int .i64 a,D.int .i64 b,D.int .i64 c]:List D).getD n (D.int .i64 0)=D.int .i64 (([a,b,c]:List Int).getD n 0):=by
 match n with
 | 0|1|2|_+3=>rfl
def Ksh (n:Int) (k:Kcfg):Prop:=k.tiles.length<=25/\k.pads.length=3/\(∀ t∈k.tiles,t.select.length=3/\t.drive.length<=8)/\(n=0->Tsz k.tiles)
def Ksh.of {n:Int}{T:List Tcfg}{P:List (Int×Bool)}(h1:Tsz T) (h2:P.length=3):Ksh n ⟨T,P⟩:=
 ⟨by have:=h1.1;simp only;omega,h2,fun t ht=>by have:=h1.2 t ht;exact⟨this.1,by have:=this.2;omega⟩,fun _=>h1⟩

def Tryz.circ_atM1 {A:R}{b:List Int}(hb:Bytes b) {p n:Int}(hp:0<=p/\p<=100000000) (hn:0<=n/\n<=1000) {T:List R}{K:I->List R->Prop}(hk : ∀ (c:Circ) (q:Int),(p<=q/\q<=p+200)->(c.next.length<=40/\c.gates.length<=40/\c.outs.length<=40/\-1<=c.inputs/\c.inputs<=5)->K (.d (dC c)) (A::rd b q::T)) :
  ICall prog 66 [.ptr 1 0,.d (dI n)] (A::rd b p::T) K:=by
 refine qan (c_l20Circuit b p n hb hp hn) [1] (by simp only[go_sem,seval]) ?_;rintro r0 H1 ⟨c,q,hq,hl,rfl,rfl⟩;have:=hk c q hq hl;simp only[go_sem,seval];simpa using this
def Tryz.c_DrawConfigureAround (code:List Int):PureFE prog 12 [dUs code] (fun x=>∃ (c:Circ) (ds:List (Int×Int)),x=.tup [dC c,dPs ds]/\ds.length<=14):=by
 refine qod (E:=env 0) tok rfl 1000 func12 rfl rfl ntmps12 (by simp) fun ok=>?_
 simp only[go_sem,seval] at ok⊢;have hb:=bytes_of ok.2 2000;refine qpy (c_l20Open code) [] (by simp only[go_sem,seval]) ?_;simp only[go_sem,seval];refine circ_atM1 (p:=0) (n:=12) hb (by omega) (by omega) fun c q hq hc=>?_
 simp only[go_sem,seval];refine qan (c_l20Defects _ q 12 hb (by omega) (by omega)) [1] (by simp only[go_sem,seval]) ?_;rintro r0 H1 ⟨l,q2,hq2,hl,rfl,rfl⟩
 repeat' first|assumption|(simp (disch:=first|assumption|omega|(simp;done)|(simp;omega)) only[go_sem,seval])|(with_reducible first|apply And.intro|intro _)|((try rw[qaa]);omega)
 exact⟨_,of_eq_true wk_self,c,l,rfl,hl⟩

abbrev Wr:=Int×Int
variable {w:Wr}
def drv (k:Kcfg) (w:Wr):Int:=(k.tiles.getD w.1.toNat tc0).drive.getD w.2.toNat 0
def qbI (k:Kcfg) (w:Wr):List Wr:=
 if 2<=drv k w/\drv k w<=5 then [(nb w.1 (drv k w),w.2)]
 else if drv k w=1/\(k.tiles.getD w.1.toNat tc0).reg=false then((k.tiles.getD w.1.toNat tc0).select.filter fun s=>decide (s≠15)).map fun s=>(w.1,s)
 else []
def Rel (k:Kcfg) (x w:Wr):Prop:=x∈qbI k w
def wOk (w:Wr):Prop:=(0<=w.1/\w.1<=24)/\(0<=w.2/\w.2<=7)
def nb_bd {t d:Int}(ht:0<=t/\t<=24) (h:0<=nb t d):nb t d<=24:=by
 unfold nb nbUp qd2 qcN qd3 at *
 split at h <;> (try split at h) <;> (try split at h) <;> (try split at h) <;> (try split at h) <;> simp_all <;> omega
def qnz (hk:k.ok) (hw:wOk w) : ∀ x∈qbI k w,wOk x:=by
 obtain⟨⟨h1,h2⟩,h3,h4⟩:=hw;have ht:=Tcfg.ok_iff.1 (hk.2.2 w.1.toNat (by have:=hk.1;omega));rw[show((w.1.toNat:Nat):Int)=w.1 by omega] at ht;intro x hx;unfold qbI at hx;split at hx
 ·rename_i hd;have hdo:=ht.2.2.2.2 w.2.toNat (by omega);have hdo2:qa1 w.1 (drv k w)=true:=hdo;simp only[qa1,decide_eq_true_eq] at hdo2;have h5:0<=nb w.1 (drv k w):=by omega
  obtain rfl:x=_:=by simpa using hx
  exact⟨⟨h5,nb_bd ⟨h1,h2⟩ h5⟩,h3,h4⟩
 ·split at hx
  ·obtain⟨s,hs,rfl⟩:=List.mem_map.1 hx;obtain⟨hs1,hs2⟩:=List.mem_filter.1 hs;obtain⟨i,hi,rfl⟩:=qaV (0:Int) hs1;have:=ht.2.2.2.1 i hi;simp only[qcM,ybe,yap,decide_eq_true_eq] at this;simp only[decide_eq_true_eq] at hs2;exact⟨⟨h1,h2⟩,by simp only;omega⟩
  ·simp at hx
def qp1 (k:Kcfg) (w:Wr) (h:(k.tiles.getD w.1.toNat tc0).select.length=3):(qbI k w).length<=3:=by
 unfold qbI;split
 ·simp
 ·split
  ·simp only[yaw];have:=List.length_filter_le (fun s=>decide (s≠15)) (k.tiles.getD w.1.toNat tc0).select;omega
  ·simp
def Wf (k:Kcfg):Prop:=∀ w,wOk w->Acc (Rel k) w
def Acc.sub {r s : α->α->Prop}{x : α}(h:Acc s x) (hs : ∀ a b,r a b->s a b):Acc r x:=by
 induction h with
 | intro x _ ih=>exact⟨_,fun y hy=>ih y (hs _ _ hy)⟩
def Wf.sub {k k':Kcfg}(h:Wf k) (hs : ∀ w,∀ x∈qbI k' w,x∈qbI k w):Wf k':=fun w hw=>Acc.sub (h w hw) fun a b=>hs b a
def qrY {r : α->α->Prop}{x : α}(h:Relation.TransGen r x x) : ¬ Acc r x:=fun ha=>by
 have hw : ∀ x,Acc r x->¬ Relation.TransGen r x x:=by
  intro x ha;induction ha with
  | intro x _ ih=>
   intro ht;cases ht with
   | single h=>exact ih _ h (.single h)
   | tail h1 h2=>exact ih _ h2 (Relation.TransGen.trans (.single h2) h1)
 exact hw x ha h
abbrev Mks:=List (Wr×Int)
variable {m m':Mks}
def mk (m:Mks) (w:Wr):Int:=((m.find? fun e=>decide (e.1=w)).map fun e=>e.2).getD 0
def mkUp:Mks->Wr->Int->Mks
 | [],w,v=>[(w,v)]
 | e::r,w,v=>if e.1=w then(w,v)::r else e::mkUp r w v
def qhl (w:Wr) (v:Int) (u:Wr) : ∀ m,mk (mkUp m w v) u=if u=w then v else mk m u
 | []=>by by_cases h:u=w <;> simp[mk,mkUp,h,eq_comm]
 | e::r=>by
  have ih:=qhl w v u r;unfold mkUp;by_cases h:e.1=w
  ·rw[if_pos h];by_cases h2:u=w
   ·simp[mk,h2]
   ·have h3 : ¬ e.1=u:=fun h4=>h2 (by rw[<-h4,h])
    have h4 : ¬ w=u:=fun h5=>h2 h5.symm
    simp[mk,h2,h3,h4]
  ·rw[if_neg h];by_cases h3:e.1=u
   ·have h2 : ¬ u=w:=fun h4=>h (by rw[h3,h4])
    simp[mk,h2,h3]
   ·unfold mk at ih ⊢;simp only[List.find?_cons,decide_eq_false h3,ih]
def mE (m:Mks):List (D×D):=m.map fun e=>(dP e.1,dI e.2)
def qmJ (w:Wr) : ∀ m,(qcP (mE m) (.agg [dI w.1,dI w.2])).getD (dI 0)=dI (mk m w)
 | []=>rfl
 | e::r=>by
  have ih:=qmJ w r;show(qcP ((dP e.1,dI e.2)::mE r) _).getD _=_
  rw[qeh,qgm];by_cases h:e.1=w
  ·subst h;simp[mk]
  ·have h2 : ¬ (w.1=e.1.1/\w.2=e.1.2):=fun h3=>h (Prod.ext h3.1.symm h3.2.symm)
   rw[decide_eq_false h2];simp only[yah,if_false,ih];simp[mk,h]
def qp2 (w:Wr) (v:Int) : ∀ m,updD (mE m) (.agg [dI w.1,dI w.2]) (dI v)=mE (mkUp m w v)
 | []=>rfl
 | e::r=>by
  have ih:=qp2 w v r;show updD ((dP e.1,dI e.2)::mE r) _ _=_
  rw[updD,qgm];by_cases h:e.1=w
  ·subst h;simp[mkUp,mE]
  ·have h2 : ¬ (w.1=e.1.1/\w.2=e.1.2):=fun h3=>h (Prod.ext h3.1.symm h3.2.symm)
   rw[decide_eq_false h2];simp only[yah,if_false,ih];simp[mkUp,mE,h]
def qp3 {fs:List (Nat×Nat)}(h:fs.length=2) (m:Mks):qbw (.struct fs) (mE m):=by
 rw[qcV];intro e he;obtain⟨x,_,rfl⟩:=List.mem_map.1 he;show(2=fs.length/\_)
 exact⟨h.symm,⟨rfl,rfl,trivial⟩⟩
structure MarkOk (k:Kcfg) (m:Mks):Prop where
 rng : ∀ u,mk m u=0∨mk m u=1∨mk m u=2
 fin : ∀ u,mk m u=2->Acc (Rel k) u
def todo (m:Mks):Nat:=(List.range 200).countP fun i=>decide (mk m (((i/8:Nat):Int),((i%8:Nat):Int))=0)
def todo_le (h : ∀ u,mk m' u=0->mk m u=0):todo m'<=todo m:=by
 unfold todo;refine List.countP_mono_left fun i _ hi=>?_
 simp only[decide_eq_true_eq] at hi ⊢;exact h _ hi
def qlK {α : Type}{p q : α->Bool}(h : ∀ x,p x=true->q x=true) : ∀ {l:List α},(∃ x∈l,q x=true/\p x=false)->l.countP p<l.countP q
 | [],he=>by obtain⟨x,hx,_⟩:=he;simp at hx
 | y::l,he=>by
  have hm:l.countP p<=l.countP q:=List.countP_mono_left fun x _ hx=>h x hx
  obtain⟨x,hx,h1,h2⟩:=he;rw[List.countP_cons,List.countP_cons];rcases List.mem_cons.1 hx with rfl|hx
  ·rw[h1,h2];simp;omega
  ·have:=qlK h (l:=l) ⟨x,hx,h1,h2⟩;cases hp:p y with
   | true=>rw[h y hp];simp;omega
   | false=>simp;split <;> omega
def todo_lt (h : ∀ u,mk m' u=0->mk m u=0) (hw:wOk w) (h0:mk m w=0) (h1:mk m' w≠0):todo m'<todo m:=by
 unfold todo;obtain⟨⟨a1,a2⟩,a3,a4⟩:=hw;have e1:(((w.1*8+w.2).toNat/8:Nat):Int)=w.1:=by omega
 have e2:(((w.1*8+w.2).toNat%8:Nat):Int)=w.2:=by omega
 refine qlK (fun i hi=>?_) ⟨(w.1*8+w.2).toNat,List.mem_range.2 (by omega),?_,?_⟩
 ·simp only[decide_eq_true_eq] at hi ⊢;exact h _ hi
 ·rw[e1,e2];exact decide_eq_true h0
 ·rw[e1,e2];exact decide_eq_false h1
abbrev pK (k:Kcfg):D:=.ptr [dTcs k.tiles,dQs k.pads]
def qiZ (hk:k.ok) (hw:wOk w):drv k w=0∨drv k w=1∨(2<=drv k w/\drv k w<=5/\0<=nb w.1 (drv k w))∨drv k w=6:=by
 obtain⟨⟨h1,h2⟩,h3,h4⟩:=hw;have ht:=Tcfg.ok_iff.1 (hk.2.2 w.1.toNat (by have:=hk.1;omega));rw[show((w.1.toNat:Nat):Int)=w.1 by omega] at ht;have hdo:=ht.2.2.2.2 w.2.toNat (by omega);have hdo2:qa1 w.1 (drv k w)=true:=hdo;simp only[qa1,decide_eq_true_eq] at hdo2;omega
def selN (t:Int) (l:List Int) (n:Nat):List Wr:=((l.take n).filter fun s=>decide (s≠15)).map fun s=>(t,s)
def qp4 (t:Int) {l:List Int}(h:n<l.length):selN t l (n+1)=selN t l n++if l.getD n 0=15 then [] else [(t,l.getD n 0)]:=by
 unfold selN;rw[yaB h,List.filter_append,yaz];congr 1;have e:l[n]=l.getD n 0:=by simp[List.getD,h]
 rw[e];generalize l.getD n 0=x;by_cases h2:x=15 <;> simp[h2]
def qrZ (t:Int) (l:List Int) (n:Nat):(selN t l n).length<=n:=by
 unfold selN;rw[yaw];exact yaD (List.length_filter_le ..) (by rw[yaP];omega)
def Tryz.c_needs (k:Kcfg) (hk:k.ok) (w:Wr) (hw:wOk w):Pure prog 181 [pK k,dP w] (dPs (qbI k w)):=by
 have hl:=hk.1;have hdc:=qiZ hk hw;obtain⟨⟨h1,h2⟩,h3,h4⟩:=hw;obtain⟨s1,s2⟩:=Kcfg.ok_sizes hk (i:=w.1.toNat) (by omega);have gx : ∀ z,(k.tiles.map fun x=>dTc x).getD w.1.toNat z=dTc (k.tiles.getD w.1.toNat tc0):=fun z=>qam (by omega)
 have hnb:=c_neighbours w.1 (by omega);unfold qbI;rw[show drv k w=(k.tiles.getD w.1.toNat tc0).drive.getD w.2.toNat 0 from rfl] at *
 generalize k.tiles.getD w.1.toNat tc0=t at *
 generalize hd9:t.drive.getD w.2.toNat 0=d at *
 refine qax func181 rfl ntmps181 fun ok=>?_
 simp only[go_sem,seval] at ok;simp only[go_sem,seval,gx,hd9];have hlp : ∀ n,n<3->n<t.select.length:=fun n hn=>by omega
 obtain rfl|rfl|hd|rfl:=hdc
 ·repeat' first|assumption|(simp (disch:=first|assumption|omega|(simp;done)|(simp;omega)) only[];try simp only[go_sem,seval,gx,hd9])|(with_reducible first|apply And.intro|intro _)|exact lexT|((try rw[qaa]);omega)
  simp
 ·repeat' first|assumption|(simp (disch:=first|assumption|omega|(simp;done)|(simp;omega)) only[];try simp only[go_sem,seval,gx,hd9])|(with_reducible first|apply And.intro|intro _)|exact lexT|((try rw[qaa]);omega)
  ·rename_i hr;simp[hr]
  ·rename_i hr;refine qaf (E:=env 0) tok (σ:=Nat) (fun n=>[(3,.ptr 0 0),(7,.sl 1 (selN w.1 t.select n).length 2 0 (selN w.1 t.select n).length),(50,.d (dIs t.select)),(51,.d (dI t.select.length)),(52,.d (dI n))])
    (fun n=>[.box [.d (dI w.1),.d (dI w.2)],.row (selN w.1 t.select n).length 2 true ((selN w.1 t.select n).map fun x=>dP x)]) (fun n=>n<=3) (fun n=>3-n) [] [(7,2,true)] 1000 1000 ?_ ?_
   ·simp only[go_sem,seval];exact⟨0,by omega,by simp[selN]⟩
   ·intro n hn;by_cases hlt:n<3
    ·have e:=qp4 w.1 (hlp n hlt);simp only[go_sem,seval]
     repeat' first|assumption|(simp (disch:=first|assumption|omega|(simp;done)|(simp;omega)) only[];try simp only[go_sem,seval])|(with_reducible first|apply And.intro|intro _)|exact lexT|((try rw[qaa]);omega)
     ·have:=qrZ w.1 t.select n;omega
     ·rename_i h9;rw[if_neg h9] at e;exact⟨n+1,by omega,by omega,⟨by rw[e];simp,rfl⟩,by rw[e];simp,e.symm⟩
     ·rename_i h9;rw[if_pos h9,yaG] at e;exact⟨n+1,by omega,by omega,⟨by rw[e],rfl⟩,by rw[e],by rw[e]⟩
    ·obtain rfl:n=3:=by omega
     simp only[go_sem,seval]
     repeat' first|assumption|(simp (disch:=first|assumption|omega|(simp;done)|(simp;omega)) only[];try simp only[go_sem,seval])|(with_reducible first|apply And.intro|intro _)|exact lexT|((try rw[qaa]);omega)
     rw[if_pos (by simpa using hr),selN,yaa (by omega)]
 ·obtain h|h|h|h:d=2∨d=3∨d=4∨d=5:=by omega
  all_goals (
   subst h
   repeat' first|assumption|(simp (disch:=first|assumption|omega|(simp;done)|(simp;omega)) only[];try simp only[go_sem,seval,gx,hd9])|(with_reducible first|apply And.intro|intro _)|(refine qac hnb ?_;simp only[go_sem,seval,gx,hd9])|exact lexT|((try rw[qaa]);omega)
   refine qaL (n:=0) [] (fsts [0,3,4,6,1,7] (.one 2 (fsts [5,8] (.one 9 (.fst 10 .done))))) ?_;simp only[go_sem,seval,gx,hd9]
   repeat' first|assumption|(simp (disch:=first|assumption|omega|(simp;done)|(simp;omega)) only[];try simp only[go_sem,seval,gx,hd9])|(with_reducible first|apply And.intro|intro _)|(refine qac hnb ?_;simp only[go_sem,seval,gx,hd9])|exact lexT|((try rw[qaa]);omega)
   rfl)
 ·repeat' first|assumption|(simp (disch:=first|assumption|omega|(simp;done)|(simp;omega)) only[];try simp only[go_sem,seval,gx,hd9])|(with_reducible first|apply And.intro|intro _)|exact lexT|((try rw[qaa]);omega)
  simp
abbrev kbox (k:Kcfg):R:=.box [.d (dTcs k.tiles),.d (dQs k.pads)]
def cycPost (k:Kcfg) (m:Mks) (w:Wr) (b:Bool) (m':Mks):Prop:=
 (b=true->¬ Acc (Rel k) w)/\(b=false->mk m' w=2/\(∀ u,mk m' u=1↔mk m u=1)/\(∀ u,mk m u=2->mk m' u=2)/\MarkOk k m')
def Tryz.c_cyclic (k:Kcfg) (hk:k.ok) : ∀ (n:Nat) (m:Mks) (w:Wr),todo m<n->wOk w->MarkOk k m->(∀ u,mk m u=1->Relation.TransGen (Rel k) w u)->
  ICall prog 117 [.ptr 0 0,.d (dP w),.map 1] [kbox k,.map (mE m)] (fun r H'=>∃ (b:Bool) (m':Mks),cycPost k m w b m'/\r=.d (dB b)/\H'=[kbox k,.map (mE m')]):=by
 intro n;induction n with
 | zero=>intro m w h;omega
 | succ n ih=>
  intro m w hn hw hm hp;have hnd:=c_needs k hk w hw;have ek:=qmJ w m;have eu:=qp2 w 1 m;have hks:=fun m=>qp3 (fs:=[(0,3),(1,3)]) rfl m
  have hln:=qp1 k w (Kcfg.ok_sizes hk (by have:=hw.1;omega)).1;have hno:=qnz hk hw;have eg : ∀ j,((qbI k w).map dP).getD j (D.agg [D.int .i64 0,D.int .i64 0])=dP ((qbI k w).getD j (0,0)):=fun j=>qei dP _ j (0,0)
  refine qaz (E:=env 2) tok rfl 1000 func117 rfl rfl ntmps117 (by simp) ?_;simp only[go_sem,seval,ek,eu]
  repeat' first|assumption|(simp (disch:=first|assumption|omega|(simp;done)|(simp;omega)) only[];try simp only[go_sem,seval,ek,eu])|(with_reducible first|apply And.intro|intro _)|(refine qac hnd ?_;simp only[go_sem,seval,ek,eu])|exact lexT|((try rw[qaa]);omega)
  all_goals try exact hks _
  ·rename_i h1;refine qaK (r0:=.d (dB true)) (H1:=[kbox k,.map (mE m)]) ?_ ⟨true,m,⟨fun _=>qrY (hp w h1),fun h=>by cases h⟩,rfl,rfl⟩;simp only[go_sem,seval]
  ·rename_i h1 h2;refine qaK (r0:=.d (dB false)) (H1:=[kbox k,.map (mE m)]) ?_ ⟨false,m,⟨fun h=>by(try cases h),fun _=>⟨h2,fun u=>Iff.rfl,fun u h=>h,hm⟩⟩,rfl,rfl⟩;simp only[go_sem,seval]
  rename_i h1 h2;have h0:mk m w=0:=by have:=hm.rng w;omega
  have hz : ∀ u,mk (mkUp m w 1) u=0->mk m u=0:=fun u hu=>by
   rw[qhl] at hu;by_cases h:u=w
   ·rw[if_pos h] at hu;omega
   ·rwa [if_neg h] at hu
  have ht1:=todo_lt hz hw h0 (by rw[qhl,if_pos rfl];decide);refine qaw (E:=env 2) tok (σ:=Nat×Mks) (fun s=>[(0,.ptr 0 0),(2,.map 1),(4,.ptr 2 0),(20,.d (dPs (qbI k w))),(21,.d (dI (qbI k w).length)),(22,.d (dI s.1))]) (fun s=>[kbox k,.map (mE s.2),.box [.d (dI w.1),.d (dI w.2)]])
   (fun s=>s.1<=(qbI k w).length/\(∀ j,j<s.1->mk s.2 ((qbI k w).getD j (0,0))=2)/\(∀ u,mk s.2 u=1↔mk (mkUp m w 1) u=1)/\(∀ u,mk m u=2->mk s.2 u=2)/\MarkOk k s.2/\todo s.2<=todo (mkUp m w 1)) (fun s=>(qbI k w).length-s.1) [] 1000 1000 ?_ ?_ ?_
  ·simp only[go_sem,seval]
  ·simp only[go_sem,seval];refine⟨(0,mkUp m w 1),⟨by omega,fun j hj=>by omega,fun u=>Iff.rfl,fun u hu=>?_,⟨fun u=>?_,fun u hu=>?_⟩,yad _⟩,rfl,rfl⟩
   ·rw[qhl,if_neg (fun h=>by subst h;omega)];exact hu
   ·rw[qhl];split
    ·omega
    ·exact hm.rng u
   ·rw[qhl] at hu;split at hu
    ·omega
    ·exact hm.fin u hu
  ·rintro⟨i,mi⟩ ⟨hi,hj,h1s,h2s,hmi,htd⟩;have ek2:=qmJ w mi;have eu2:=qp2 w 2 mi;simp only at hi hj h1s h2s hmi htd;by_cases hlt:i<(qbI k w).length
   ·have hmem:(qbI k w).getD i (0,0)∈qbI k w:=qad hlt;have egi:=eg i;generalize hx9:(qbI k w).getD i (0,0)=x at *
    have hih:=ih mi x (by omega) (hno x hmem) hmi (fun u hu=>by
     have h3:=(h1s u).1 hu;rw[qhl] at h3;split at h3
     ·rename_i h4;rw[h4];exact .single hmem
     ·exact Relation.TransGen.trans (.single hmem) (hp u h3))
    simp only[go_sem,seval,egi,ek2,eu2]
    repeat' first|assumption|(simp (disch:=first|assumption|omega|(simp;done)|(simp;omega)) only[];try simp only[go_sem,seval,egi,ek2,eu2])|(with_reducible first|apply And.intro|intro _)|exact lexT|((try rw[qaa]);omega)
    refine qan hih [0,1] (by simp only[go_sem,seval]) ?_;rintro r0 H1 ⟨b,m',hpost,rfl,rfl⟩;simp only[go_sem,seval]
    repeat' first|assumption|(simp (disch:=first|assumption|omega|(simp;done)|(simp;omega)) only[];try simp only[go_sem,seval])|(with_reducible first|apply And.intro|intro _)|exact lexT|((try rw[qaa]);omega)
    ·rename_i hb9;refine qaK (r0:=.d (dB true)) (H1:=[kbox k,.map (mE m')]) ?_ ⟨true,m',⟨fun _ ha=>hpost.1 hb9 (ha.inv hmem),fun h=>by cases h⟩,rfl,rfl⟩;simp only[go_sem,seval]
    ·rename_i hb9;obtain⟨p1,p2,p3,p4⟩:=hpost.2 (by simpa using hb9);have h2w : ∀ u,mk mi u≠0->mk m' u≠0:=fun u hu=>by
      have:=hmi.rng u;by_cases h1:mk mi u=1
      ·have:=(p2 u).2 h1;omega
      ·have:=p3 u (by omega);omega
     refine⟨(i+1,m'),⟨by simp only;omega,fun j hj2=>?_,fun u=>(p2 u).trans (h1s u),fun u hu=>p3 u (h2s u hu),p4,yaD (todo_le fun u hu=>?_) htd⟩,by simp only;omega,rfl,rfl⟩
     ·by_cases hji:j=i
      ·rw[hji,hx9];exact p1
      ·exact p3 _ (hj j (by simp only at hj2;omega))
     ·exact Decidable.byContradiction fun h=>h2w u h hu
   ·simp only[go_sem,seval,eg,ek2,eu2]
    repeat' first|assumption|(simp (disch:=first|assumption|omega|(simp;done)|(simp;omega)) only[];try simp only[go_sem,seval,eg,ek2,eu2])|(with_reducible first|apply And.intro|intro _)|exact lexT|((try rw[qaa]);omega)
    ·exact hks _
    ·obtain rfl:i=(qbI k w).length:=by omega
     have hall : ∀ x∈qbI k w,mk mi x=2:=(qhY (0,0)).2 hj;have hacc:Acc (Rel k) w:=⟨_,fun x hx=>hmi.fin x (hall x hx)⟩;refine qaK (r0:=.d (dB false)) (H1:=[kbox k,.map (mE (mkUp mi w 2))]) ?_ ⟨false,_,⟨fun h=>by(try cases h),fun _=>⟨by rw[qhl,if_pos rfl],fun u=>?_,fun u hu=>?_,⟨fun u=>?_,fun u hu=>?_⟩⟩⟩,rfl,rfl⟩
     ·simp only[go_sem,seval]
     ·rw[qhl];by_cases hu:u=w
      ·subst hu;rw[if_pos rfl];omega
      ·rw[if_neg hu,h1s,qhl,if_neg hu]
     ·rw[qhl];split
      ·rfl
      ·exact h2s u hu
     ·rw[qhl];split
      ·omega
      ·exact hmi.rng u
     ·rw[qhl] at hu;split at hu
      ·rename_i h4;rw[h4];exact hacc
      ·exact hmi.fin u hu
noncomputable instance (k:Kcfg):Decidable (k.ok/\Wf k):=Classical.propDecidable _
def Tryz.c_ConfigAcyclic (k:Kcfg):Pure prog 57 [dK k] (.bool (decide (k.ok/\Wf k))):=by
 have hc:=c_ConfigValid k;refine qax func57 rfl ntmps57 fun ok=>?_
 simp only[go_sem,seval] at ok⊢
 repeat' first|assumption|(simp (disch:=first|assumption|omega|(simp;done)|(simp;omega)) only[];try simp only[go_sem,seval])|(with_reducible first|apply And.intro|intro _)|(refine qac hc ?_;simp only[go_sem,seval])|exact lexT|((try rw[qaa]);omega)
 ·rename_i h;exact(decide_eq_false fun h2=>by simp_all).symm
 rename_i h;have hk:k.ok:=by simpa using h
 have hks:=fun m=>qp3 (fs:=[(0,3),(1,3)]) rfl m
 refine qaw (E:=env 0) tok (σ:=Nat×Mks) (fun s=>[(1,.ptr 0 0),(3,.map 1),(10,.d (dI s.1))]) (fun s=>[.box [.d (dTcs k.tiles),.d (dQs k.pads)],.map (mE s.2)])
  (fun s=>s.1<=25/\MarkOk k s.2/\(∀ u,mk s.2 u≠1)/\(∀ u,wOk u->u.1<s.1->mk s.2 u=2)) (fun s=>25-s.1) [] 1000 1000 ?_ ?_ ?_
 ·simp only[go_sem,seval]
 ·simp only[go_sem,seval];refine⟨(0,[]),⟨by simp only;omega,⟨fun u=>.inl rfl,fun u hu=>absurd hu (by show ¬ (0:Int)=2;decide)⟩,fun u=>by show ¬ (0:Int)=1;decide,fun u hu h2=>?_⟩,rfl,rfl⟩;have:=hu.1;simp only at h2;omega
 ·rintro⟨t,m⟩ ⟨ht,hm,hno,hfin⟩;simp only at ht hm hno hfin;by_cases hlt:t<25
  ·simp only[go_sem,seval]
   repeat' first|assumption|(simp (disch:=first|assumption|omega|(simp;done)|(simp;omega)) only[];try simp only[go_sem,seval])|(with_reducible first|apply And.intro|intro _)|exact lexT|((try rw[qaa]);omega)
   refine qaw (E:=env 0) tok (σ:=Nat×Mks) (fun s=>[(1,.ptr 0 0),(3,.map 1),(10,.d (dI t)),(4,.d (dI t)),(13,.d (dI s.1))]) (fun s=>[.box [.d (dTcs k.tiles),.d (dQs k.pads)],.map (mE s.2)])
    (fun s=>s.1<=8/\MarkOk k s.2/\(∀ u,mk s.2 u≠1)/\(∀ u,wOk u->u.1<t∨(u.1=t/\u.2<s.1)->mk s.2 u=2)) (fun s=>8-s.1) [] 1000 1000 ?_ ?_ ?_
   ·simp only[go_sem,seval]
   ·simp only[go_sem,seval];refine⟨(0,m),⟨by simp only;omega,hm,hno,fun u hu h2=>?_⟩,rfl,rfl⟩;have:=hu.2;simp only at h2;exact hfin u hu (by omega)
   ·rintro⟨r,m2⟩ ⟨hr,hm2,hno2,hfin2⟩;simp only at hr hm2 hno2 hfin2;by_cases hlr:r<8
    ·simp only[go_sem,seval]
     repeat' first|assumption|(simp (disch:=first|assumption|omega|(simp;done)|(simp;omega)) only[];try simp only[go_sem,seval])|(with_reducible first|apply And.intro|intro _)|exact lexT|((try rw[qaa]);omega)
     refine qan (c_cyclic k hk _ m2 (t,r) (ybp _) ⟨by simp only;omega,by simp only;omega⟩ hm2 (fun u hu=>absurd hu (hno2 u))) [0,1] (by simp only[go_sem,seval]) ?_;rintro r0 H1 ⟨b,m',hpost,rfl,rfl⟩;simp only[go_sem,seval]
     repeat' first|assumption|(simp (disch:=first|assumption|omega|(simp;done)|(simp;omega)) only[];try simp only[go_sem,seval])|(with_reducible first|apply And.intro|intro _)|exact lexT|((try rw[qaa]);omega)
     ·rename_i hb9;exact(decide_eq_false fun h2=>hpost.1 hb9 (h2.2 (t,r) ⟨by simp only;omega,by simp only;omega⟩)).symm
     ·rename_i hb9;obtain⟨p1,p2,p3,p4⟩:=hpost.2 (by simpa using hb9);refine⟨(r+1,m'),⟨by simp only;omega,p4,fun u hu=>hno2 u ((p2 u).1 hu),fun u hu h2=>?_⟩,by simp only;omega,rfl,rfl⟩;by_cases he:u=((t:Int),(r:Int))
      ·subst he;exact p1
      ·refine p3 u (hfin2 u hu ?_);simp only at h2;rcases h2 with h2|⟨h2,h3⟩
       ·exact .inl h2
       ·refine .inr ⟨h2,?_⟩;have:u.2≠(r:Int):=fun h=>he (Prod.ext h2 h)
        omega
    ·obtain rfl:r=8:=by omega
     simp only[go_sem,seval]
     repeat' first|assumption|(simp (disch:=first|assumption|omega|(simp;done)|(simp;omega)) only[];try simp only[go_sem,seval])|(with_reducible first|apply And.intro|intro _)|exact lexT|((try rw[qaa]);omega)
     refine⟨(t+1,m2),⟨by simp only;omega,hm2,hno2,fun u hu h2=>hfin2 u hu ?_⟩,by simp only;omega,rfl,rfl⟩;have:=hu.2;simp only at h2;omega
  ·obtain rfl:t=25:=by omega
   simp only[go_sem,seval]
   repeat' first|assumption|(simp (disch:=first|assumption|omega|(simp;done)|(simp;omega)) only[];try simp only[go_sem,seval])|(with_reducible first|apply And.intro|intro _)|exact lexT|((try rw[qaa]);omega)
   exact(decide_eq_true ⟨hk,fun w hw=>hm.fin w (hfin w hw (by have:=hw.1;omega))⟩).symm
end Go.Proofs

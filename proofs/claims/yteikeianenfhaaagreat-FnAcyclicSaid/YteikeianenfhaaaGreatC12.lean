/- Contracts, plain definitions and lemmas. Conditions: none; lemmas. -/
import Derived.Test.YteikeianenfhaaaGreatC85
import Derived.Test.YteikeianenfhaaaGreatC50
import Derived.Test.YteikeianenfhaaaGreatC11
set_option maxRecDepth 20000
set_option linter.unusedSimpArgs false
set_option linter.unusedVariables false
set_option maxHeartbeats 2000000
namespace Go.Proofs
set_option linter.defProp false
open Go Go.VL Tryz
variable {i:Nat}
abbrev Mrk:=List (List Int)
def gM (M:Mrk) (w:Wr):Int:=(M.getD w.1.toNat []).getD w.2.toNat 0
def sM (M:Mrk) (w:Wr) (v:Int):Mrk:=M.set w.1.toNat ((M.getD w.1.toNat []).set w.2.toNat v)
def Msz (M:Mrk):Prop:=M.length=25/\∀ t,t<25->(M.getD t []).length=8
def qgj {α : Type}{l:List α}{z : α}(h:i<l.length):l.set i (l.getD i z)=l:=by
 have e:l.getD i z=l[i]:=by simp[List.getD,h]
 rw[e,List.set_getElem_self]
def sM_sz {M:Mrk}(h:Msz M) (w:Wr) (v:Int):Msz (sM M w v):=by
 refine⟨by simp[sM,h.1],fun t ht=>?_⟩;unfold sM;by_cases e:w.1.toNat=t
 ·subst e;rw[qab (by rw[h.1];exact ht),yae];exact h.2 _ ht
 ·rw[qbs e];exact h.2 t ht
def qeO {M:Mrk}(h:Msz M) {w u:Wr}(hw:wOk w) (hu:wOk u) (v:Int):gM (sM M w v) u=if u=w then v else gM M u:=by
 obtain⟨⟨a1,a2⟩,a3,a4⟩:=hw;obtain⟨⟨b1,b2⟩,b3,b4⟩:=hu;have hl:=h.2 w.1.toNat (by omega);unfold gM sM;by_cases e:w.1.toNat=u.1.toNat
 ·rw[<-e,qab (by rw[h.1];omega)];by_cases e2:w.2.toNat=u.2.toNat
  ·rw[<-e2,qab (by omega),if_pos (Prod.ext (by omega) (by omega))]
  ·rw[qbs e2,if_neg (fun h=>e2 (by rw[h]))]
 ·rw[qbs e,if_neg (fun h=>e (by rw[h]))]
structure MarkM (k:Kcfg) (M:Mrk):Prop where
 rng : ∀ u,wOk u->gM M u=0∨gM M u=1∨gM M u=2
 fin : ∀ u,wOk u->gM M u=2->Acc (Rel k) u
def qiG (M:Mrk):Nat:=(List.range 200).countP fun i=>decide (i<200)&&decide (gM M (((i/8:Nat):Int),((i%8:Nat):Int))=0)
def qsV (h:i<200):wOk (((i/8:Nat):Int),((i%8:Nat):Int)):=⟨⟨by simp only;omega,by simp only;omega⟩,by simp only;omega,by simp only;omega⟩
def qrB {M M':Mrk}(h : ∀ u,wOk u->gM M' u=0->gM M u=0):qiG M'<=qiG M:=by
 unfold qiG;refine List.countP_mono_left fun i hm hi=>?_
 rw[yam,decide_eq_true_iff,decide_eq_true_iff] at hi ⊢;exact⟨hi.1,h _ (qsV hi.1) hi.2⟩
def qrC {M M':Mrk}(h : ∀ u,wOk u->gM M' u=0->gM M u=0) {w:Wr}(hw:wOk w) (h0:gM M w=0) (h1:gM M' w≠0):qiG M'<qiG M:=by
 unfold qiG;obtain⟨⟨a1,a2⟩,a3,a4⟩:=hw;have e1:(((w.1*8+w.2).toNat/8:Nat):Int)=w.1:=by omega
 have e2:(((w.1*8+w.2).toNat%8:Nat):Int)=w.2:=by omega
 have e3:(w.1*8+w.2).toNat<200:=by omega
 refine qiE (fun i hi=>?_) ⟨(w.1*8+w.2).toNat,List.mem_range.2 e3,?_,?_⟩
 ·rw[yam,decide_eq_true_iff,decide_eq_true_iff] at hi ⊢;exact⟨hi.1,h _ (qsV hi.1) hi.2⟩
 ·rw[e1,e2,yam];exact⟨decide_eq_true e3,decide_eq_true h0⟩
 ·rw[e1,e2,Bool.and_eq_false_iff];exact .inr (decide_eq_false h1)
def visP (k:Kcfg) (M:Mrk) (w:Wr) (b:Bool) (M':Mrk):Prop:=
 Msz M'/\(b=false->¬ Acc (Rel k) w)/\(b=true->gM M' w=2/\(∀ u,wOk u->(gM M' u=1↔gM M u=1))/\(∀ u,wOk u->gM M u=2->gM M' u=2)/\MarkM k M')
structure Mid (k:Kcfg) (M:Mrk) (w:Wr) (Mi:Mrk):Prop where
 ones : ∀ u,wOk u->(gM Mi u=1↔gM (sM M w 1) u=1)
 twos : ∀ u,wOk u->gM M u=2->gM Mi u=2
 ok:MarkM k Mi
 td:qiG Mi<=qiG (sM M w 1)
section mid
variable {k:Kcfg}{M Mi M':Mrk}{w x:Wr}
def mid_zero (hM:Msz M) (hm:MarkM k M) (hw:wOk w) (h0:gM M w=0):Mid k M w (sM M w 1)/\qiG (sM M w 1)<qiG M:=by
 refine⟨⟨fun u _=>Iff.rfl,fun u hu h=>?_,⟨fun u hu=>?_,fun u hu h=>?_⟩,yad _⟩,?_⟩
 ·rw[qeO hM hw hu,if_neg (fun e=>by rw[e] at h;omega)];exact h
 ·rw[qeO hM hw hu];split
  ·omega
  ·exact hm.rng u hu
 ·rw[qeO hM hw hu] at h;split at h
  ·omega
  ·exact hm.fin u hu h
 ·refine qrC (fun u hu h=>?_) hw h0 ?_
  ·rw[qeO hM hw hu] at h;split at h
   ·omega
   ·exact h
  ·rw[qeO hM hw hw,if_pos rfl];decide
def qnk (hM:Msz M) (hw:wOk w) (hp : ∀ u,wOk u->gM M u=1->Relation.TransGen (Rel k) w u) (h:Mid k M w Mi) (hx:x∈qa3 k w) : ∀ u,wOk u->gM Mi u=1->Relation.TransGen (Rel k) x u:=fun u hu h1=>by
 have h2:=(h.ones u hu).1 h1;rw[qeO hM hw hu] at h2;split at h2
 ·rename_i e;rw[e];exact .single hx
 ·exact Relation.TransGen.trans (.single hx) (hp u hu h2)
def mid_step (h:Mid k M w Mi) (hv:visP k Mi x true M'):Mid k M w M'/\gM M' x=2/\∀ u,wOk u->gM Mi u=2->gM M' u=2:=by
 obtain⟨p0,-,p⟩:=hv;obtain⟨p1,p2,p3,p4⟩:=p rfl;refine⟨⟨fun u hu=>(p2 u hu).trans (h.ones u hu),fun u hu h2=>p3 u hu (h.twos u hu h2),p4,yay (qrB fun u hu h3=>?_) h.td⟩,p1,p3⟩;have:=h.ok.rng u hu;by_cases e1:gM Mi u=1
 ·have:=(p2 u hu).2 e1;omega
 ·by_cases e2:gM Mi u=2
  ·have:=p3 u hu e2;omega
  ·omega
def mid_end (hM:Msz M) (hw:wOk w) (h0:gM M w=0) (hs:Msz Mi) (h:Mid k M w Mi) (hk:k.ok) (ha : ∀ x∈qa3 k w,gM Mi x=2):visP k M w true (sM Mi w 2):=by
 have hno:=qfr hk hw;have hacc:Acc (Rel k) w:=⟨_,fun x hx=>h.ok.fin x (hno x hx) (ha x hx)⟩;refine⟨sM_sz hs w 2,fun e=>(by cases e),fun _=>⟨by rw[qeO hs hw hw,if_pos rfl],fun u hu=>?_,fun u hu h2=>?_,⟨fun u hu=>?_,fun u hu h2=>?_⟩⟩⟩
 ·rw[qeO hs hw hu];by_cases e:u=w
  ·rw[if_pos e,e,h0];omega
  ·rw[if_neg e,h.ones u hu,qeO hM hw hu,if_neg e]
 ·rw[qeO hs hw hu];split
  ·rfl
  ·exact h.twos u hu h2
 ·rw[qeO hs hw hu];split
  ·omega
  ·exact h.ok.rng u hu
 ·rw[qeO hs hw hu] at h2;split at h2
  ·rename_i e;rw[e];exact hacc
  ·exact h.ok.fin u hu h2
end mid
def dnM (k:Kcfg) (w:Wr) (t:Tcfg) (i:Nat):List Wr:=if drv k w=1/\t.reg=false then selN w.1 t.select i else qa3 k w
def sM_putC {M:Mrk}{w:Wr}(v:Int):putC 1 (M.map fun x=>dIs x) w.1.toNat 0 (dIs ((M.getD w.1.toNat []).set w.2.toNat v))=(sM M w v).map fun x=>dIs x:=qdG (f:=fun x=>dIs x)
set_option maxHeartbeats 4000000 in
def Tryz.c_l10Mark (g:Nat) (k:Kcfg) (hk:k.ok) : ∀ (n:Nat) (M:Mrk) (w:Wr),qiG M<n->wOk w->Msz M->MarkM k M->(∀ u,wOk u->gM M u=1->Relation.TransGen (Rel k) w u)->
  ICall prog 183 [.d (dK k),.d (dI w.1),.d (dI w.2),.sl 0 g 1 0 25] [.row g 1 true (M.map fun x=>dIs x)] (fun r H'=>∃ (b:Bool) (M':Mrk),visP k M w b M'/\r=.d (dB b)/\H'=[.row g 1 true (M'.map fun x=>dIs x)]):=by
 intro n;induction n with
 | zero=>intro M w h;omega
 | succ n ih=>
  intro M w hn hw hM hm hp;have hsz:=hM.2 w.1.toNat (by have:=hw.1;omega);have hMl:=hM.1;have hgw:(M.getD w.1.toNat []).getD w.2.toNat 0=gM M w:=rfl;have gx:(M.map fun x=>dIs x).getD w.1.toNat .nil=dIs (M.getD w.1.toNat []):=qnf (rows:=M) (i:=w.1.toNat) (by have:=hw.1;omega);have hput:putC 1 (M.map fun x=>dIs x) w.1.toNat 0 (dIs (M.getD w.1.toNat []))=M.map fun x=>dIs x:=by
   rw[qdG (f:=fun x=>dIs x),qgj (l:=M) (by have:=hw.1;omega)]
  have hw2:=hw;obtain⟨⟨w1,w2⟩,w3,w4⟩:=hw;have hput2:putC 1 (M.map fun x=>dIs x) w.1.toNat 0 (dIs ((M.getD w.1.toNat []).set w.2.toNat 1))=(sM M w 1).map fun x=>dIs x:=qdG (f:=fun x=>dIs x)
  have gk : ∀ z,(k.tiles.map fun x=>dTc x).getD w.1.toNat z=dTc (k.tiles.getD w.1.toNat tc0):=fun z=>qag (by have:=hk.1;omega)
  have hkl:=hk.1;have hsk:=Kcfg.ok_sizes hk (i:=w.1.toNat) (by omega);have hdv:(k.tiles.getD w.1.toNat tc0).drive.getD w.2.toNat 0=drv k w:=rfl;have hdc:=qiF hk ⟨⟨w1,w2⟩,w3,w4⟩;have hin:=c_l1In (drv k w) 2 5;generalize hR9:M.getD w.1.toNat []=R0 at *
  generalize ht9:k.tiles.getD w.1.toNat tc0=t at *
  have htk:List.take R0.length (R0.set w.2.toNat 1)=R0.set w.2.toNat 1:=yaa (by rw[yae];omega);by_cases h0:gM M w=0
  ·refine qaL (E:=envd 1) tok rfl 1000 func183 rfl rfl ntmps183 (by simp) ?_;simp only[go_sem,seval,-List.reduceReplicate,gx,hgw,hput,h0,gk,hdv]
   repeat' first|assumption|(simp (disch:=first|assumption|omega|(simp;done)|(simp;omega)) only[];try simp only[go_sem,seval,-List.reduceReplicate,gx,hgw,hput,h0,gk,hdv])|(with_reducible first|apply And.intro|intro _)|(refine qe5 ?_;simp only[go_sem,seval,-List.reduceReplicate,gx,hgw,hput,h0,gk,hdv])|exact lexT|((try rw[qaa]);omega)
   refine qoc hin ?_;simp only[go_sem,seval,-List.reduceReplicate,gx,hgw,hput,h0,gk,hdv,hput2,htk]
   repeat' first|assumption|(simp (disch:=first|assumption|omega|(simp;done)|(simp;omega)) only[];try simp only[go_sem,seval,-List.reduceReplicate,gx,hgw,hput,h0,gk,hdv,hput2,htk])|(with_reducible first|apply And.intro|intro _)|(refine qe5 ?_;simp only[go_sem,seval,-List.reduceReplicate,gx,hgw,hput,h0,gk,hdv,hput2,htk])|exact lexT|((try rw[qaa]);omega)
   all_goals first
    | (
      have hd:2<=drv k w/\drv k w<=5:=by omega
      have hnb:=c_l9Neighbour w.1 (drv k w) ⟨w1,w2⟩;have hmem:(nb w.1 (drv k w),w.2)∈qa3 k w:=by
       unfold qa3;rw[if_pos hd];exact List.mem_singleton.2 rfl
      obtain⟨hm0,htd⟩:=mid_zero hM hm hw2 h0;have hih:=ih (sM M w 1) (nb w.1 (drv k w),w.2) (by omega) (qfr hk hw2 _ hmem) (sM_sz hM w 1) hm0.ok (qnk hM hw2 hp hm0 hmem);refine qhM (E:=envd 1) tok Tryz.follows 1000 1000 [6] (fsts [1,2,4,5,0] (.one 3 (.one 6 (.fst 7 .done)))) (by kernel_rfl) ?_;simp only[go_sem,seval,-List.reduceReplicate,gx,hgw,hput,h0,gk,hdv,hput2,htk]
      repeat' first|assumption|(simp (disch:=first|assumption|omega|(simp;done)|(simp;omega)) only[];try simp only[go_sem,seval,-List.reduceReplicate,gx,hgw,hput,h0,gk,hdv,hput2,htk])|(with_reducible first|apply And.intro|intro _)|(refine qad hnb ?_;simp only[go_sem,seval,-List.reduceReplicate,gx,hgw,hput,h0,gk,hdv,hput2,htk])|(refine qe5 ?_;simp only[go_sem,seval,-List.reduceReplicate,gx,hgw,hput,h0,gk,hdv,hput2,htk])|exact lexT|((try rw[qaa]);omega)
      refine qas hih [0] (by simp only[go_sem,seval,-List.reduceReplicate]) ?_;rintro r0 H1 ⟨b0,M2,hv2,rfl,rfl⟩;simp only[go_sem,seval,-List.reduceReplicate,hdv]
      repeat' first|assumption|(simp (disch:=first|assumption|omega|(simp;done)|(simp;omega)) only[];try simp only[go_sem,seval,-List.reduceReplicate,hdv])|(with_reducible first|apply And.intro|intro _)|(refine qe5 ?_;simp only[go_sem,seval,-List.reduceReplicate,hdv])|exact lexT|((try rw[qaa]);omega)
      have hstart : ∃ s:Nat×Bool×Mrk,((s.1<=3/\Msz s.2.2/\(s.2.1=true->Mid k M w s.2.2/\∀ x∈dnM k w t s.1,gM s.2.2 x=2)/\(s.2.1=false->¬ Acc (Rel k) w))/\s.1=0/\s.2.1=b0/\s.2.2=M2):=by
       refine⟨(0,b0,M2),⟨by simp only;omega,hv2.1,fun e=>?_,fun e ha=>?_⟩,rfl,rfl,rfl⟩
       ·simp only at e;subst e;obtain⟨q1,q2,-⟩:=mid_step hm0 hv2;refine⟨q1,fun x hx=>?_⟩;unfold dnM at hx;rw[if_neg (by omega)] at hx;unfold qa3 at hx;rw[if_pos hd] at hx;rw[List.mem_singleton.1 hx];exact q2
       ·simp only at e;subst e;exact hv2.2.1 rfl (ha.inv hmem)
      obtain⟨s0,hs0,e1,e2,e3⟩:=hstart;refine qah (E:=envd 1) tok (σ:=Nat×Bool×Mrk) (fun s=>[(0,.d (dK k)),(1,.d (dI w.1)),(2,.d (dI w.2)),(3,.sl 0 g 1 0 25),(4,.ptr 1 0),(9,.ptr 4 0),(10,.d (dI (drv k w))),(11,.d (dB s.2.1)),(12,.d (dI s.1))])
       (fun s=>[.row g 1 true (s.2.2.map fun x=>dIs x),.box [.d (dTcs k.tiles),.d (dQs k.pads)],.dead 1,.dead 1,.box [.d (dI t.table),.d (dIs t.select),.d (dB t.reg),.d (dIs t.drive)]])
       (fun s=>s.1<=3/\Msz s.2.2/\(s.2.1=true->Mid k M w s.2.2/\∀ x∈dnM k w t s.1,gM s.2.2 x=2)/\(s.2.1=false->¬ Acc (Rel k) w)) (fun s=>3-s.1) [] [] 1000 1000 ?_ ?_
      ·simp only[go_sem,seval,-List.reduceReplicate];refine⟨s0,hs0,?_⟩;rw[e1,e2,e3];exact⟨⟨rfl,rfl⟩,rfl⟩)
    | (
      have hnd : ¬ (2<=drv k w/\drv k w<=5):=by omega
      obtain⟨hm0,htd⟩:=mid_zero hM hm hw2 h0;refine qah (E:=envd 1) tok (σ:=Nat×Bool×Mrk) (fun s=>[(0,.d (dK k)),(1,.d (dI w.1)),(2,.d (dI w.2)),(3,.sl 0 g 1 0 25),(4,.ptr 1 0),(9,.ptr 4 0),(10,.d (dI (drv k w))),(11,.d (dB s.2.1)),(12,.d (dI s.1))])
       (fun s=>[.row g 1 true (s.2.2.map fun x=>dIs x),.box [.d (dTcs k.tiles),.d (dQs k.pads)],.dead 1,.dead 1,.box [.d (dI t.table),.d (dIs t.select),.d (dB t.reg),.d (dIs t.drive)]])
       (fun s=>s.1<=3/\Msz s.2.2/\(s.2.1=true->Mid k M w s.2.2/\∀ x∈dnM k w t s.1,gM s.2.2 x=2)/\(s.2.1=false->¬ Acc (Rel k) w)) (fun s=>3-s.1) [] [] 1000 1000 ?_ ?_
      ·simp only[go_sem,seval,-List.reduceReplicate];refine⟨(0,true,sM M w 1),⟨by simp only;omega,sM_sz hM w 1,fun _=>⟨hm0,fun x hx=>?_⟩,fun e=>by cases e⟩,⟨rfl,rfl⟩,rfl⟩;exfalso;unfold dnM at hx;split at hx
       ·simp[selN] at hx
       ·rename_i hq;unfold qa3 at hx;rw[if_neg hnd,ht9,if_neg hq] at hx;cases hx)
   all_goals (
    rintro⟨i,okb,Mi⟩ ⟨hi,hMi,hok,hno⟩;simp only at hi hMi hok hno;have hsl:=hsk.1;by_cases hc:(drv k w=1/\t.reg=false)/\i<3
    ·obtain⟨⟨hc1,hc2⟩,hc3⟩:=hc;have hds:dnM k w t (i+1)=dnM k w t i++if t.select.getD i 0=15 then [] else [(w.1,t.select.getD i 0)]:=by
      unfold dnM;rw[if_pos ⟨hc1,hc2⟩,if_pos ⟨hc1,hc2⟩];exact qlp w.1 (by omega)
     by_cases h15:t.select.getD i 0=15
     ·rw[if_pos h15,yaD] at hds;simp only[go_sem,seval,-List.reduceReplicate,hc1,hc2,h15]
      repeat' first|assumption|(simp (disch:=first|assumption|omega|(simp;done)|(simp;omega)) only[];try simp only[go_sem,seval,-List.reduceReplicate,hc1,hc2,h15])|(with_reducible first|apply And.intro|intro _)|(refine qe5 ?_;simp only[go_sem,seval,-List.reduceReplicate,hc1,hc2,h15])|exact lexT|((try rw[qaa]);omega)
      all_goals exact⟨(i+1,okb,Mi),⟨by simp only;omega,hMi,fun e=>by simp only;rw[hds];exact hok e,hno⟩,by simp only;omega,⟨rfl,rfl⟩,rfl⟩
     ·rw[if_neg h15] at hds;have hmem:(w.1,t.select.getD i 0)∈qa3 k w:=by
       unfold qa3;rw[if_neg (by omega),ht9,if_pos ⟨hc1,hc2⟩];exact List.mem_map.2 ⟨_,List.mem_filter.2 ⟨qae (by omega),by simpa using h15⟩,rfl⟩
      have hx:=qfr hk hw2 _ hmem;generalize hs9:t.select.getD i 0=s9 at *
      simp only[go_sem,seval,-List.reduceReplicate,hc1,hc2,hs9,h15]
      repeat' first|assumption|(simp (disch:=first|assumption|omega|(simp;done)|(simp;omega)) only[];try simp only[go_sem,seval,-List.reduceReplicate,hc1,hc2,hs9,h15])|(with_reducible first|apply And.intro|intro _)|(refine qe5 ?_;simp only[go_sem,seval,-List.reduceReplicate,hc1,hc2,hs9,h15])|exact lexT|((try rw[qaa]);omega)
      all_goals (
       refine qhM (E:=envd 1) tok Tryz.follows 1000 1000 [10] (fsts [0,1,3,4,6,9,2,5,7,8] (.one 10 (fsts [11,12] .done))) (by kernel_rfl) ?_;cases okb with
       | false=>
        simp only[go_sem,seval,-List.reduceReplicate,hc1,hc2,hs9,h15]
        repeat' first|assumption|(simp (disch:=first|assumption|omega|(simp;done)|(simp;omega)) only[];try simp only[go_sem,seval,-List.reduceReplicate,hc1,hc2,hs9,h15])|(with_reducible first|apply And.intro|intro _)|(refine qe5 ?_;simp only[go_sem,seval,-List.reduceReplicate,hc1,hc2,hs9,h15])|exact lexT|((try rw[qaa]);omega)
        all_goals exact⟨(i+1,false,Mi),⟨by simp only;omega,hMi,fun e=>absurd e (by simp),fun _=>hno rfl⟩,by simp only;omega,⟨rfl,rfl⟩,rfl⟩
       | true=>
        obtain⟨hmid,hdn⟩:=hok rfl;have hih:=ih Mi (w.1,s9) (by have:=hmid.td;omega) hx hMi hmid.ok (qnk hM hw2 hp hmid hmem);simp only[go_sem,seval,-List.reduceReplicate,hc1,hc2,hs9,h15]
        repeat' first|assumption|(simp (disch:=first|assumption|omega|(simp;done)|(simp;omega)) only[];try simp only[go_sem,seval,-List.reduceReplicate,hc1,hc2,hs9,h15])|(with_reducible first|apply And.intro|intro _)|(refine qe5 ?_;simp only[go_sem,seval,-List.reduceReplicate,hc1,hc2,hs9,h15])|exact lexT|((try rw[qaa]);omega)
        all_goals (
         refine qas hih [0] (by simp only[go_sem,seval,-List.reduceReplicate]) ?_;rintro r0 H1 ⟨b2,M3,hv3,rfl,rfl⟩;simp only[go_sem,seval,-List.reduceReplicate,hc1,hc2,hs9,h15]
         repeat' first|assumption|(simp (disch:=first|assumption|omega|(simp;done)|(simp;omega)) only[];try simp only[go_sem,seval,-List.reduceReplicate,hc1,hc2,hs9,h15])|(with_reducible first|apply And.intro|intro _)|(refine qe5 ?_;simp only[go_sem,seval,-List.reduceReplicate,hc1,hc2,hs9,h15])|exact lexT|((try rw[qaa]);omega)
         refine⟨(i+1,b2,M3),⟨by simp only;omega,hv3.1,fun e=>?_,fun e ha=>?_⟩,by simp only;omega,⟨rfl,rfl⟩,rfl⟩
         ·simp only at e;subst e;obtain⟨q1,q2,q3⟩:=mid_step hmid hv3;refine⟨q1,fun x hx2=>?_⟩;simp only at hx2;rw[hds] at hx2;rcases List.mem_append.1 hx2 with h|h
          ·have hxo:wOk x:=by
            have hxn:x∈qa3 k w:=by
             unfold dnM at h;rw[if_pos ⟨hc1,hc2⟩] at h;unfold selN at h;obtain⟨y,hy,rfl⟩:=List.mem_map.1 h;obtain⟨hy1,hy2⟩:=List.mem_filter.1 hy;unfold qa3;rw[if_neg (by omega),ht9,if_pos ⟨hc1,hc2⟩];exact List.mem_map.2 ⟨y,List.mem_filter.2 ⟨yar hy1,hy2⟩,rfl⟩
            exact qfr hk hw2 _ hxn
           exact q3 x hxo (hdn x h)
          ·rw[List.mem_singleton.1 h];exact q2
         ·simp only at e;subst e;exact hv3.2.1 rfl (ha.inv hmem)))
    ·have hall:(∀ x∈dnM k w t i,gM Mi x=2)->∀ x∈qa3 k w,gM Mi x=2:=fun h x hx=>by
      refine h x ?_;unfold dnM;split
      ·rename_i hq;have hi4 : ¬ i<3:=fun h=>hc ⟨hq,h⟩
       have hi3:i=3:=by omega
       unfold qa3 at hx;rw[if_neg (by omega),ht9,if_pos hq] at hx;unfold selN;rw[yaa (by omega)];exact hx
      ·exact hx
     have hcb:(decide (drv k w=1) && !t.reg&&decide ((i:Int)<3))=false:=by
      rw[Bool.eq_false_iff];intro h;simp only[yam,decide_eq_true_eq,Bool.not_eq_true'] at h;exact hc ⟨h.1,by omega⟩
     cases okb with
     | false=>
      have hna:=hno rfl;simp only[go_sem,seval,-List.reduceReplicate,hdv,hcb]
      repeat' first|assumption|(simp (disch:=first|assumption|omega|(simp;done)|(simp;omega)) only[];try simp only[go_sem,seval,-List.reduceReplicate,hdv,hcb])|(with_reducible first|apply And.intro|intro _)|(refine qe5 ?_;simp only[go_sem,seval,-List.reduceReplicate,hdv,hcb])|exact lexT|((try rw[qaa]);omega)
      all_goals first
       | (exfalso;simp_all;done)
       | (
         refine qaP (r0:=.d (dB false)) (H1:=[.row g 1 true (Mi.map fun x=>dIs x)]) ?_ ⟨false,Mi,⟨hMi,fun _=>hna,fun e=>by cases e⟩,rfl,rfl⟩;simp only[go_sem,seval,-List.reduceReplicate])
     | true=>
      obtain⟨hmid,hdn⟩:=hok rfl;have hMil:=hMi.1;have gi:(Mi.map fun x=>dIs x).getD w.1.toNat .nil=dIs (Mi.getD w.1.toNat []):=qnf (rows:=Mi) (i:=w.1.toNat) (by omega);have pi1:putC 1 (Mi.map fun x=>dIs x) w.1.toNat 0 (dIs (Mi.getD w.1.toNat []))=Mi.map fun x=>dIs x:=by
       rw[qdG (f:=fun x=>dIs x),qgj (l:=Mi) (by omega)]
      have pi2:=sM_putC (M:=Mi) (w:=w) 2;have hlr:=hMi.2 w.1.toNat (by omega);have hvp:=mid_end hM hw2 h0 hMi hmid hk (hall hdn);generalize Mi.getD w.1.toNat []=Ri at *
      have htk2:List.take Ri.length (Ri.set w.2.toNat 2)=Ri.set w.2.toNat 2:=yaa (by rw[yae];omega);simp only[go_sem,seval,-List.reduceReplicate,hdv,hcb,gi,pi1]
      repeat' first|assumption|(simp (disch:=first|assumption|omega|(simp;done)|(simp;omega)) only[];try simp only[go_sem,seval,-List.reduceReplicate,hdv,hcb,gi,pi1])|(with_reducible first|apply And.intro|intro _)|(refine qe5 ?_;simp only[go_sem,seval,-List.reduceReplicate,hdv,hcb,gi,pi1])|exact lexT|((try rw[qaa]);omega)
      all_goals first
       | (exfalso;simp_all;done)
       | (
         refine qfK ?_;simp only[go_sem,seval,-List.reduceReplicate,htk2,pi2];refine⟨by omega,qaP (r0:=.d (dB true)) (H1:=[.row g 1 true ((sM Mi w 2).map fun x=>dIs x)]) ?_ ⟨true,_,hvp,rfl,rfl⟩⟩;simp only[go_sem,seval,-List.reduceReplicate]))
  ·refine qaL (E:=envd 1) tok rfl 1000 func183 rfl rfl ntmps183 (by simp) ?_;simp only[go_sem,seval,-List.reduceReplicate,gx,hgw,hput,h0]
   repeat' first|assumption|(simp (disch:=first|assumption|omega|(simp;done)|(simp;omega)) only[];try simp only[go_sem,seval,-List.reduceReplicate,gx,hgw,hput,h0])|(with_reducible first|apply And.intro|intro _)|(refine qe5 ?_;simp only[go_sem,seval,-List.reduceReplicate,gx,hgw,hput,h0])|exact lexT|((try rw[qaa]);omega)
   have hvp:visP k M w (decide (gM M w=2)) M:=by
    refine⟨hM,fun e=>?_,fun e=>?_⟩
    ·have h1:gM M w=1:=by
      have:=hm.rng w ⟨⟨w1,w2⟩,w3,w4⟩;rw[decide_eq_false_iff_not] at e;omega
     exact qnj (hp w ⟨⟨w1,w2⟩,w3,w4⟩ h1)
    ·exact⟨of_decide_eq_true e,fun u _=>Iff.rfl,fun u _ h=>h,hm⟩
   refine qfK ?_;simp only[go_sem,seval,-List.reduceReplicate,hput];refine⟨by omega,qaP (r0:=.d (dB (decide (gM M w=2)))) (H1:=[.row g 1 true (M.map fun x=>dIs x)]) ?_ ⟨_,_,hvp,rfl,rfl⟩⟩;simp only[go_sem,seval,-List.reduceReplicate]

def tern (x:Int):Prop:=0<=x/\x<=2
instance (x:Int):Decidable (tern x):=by unfold tern;infer_instance
def ternL (l:List Int):Prop:=∀ x∈l,tern x
noncomputable instance (l:List Int):Decidable (ternL l):=Classical.propDecidable _
def ternL.get {l:List Int}(h:ternL l) (i:Nat):tern (l.getD i 0):=by
 by_cases hi:i<l.length
 ·exact h _ (qae hi)
 ·rw[List.getD_eq_getElem?_getD,List.getElem?_eq_none (by omega)];exact⟨by simp,by simp⟩
def evOk (c:Circ) (st ins:List Int):Prop:=c.Valid/\st.length=c.next.length/\(ins.length:Int)=c.inputs/\ternL st/\ternL ins
noncomputable instance (c:Circ) (st ins:List Int):Decidable (evOk c st ins):=Classical.propDecidable _
end Go.Proofs

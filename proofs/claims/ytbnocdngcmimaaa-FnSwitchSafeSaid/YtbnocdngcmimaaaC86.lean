/- Contracts: the laws of broken wires and of switching. Conditions: none; lemmas. -/
import Derived.Test.YtbnocdngcmimaaaC81
import Derived.Test.YtbnocdngcmimaaaC82
import Derived.Test.YtbnocdngcmimaaaC84
import Derived.Test.YtbnocdngcmimaaaC85
set_option maxRecDepth 20000
set_option linter.unusedVariables false
set_option linter.unusedSimpArgs false
namespace Go.Proofs
open Go Go.VL
theorem qfX {k k':Kcfg}{w:Wr}(h:k'.tiles.getD w.1.toNat tc0=k.tiles.getD w.1.toNat tc0∨drv k' w=0) : ∀ x∈qbB k' w,x∈qbB k w:=by
 intro x hx
 rcases h with h|h
 ·have hd:drv k' w=drv k w:=by unfold drv;rw[h]
  unfold qbB at *
  rwa [hd,h] at hx
 ·unfold qbB at hx
  rw[h] at hx
  simp at hx
theorem qjj : ∀ (ds:List (Int×Int)) (i t:Int),brk ds i t 0=0
 | [],_,_=>rfl
 | d::r,i,t=>by
  show brk r i t (if d.1=i∧d.2=t then 0 else 0)=0
  rw[ite_self,qjj r]
theorem qlT : ∀ (ds:List (Int×Int)) (i t w:Int),brk ds i t w=0∨brk ds i t w=w
 | [],_,_,w=>.inr rfl
 | d::r,i,t,w=>by
  show brk r i t (if d.1=i∧d.2=t then 0 else w)=0∨_=w
  by_cases h:d.1=i∧d.2=t
  ·rw[if_pos h,qjj];exact .inl rfl
  ·rw[if_neg h]
   have:=qlT r i t w
   rcases this with h2|h2
   ·exact .inl h2
   ·right
    show brk r i t (if d.1=i∧d.2=t then 0 else w)=w
    rw[if_neg h,h2]
theorem qpO : ∀ (ds:List (Int×Int)) (i t w:Int),brk ds i t (brk ds i t w)=brk ds i t w:=by
 intro ds i t w
 rcases qlT ds i t w with h|h
 ·rw[h,qjj]
 ·rw[h,h]
theorem qlU {α : Type}{l:List α}{i:Nat}{z : α}(h:l.length≤i):l.getD i z=z:=by simp[List.getD,h]
theorem qn8 {k:Kcfg}{w:Wr}(h : ¬ (w.1.toNat<k.tiles.length∧w.2.toNat<(k.tiles.getD w.1.toNat tc0).drive.length)):drv k w=0:=by
 unfold drv
 by_cases h1:w.1.toNat<k.tiles.length
 ·exact qlU (by omega)
 ·rw[qlU (l:=k.tiles) (by omega)];rfl
theorem qiF {k:Kcfg}{ds:List (Int×Int)}(hd : ∀ d∈ds,0≤d.1∧0≤d.2) {i t:Nat}(hi:i<k.tiles.length) (ht:t<(k.tiles.getD i tc0).drive.length) :
  ((qcr k ds).tiles.getD i tc0).drive.getD t 0=brk ds i t ((k.tiles.getD i tc0).drive.getD t 0):=qcs ds k.tiles hd hi ht
theorem qpP {k:Kcfg}{ds:List (Int×Int)}(hd : ∀ d∈ds,0≤d.1∧0≤d.2) (h:Wf k):Wf (qcr k ds):=by
 refine Wf.sub h fun w x hx=>?_
 obtain⟨e1,e2,e3,e4⟩:=qcq ds k.tiles w.1.toNat
 have hlen:=qb9 ds k.tiles
 have hor:drv (qcr k ds) w=0∨drv (qcr k ds) w=drv k w:=by
  by_cases hb:w.1.toNat<k.tiles.length∧w.2.toNat<(k.tiles.getD w.1.toNat tc0).drive.length
  ·show((qcr k ds).tiles.getD w.1.toNat tc0).drive.getD w.2.toNat 0=0∨((qcr k ds).tiles.getD w.1.toNat tc0).drive.getD w.2.toNat 0=drv k w
   rw[qiF hd hb.1 hb.2]
   exact qlT ..
  ·left
   refine qn8 ?_
   show ¬ (w.1.toNat<(qaV k.tiles ds).length∧w.2.toNat<((qaV k.tiles ds).getD w.1.toNat tc0).drive.length)
   rw[hlen,e2]
   exact hb
 rcases hor with h0|h0
 ·exact qfX (.inr h0) x hx
 ·unfold qbB at *
  rw[h0] at hx
  have e1':((qcr k ds).tiles.getD w.1.toNat tc0).select=(k.tiles.getD w.1.toNat tc0).select:=e1
  have e4':((qcr k ds).tiles.getD w.1.toNat tc0).reg=(k.tiles.getD w.1.toNat tc0).reg:=e4
  rwa [e1',e4'] at hx
theorem qmy {k:Kcfg}{ds:List (Int×Int)}(hd : ∀ d∈ds,0≤d.1∧0≤d.2):qcr (qcr k ds) ds=qcr k ds:=by
 have hT:qaV (qaV k.tiles ds) ds=qaV k.tiles ds:=by
  have hl:=qb9 ds (qaV k.tiles ds)
  refine qfW hl fun j hj=>?_
  rw[hl] at hj
  obtain⟨e1,e2,e3,e4⟩:=qcq ds (qaV k.tiles ds) j
  have hdr:((qaV (qaV k.tiles ds) ds).getD j tc0).drive=((qaV k.tiles ds).getD j tc0).drive:=by
   refine qd2 0 e2 fun t ht=>?_
   rw[e2] at ht
   obtain⟨_,f2,_,_⟩:=qcq ds k.tiles j
   rw[qcs ds _ hd hj ht,qcs ds k.tiles hd (by rw[qb9] at hj;exact hj) (by rw[f2] at ht;exact ht),qpO]
  generalize (qaV (qaV k.tiles ds) ds).getD j tc0=a at *
  generalize (qaV k.tiles ds).getD j tc0=b at *
  cases a;cases b
  simp_all
 unfold qcr
 simp only[hT]
theorem qpQ {k:Kcfg}(hk:k.ok) {ds:List (Int×Int)}(hd : ∀ d∈ds,0≤d.1∧0≤d.2):(qcr k ds).ok:=by
 have hl:(qaV k.tiles ds).length=25:=by rw[qb9];exact hk.1
 refine⟨hl,hk.2.1,fun j hj=>?_⟩
 have hj2:j<k.tiles.length:=by have h0:j<(qaV k.tiles ds).length:=hj;rw[qb9] at h0;exact h0
 obtain⟨e1,e2,e3,e4⟩:=qcq ds k.tiles j
 have h0:=Tcfg.ok_iff.1 (hk.2.2 j hj2)
 show Tcfg.ok (j:Int) ((qaV k.tiles ds).getD j tc0)=true
 rw[Tcfg.ok_iff,e1,e2,e3]
 refine⟨h0.1,h0.2.1,h0.2.2.1,h0.2.2.2.1,fun t ht=>?_⟩
 rw[qcs ds k.tiles hd hj2 ht]
 rcases qlT ds j t ((k.tiles.getD j tc0).drive.getD t 0) with h|h
 ·rw[h];simp[qaU]
 ·rw[h];exact h0.2.2.2.2 t ht
theorem qmz {k:Kcfg}{w:Wr}(h:k.tiles.getD w.1.toNat tc0=emptyT):drv k w=0:=by
 unfold drv
 rw[h]
 match w.2.toNat with
 | 0|1|2|3|4|5|6|7=>rfl
 | n+8=>rfl
theorem qeY : ∀ (fs:List (Int×Tcfg)) (i:Int) (w:Tcfg),qcU fs i w=w∨∃ p∈fs,p.1=i∧qcU fs i w=p.2
 | [],_,w=>.inl rfl
 | p::r,i,w=>by
  by_cases h:p.1=i
  ·have e:qcU (p::r) i w=qcU r i p.2:=by show qcU r i (if p.1=i then p.2 else w)=_;rw[if_pos h]
   rw[e]
   rcases qeY r i p.2 with h2|⟨q,hq,h3,h4⟩
   ·exact .inr ⟨p,List.mem_cons_self ..,h,h2⟩
   ·exact .inr ⟨q,List.mem_cons_of_mem _ hq,h3,h4⟩
  ·have e:qcU (p::r) i w=qcU r i w:=by show qcU r i (if p.1=i then p.2 else w)=_;rw[if_neg h]
   rw[e]
   rcases qeY r i w with h2|⟨q,hq,h3,h4⟩
   ·exact .inl h2
   ·exact .inr ⟨q,List.mem_cons_of_mem _ hq,h3,h4⟩
theorem qk5 {a b:Kcfg}(h:a.ok∧b.ok) : ∀ c∈steps a (qaP a b 25),(∀ t,t<25→c.tiles.getD t tc0=a.tiles.getD t tc0∨c.tiles.getD t tc0=emptyT)∨(∀ t,t<25→c.tiles.getD t tc0=b.tiles.getD t tc0∨c.tiles.getD t tc0=emptyT):=by
 intro c hc
 have hnn : ∀ p∈qaP a b 25,0≤p.1:=qeI
 have her : ∀ p∈er (qaP a b 25),p.2=emptyT:=by
  intro p hp
  obtain⟨q,_,rfl⟩:=List.mem_map.1 hp
  rfl
 rcases List.mem_append.1 hc with hc|hc
 ·left
  obtain⟨j,_,rfl⟩:=List.mem_map.1 hc
  intro t ht
  show(qax a.tiles _).getD t tc0=_∨(qax a.tiles _).getD t tc0=_
  rw[qbA _ _ (qbO (qeJ hnn)) (by have:=h.1.1;omega)]
  rcases qeY ((er (qaP a b 25)).take (j+1)) t (a.tiles.getD t tc0) with h2|⟨p,hp,_,h2⟩
  ·exact .inl h2
  ·exact .inr (h2.trans (qbO her p hp))
 ·right
  obtain⟨j,_,rfl⟩:=List.mem_map.1 hc
  intro t ht
  show(qax (qax a.tiles _) _).getD t tc0=_∨(qax (qax a.tiles _) _).getD t tc0=_
  rw[qbA _ _ (qbO hnn) (by rw[qaI];have:=h.1.1;omega)]
  have hmem : ∀ p∈qaP a b 25,p.1=(t:Int)→p.2=b.tiles.getD t tc0:=by
   intro p hp he
   obtain⟨i,_,rfl⟩:=qhW hp
   simp only at he
   rw[show i=t by omega]
  rcases qeY ((qaP a b 25).take (j+1)) t ((qax a.tiles (er (qaP a b 25))).getD t tc0) with h2|⟨p,hp,h3,h2⟩
  ·rw[h2,qbA _ _ (qeJ hnn) (by have:=h.1.1;omega)]
   by_cases he:a.tiles.getD t tc0=b.tiles.getD t tc0
   ·rcases qeY (er (qaP a b 25)) t (a.tiles.getD t tc0) with h4|⟨p,hp,_,h4⟩
    ·rw[h4];exact .inl he
    ·exact .inr (h4.trans (her p hp))
   ·right
    have hm:((t:Int),b.tiles.getD t tc0)∈qaP a b 25:=by
     obtain⟨_,h5,h6⟩:=qjh (a:=a) (b:=b) ht he
     rw[←h6]
     exact qao h5
    have hm2:((t:Int),emptyT)∈er (qaP a b 25):=List.mem_map.2 ⟨_,hm,rfl⟩
    rw[qh4 (w':=emptyT) _ ⟨_,hm2,rfl⟩]
    rcases qeY (er (qaP a b 25)) t emptyT with h4|⟨p,hp,_,h4⟩
    ·exact h4
    ·exact h4.trans (her p hp)
  ·rw[h2]
   exact .inl (hmem p (List.mem_of_mem_take hp) h3)
theorem qlV {a c:Kcfg}(ha:a.ok) (hc:c.ok) (hw:Wf a) (h : ∀ t,t<25→c.tiles.getD t tc0=a.tiles.getD t tc0∨c.tiles.getD t tc0=emptyT):Wf c:=by
 refine Wf.sub hw fun w x hx=>?_
 by_cases ht:w.1.toNat<25
 ·rcases h _ ht with h2|h2
  ·exact qfX (.inl h2) x hx
  ·exact qfX (.inr (qmz h2)) x hx
 ·exact qfX (.inr (qn8 (by rw[hc.1];omega))) x hx
theorem qmA {a b:Kcfg}(ha:Wf a) (hb:Wf b) : ∀ c∈qbg a b,Wf c:=by
 by_cases h:a.ok∧b.ok
 ·have hok:=qgi a b
  have hP : ∀ c∈qbg a b,(∀ t,t<25→c.tiles.getD t tc0=a.tiles.getD t tc0∨c.tiles.getD t tc0=emptyT)∨(∀ t,t<25→c.tiles.getD t tc0=b.tiles.getD t tc0∨c.tiles.getD t tc0=emptyT):=by
   unfold qbg
   rw[if_pos h]
   refine qgI (P:=fun T=>(∀ t,t<25→T.getD t tc0=a.tiles.getD t tc0∨T.getD t tc0=emptyT)∨(∀ t,t<25→T.getD t tc0=b.tiles.getD t tc0∨T.getD t tc0=emptyT)) ?_
   split
   ·intro c hc
    obtain rfl:c=a:=by simpa using hc
    exact .inl fun t _=>.inl rfl
   ·exact qk5 h
  intro c hc
  rcases hP c hc with h2|h2
  ·exact qlV h.1 (hok c hc) ha h2
  ·exact qlV h.2 (hok c hc) hb h2
 ·intro c hc
  rw[qgJ h] at hc
  simp at hc
theorem Try.c_FnSwitchSafe (code:List Int):Pure Try.prog 14 [dUs code] (.bool true):=by
 refine qap (E:=Try.env 0) Try.tok rfl 1000 Try.func14 rfl rfl Try.ntmps14 (by simp) fun ok=>?_
 simp only[go_sem,seval] at ok
 simp only[go_sem,seval,Try.results14]
 refine fun h0=>qcx (Try.c_DrawSwitchConfig code) ?_
 rintro x ⟨a,b,rfl,ha,hb⟩
 have hi:=Try.c_SwitchConfig a b
 have hs:=Try.c_sSwitchConfig a b
 have hca:=Try.c_ConfigAcyclic a
 have hcb:=Try.c_ConfigAcyclic b
 have hal:=Try.c_alive
 have hLn:=qh2 a b
 generalize hL:qbg a b=L at *
 simp only[go_sem,seval,Try.results14]
 repeat' first|assumption|(simp (disch:=first|assumption|omega|(simp;done)|(simp;omega)) only[qab,qad,List.take_of_length_le,qac,qaf,qag,qah,qai,qak,qaa];try simp only[go_sem,seval,Try.results14])|(with_reducible refine And.intro ?_ ?_)|(with_reducible intro _)|(refine qaj hi ?_;simp only[go_sem,seval,Try.results14])|(refine qci hs ?_;simp only[go_sem,seval,Try.results14])|(refine qaj hca ?_;simp only[go_sem,seval,Try.results14])|(refine qaC (fun _=>hcb) ?_;simp only[go_sem,seval,Try.results14])|(refine qaj hal ?_;simp only[go_sem,seval,Try.results14])|(refine @Exists.intro I _ (I.d D.nil) ?_;simp only[go_sem,seval,Try.results14])|((with_reducible (show Region.lexB _ _=true));kernel_rfl)|((try rw[qae]);omega)
 rename_i h9
 have hA:a.ok∧Wf a:=by simp_all
 have hB:b.ok∧Wf b:=by simp_all
 have hlen:=qeK ⟨hA.1,hB.1⟩
 have hok:=qgi a b
 have hwf:=qmA hA.2 hB.2
 rw[hL] at hlen hok hwf
 refine qaB (E:=Try.env 0) Try.tok (σ:=Nat) (fun i=>[(5,.d (dKs L)),(6,.d (dI i))]) (fun _=>[])
  (fun i=>i≤L.length) (fun i=>L.length-i) [] 1000 1000 ?_ ?_ ?_
 ·simp only[go_sem,seval]
 ·simp only[go_sem,seval]
  exact⟨0,by omega,rfl⟩
 ·intro i hi
  by_cases hlt:i<L.length
  ·have gx:=qkh (z:=D.agg [.nil,.nil]) hlt
   have hcv:=Try.c_ConfigAcyclic (L.getD i k0)
   rw[decide_eq_true ⟨hok _ (qao hlt),hwf _ (qao hlt)⟩] at hcv
   generalize L.getD i k0=c at *
   simp only[go_sem,seval,Try.results14,gx]
   repeat' first|assumption|(simp (disch:=first|assumption|omega|(simp;done)|(simp;omega)) only[qab,qad,List.take_of_length_le,qac,qaf,qag,qah,qai,qak,qaa];try simp only[go_sem,seval,Try.results14,gx])|(with_reducible refine And.intro ?_ ?_)|(with_reducible intro _)|(refine qaj hcv ?_;simp only[go_sem,seval,Try.results14,gx])|(refine @Exists.intro I _ (I.d D.nil) ?_;simp only[go_sem,seval,Try.results14,gx])|((with_reducible (show Region.lexB _ _=true));kernel_rfl)|((try rw[qae]);omega)
   all_goals first|exact⟨i+1,by omega,by omega,rfl⟩|(rw[qae];omega)
  ·obtain rfl:i=L.length:=by omega
   simp only[go_sem,seval,Try.results14]
   repeat' first|assumption|(simp (disch:=first|assumption|omega|(simp;done)|(simp;omega)) only[qab,qad,List.take_of_length_le,qac,qaf,qag,qah,qai,qak,qaa];try simp only[go_sem,seval,Try.results14])|(with_reducible refine And.intro ?_ ?_)|(with_reducible intro _)|(refine @Exists.intro I _ (I.d D.nil) ?_;simp only[go_sem,seval,Try.results14])|((with_reducible (show Region.lexB _ _=true));kernel_rfl)|((try rw[qae]);omega)
theorem Try.c_FnBreak (code:List Int):Pure Try.prog 12 [dUs code] (.bool true):=by
 refine qap (E:=Try.env 0) Try.tok rfl 1000 Try.func12 rfl rfl Try.ntmps12 (by simp) fun ok=>?_
 simp only[go_sem,seval] at ok
 simp only[go_sem,seval,Try.results12]
 refine fun h0=>qcx (Try.c_DrawBreak code) ?_
 rintro x ⟨k,ds,rfl,hk,hds⟩
 have hd:=Try.c_Break k ds
 have hs:=Try.c_sBreak k ds
 have hca:=Try.c_sConfigValid k
 have hcd:=Try.c_sDefectsValid ds
 have hal:=Try.c_alive
 generalize hx9:(if k.ok∧Try.defectsValid ds=true then qcr k ds else⟨[],[]⟩)=x at *
 have hsc:=Try.c_sameConfig x x
 simp only[go_sem,seval,Try.results12]
 repeat' first|assumption|(simp (disch:=first|assumption|omega|(simp;done)|(simp;omega)) only[qab,qad,List.take_of_length_le,qac,qaf,qag,qah,qai,qak,qaa];try simp only[go_sem,seval,Try.results12])|(with_reducible refine And.intro ?_ ?_)|(with_reducible intro _)|(refine qaj hd ?_;simp only[go_sem,seval,Try.results12])|(refine @Exists.intro I _ (I.d D.nil) ?_;simp only[go_sem,seval,Try.results12])|((with_reducible (show Region.lexB _ _=true));kernel_rfl)|((try rw[qae]);omega)
 refine qaz (E:=Try.env 0) Try.tok Try.follows 1000 1000 [] (.fst 2 (.fst 0 (.fst 1 (.one 3 (.one 4 (.fst 5 (.done))))))) (by kernel_rfl) ?_
 simp only[go_sem,seval,Try.results12]
 repeat' first|assumption|(simp (disch:=first|assumption|omega|(simp;done)|(simp;omega)) only[qab,qad,List.take_of_length_le,qac,qaf,qag,qah,qai,qak,qaa];try simp only[go_sem,seval,Try.results12])|(with_reducible refine And.intro ?_ ?_)|(with_reducible intro _)|(refine qaj hd ?_;simp only[go_sem,seval,Try.results12])|(refine qaj hs ?_;simp only[go_sem,seval,Try.results12])|(refine qaj hsc ?_;simp only[go_sem,seval,Try.results12])|(refine qaj hca ?_;simp only[go_sem,seval,Try.results12])|(refine qaC (fun _=>hcd) ?_;simp only[go_sem,seval,Try.results12])|(refine qaC (fun _=>hal) ?_;simp only[go_sem,seval,Try.results12])|(refine @Exists.intro I _ (I.d D.nil) ?_;simp only[go_sem,seval,Try.results12])|((with_reducible (show Region.lexB _ _=true));kernel_rfl)|((try rw[qae]);omega)
 ·rename_i h9
  rw[←hx9,if_neg (by rintro⟨h1,h2⟩;simp[h1,h2] at h9)]
  rfl
 rename_i h9
 have hK:k.ok:=by simp_all
 have hD:Try.defectsValid ds=true:=by simp_all
 have hla:k.tiles.length=25:=hK.1
 have hdo : ∀ j,j<ds.length→Try.defectOk (ds.getD j (0,0))=true:=by
  have h10:=hD
  simp only[Try.defectsValid,Bool.and_eq_true] at h10
  exact(qcy _ _ (0,0)).1 h10.2
 have hnn : ∀ d∈ds,0≤d.1∧0≤d.2:=(qfK (0,0)).2 fun j hj=>by
  have:=Try.defectOk_iff.1 (hdo j hj)
  omega
 have hxe:x=qcr k ds:=by rw[←hx9,if_pos ⟨hK,hD⟩]
 have hxo:x.ok:=by rw[hxe];exact qpQ hK hnn
 have hxl:x.tiles.length=25:=hxo.1
 have hdx:=Try.c_Break x ds
 rw[if_pos ⟨hxo,hD⟩,show qcr x ds=x by rw[hxe];exact qmy hnn] at hdx
 have hwx:Wf k→Wf x:=fun h=>by rw[hxe];exact qpP hnn h
 have hak:=Try.c_ConfigAcyclic k
 have hax:=Try.c_ConfigAcyclic x
 have hbr : ∀ i t:Nat,i<25→t<8→(x.tiles.getD i tc0).drive.getD t 0=brk ds i t ((k.tiles.getD i tc0).drive.getD t 0):=fun i t hi ht=>by
  rw[hxe]
  exact qiF hnn (by omega) (by rw[(Kcfg.ok_sizes hK hi).2];exact ht)
 refine qaB (E:=Try.env 0) Try.tok (σ:=Nat) (fun i=>[(3,.ptr 0 0),(4,.d (dPs ds)),(5,.ptr 1 0),(6,.d (dI i))]) (fun _=>[.box [.d (dTcs k.tiles),.d (dQs k.pads)],.box [.d (dTcs x.tiles),.d (dQs x.pads)]])
  (fun i=>i≤25) (fun i=>25-i) [] 1000 1000 ?_ ?_ ?_
 ·simp only[go_sem,seval]
 ·simp only[go_sem,seval]
  exact⟨0,by omega,rfl⟩
 ·intro i hi
  by_cases hlt:i<25
  ·simp only[go_sem,seval,Try.results12,hla]
   repeat' first|assumption|(simp (disch:=first|assumption|omega|(simp;done)|(simp;omega)) only[qab,qad,List.take_of_length_le,qac,qaf,qag,qah,qai,qak,qaa];try simp only[go_sem,seval,Try.results12,hla])|(with_reducible refine And.intro ?_ ?_)|(with_reducible intro _)|(refine @Exists.intro I _ (I.d D.nil) ?_;simp only[go_sem,seval,Try.results12,hla])|((with_reducible (show Region.lexB _ _=true));kernel_rfl)|((try rw[qae]);omega)
   obtain⟨s1,s2⟩:=Kcfg.ok_sizes hK hlt
   obtain⟨s3,s4⟩:=Kcfg.ok_sizes hxo hlt
   have gx:=qah (z:=D.agg [D.int .i64 0,.nil,.bool false,.nil]) (show i<k.tiles.length by omega)
   have gy:=qah (z:=D.agg [D.int .i64 0,.nil,.bool false,.nil]) (show i<x.tiles.length by omega)
   have hbi:=fun t ht=>hbr i t hlt ht
   generalize k.tiles.getD i tc0=u at *
   generalize x.tiles.getD i tc0=v at *
   refine qaB (E:=Try.env 0) Try.tok (σ:=Nat) (fun t=>[(3,.ptr 0 0),(4,.d (dPs ds)),(5,.ptr 1 0),(6,.d (dI i)),(7,.d (dI t))]) (fun _=>[.box [.d (dTcs k.tiles),.d (dQs k.pads)],.box [.d (dTcs x.tiles),.d (dQs x.pads)]])
    (fun t=>t≤8) (fun t=>8-t) [] 1000 1000 ?_ ?_ ?_
   ·simp only[go_sem,seval]
   ·simp only[go_sem,seval]
    exact⟨0,by omega,rfl⟩
   ·intro t ht
    by_cases hlt2:t<8
    ·have hbt:=hbi t hlt2
     generalize hu9:u.drive.getD t 0=u9 at *
     generalize hv9:v.drive.getD t 0=v9 at *
     simp only[go_sem,seval,Try.results12,gx,gy,s2,s4,hu9,hv9,hla,hxl]
     repeat' first|assumption|(simp (disch:=first|assumption|omega|(simp;done)|(simp;omega)) only[qab,qad,List.take_of_length_le,qac,qaf,qag,qah,qai,qak,qaa];try simp only[go_sem,seval,Try.results12,gx,gy,s2,s4,hu9,hv9,hla,hxl])|(with_reducible refine And.intro ?_ ?_)|(with_reducible intro _)|(refine @Exists.intro I _ (I.d D.nil) ?_;simp only[go_sem,seval,Try.results12,gx,gy,s2,s4,hu9,hv9,hla,hxl])|((with_reducible (show Region.lexB _ _=true));kernel_rfl)|((try rw[qae]);omega)
     refine qaB (E:=Try.env 0) Try.tok (σ:=Nat) (fun j=>[(3,.ptr 0 0),(4,.d (dPs ds)),(5,.ptr 1 0),(6,.d (dI i)),(7,.d (dI t)),(8,.d (dI (brk (ds.take j) i t u9))),(9,.d (dI j))]) (fun _=>[.box [.d (dTcs k.tiles),.d (dQs k.pads)],.box [.d (dTcs x.tiles),.d (dQs x.pads)]])
      (fun j=>j≤ds.length) (fun j=>ds.length-j) [] 1000 1000 ?_ ?_ ?_
     ·simp only[go_sem,seval]
     ·simp only[go_sem,seval]
      exact⟨0,by omega,rfl,rfl⟩
     ·intro j hj
      by_cases hlj:j<ds.length
      ·have hw:=qpK ds i t u9 hlj
       generalize hd9:ds.getD j (0,0)=d at *
       simp only[go_sem,seval,Try.results12,hd9]
       repeat' first|assumption|(simp (disch:=first|assumption|omega|(simp;done)|(simp;omega)) only[qab,qad,List.take_of_length_le,qac,qaf,qag,qah,qai,qak,qaa];try simp only[go_sem,seval,Try.results12,hd9])|(with_reducible refine And.intro ?_ ?_)|(with_reducible intro _)|(refine @Exists.intro I _ (I.d D.nil) ?_;simp only[go_sem,seval,Try.results12,hd9])|((with_reducible (show Region.lexB _ _=true));kernel_rfl)|((try rw[qae]);omega)
       ·rename_i h9
        exact⟨j+1,by omega,by omega,by rw[hw,if_pos h9],rfl⟩
       ·rename_i h9
        refine⟨j+1,by omega,by omega,?_,rfl⟩
        rw[hw,if_neg]
        rintro⟨h1,h2⟩
        simp_all
      ·obtain rfl:j=ds.length:=by omega
       rw[List.take_length] at *
       rw[←hbt] at *
       simp only[go_sem,seval,Try.results12,gx,gy,s2,s4,hu9,hv9,hla,hxl]
       repeat' first|assumption|(simp (disch:=first|assumption|omega|(simp;done)|(simp;omega)) only[qab,qad,List.take_of_length_le,qac,qaf,qag,qah,qai,qak,qaa];try simp only[go_sem,seval,Try.results12,gx,gy,s2,s4,hu9,hv9,hla,hxl])|(with_reducible refine And.intro ?_ ?_)|(with_reducible intro _)|(refine @Exists.intro I _ (I.d D.nil) ?_;simp only[go_sem,seval,Try.results12,gx,gy,s2,s4,hu9,hv9,hla,hxl])|((with_reducible (show Region.lexB _ _=true));kernel_rfl)|((try rw[qae]);omega)
       exact⟨t+1,by omega,by omega,rfl⟩
    ·obtain rfl:t=8:=by omega
     simp only[go_sem,seval,Try.results12,gx,gy]
     repeat' first|assumption|(simp (disch:=first|assumption|omega|(simp;done)|(simp;omega)) only[qab,qad,List.take_of_length_le,qac,qaf,qag,qah,qai,qak,qaa];try simp only[go_sem,seval,Try.results12,gx,gy])|(with_reducible refine And.intro ?_ ?_)|(with_reducible intro _)|(refine @Exists.intro I _ (I.d D.nil) ?_;simp only[go_sem,seval,Try.results12,gx,gy])|((with_reducible (show Region.lexB _ _=true));kernel_rfl)|((try rw[qae]);omega)
     exact⟨i+1,by omega,by omega,rfl⟩
  ·obtain rfl:i=25:=by omega
   simp only[go_sem,seval,Try.results12,hla]
   repeat' first|assumption|(simp (disch:=first|assumption|omega|(simp;done)|(simp;omega)) only[qab,qad,List.take_of_length_le,qac,qaf,qag,qah,qai,qak,qaa];try simp only[go_sem,seval,Try.results12,hla])|(with_reducible refine And.intro ?_ ?_)|(with_reducible intro _)|(refine @Exists.intro I _ (I.d D.nil) ?_;simp only[go_sem,seval,Try.results12,hla])|((with_reducible (show Region.lexB _ _=true));kernel_rfl)|((try rw[qae]);omega)
   refine qaz (E:=Try.env 0) Try.tok Try.follows 1000 1000 [] (.fst 1 (.fst 0 (.fst 3 (.one 2 (.one 4 (.fst 5 (.one 6 (.one 7 (.fst 8 (.fst 9 (.one 10 (.one 11 (.fst 12 (.fst 13 (.fst 14 (.done)))))))))))))))) (by kernel_rfl) ?_
   simp only[go_sem,seval,Try.results12]
   repeat' first|assumption|(simp (disch:=first|assumption|omega|(simp;done)|(simp;omega)) only[qab,qad,List.take_of_length_le,qac,qaf,qag,qah,qai,qak,qaa];try simp only[go_sem,seval,Try.results12])|(with_reducible refine And.intro ?_ ?_)|(with_reducible intro _)|(refine qaj hdx ?_;simp only[go_sem,seval,Try.results12])|(refine qaj hsc ?_;simp only[go_sem,seval,Try.results12])|(refine qaC (fun _=>hak) ?_;simp only[go_sem,seval,Try.results12])|(refine qaC (fun _=>hax) ?_;simp only[go_sem,seval,Try.results12])|(refine @Exists.intro I _ (I.d D.nil) ?_;simp only[go_sem,seval,Try.results12])|((with_reducible (show Region.lexB _ _=true));kernel_rfl)|((try rw[qae]);omega)
   by_cases h:k.ok∧Wf k
   ·exact .inr ⟨hxo,hwx h.2⟩
   ·exact .inl h
end Go.Proofs

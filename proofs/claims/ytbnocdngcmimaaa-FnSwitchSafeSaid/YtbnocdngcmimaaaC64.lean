/- What the routes of a netlist are like. Conditions: none; plain definitions and lemmas. -/
import Derived.Test.YtbnocdngcmimaaaC63
set_option linter.unusedVariables false
set_option linter.unusedSimpArgs false
namespace Go.VL
structure BusyOk (busy:List (List Bool)):Prop where
 len:busy.length=8
 row : ∀ t,t<8→(busy.getD t []).length=25
theorem qlL:BusyOk qeD:=⟨by simp[qeD],fun t ht=>by rw[qeD,qnV ht];simp⟩
theorem qj8 : ∀ (hops:List (Int×Int)) (b:List Bool),(qfS b hops).length=b.length
 | [],b=>rfl
 | h::hs,b=>by
  show(qfS (b.set h.1.toNat true) hs).length=_
  rw[qj8 hs,List.length_set]
theorem qj9 : ∀ (hops:List (Int×Int)) (b:List Bool),b.length=25→(∀ h∈hops,0≤h.1∧h.1≤24)→∀ x:Int,0≤x→x≤24→(qfS b hops).getD x.toNat false=(b.getD x.toNat false || decide (x∈qaK hops))
 | [],b,_,_,x,_,_=>by simp[qfS,qaK]
 | h::hs,b,hb,hr,x,h0,h1=>by
  have hh:=hr h (by simp)
  show(qfS (b.set h.1.toNat true) hs).getD x.toNat false=_
  rw[qj9 hs _ (by simp[hb]) (fun z hz=>hr z (by simp[hz])) x h0 h1]
  have hm:x∈qaK (h::hs)↔x=h.1∨x∈qaK hs:=by simp[qaK]
  by_cases e:x=h.1
  ·subst e
   have e1:(b.set h.1.toNat true).getD h.1.toNat false=true:=by simp[List.getD,show h.1.toNat<b.length by omega]
   rw[e1,decide_eq_true (hm.2 (.inl rfl))];simp
  ·have e1:(b.set h.1.toNat true).getD x.toNat false=b.getD x.toNat false:=by
    simp[List.getD,List.getElem?_set,show ¬ h.1.toNat=x.toNat by omega]
   rw[e1]
   congr 1
   exact decide_eq_decide.2 (by rw[hm];simp[e])
theorem qnW {busy:List (List Bool)}(hb:BusyOk busy) {t:Nat}(ht:t<8) {hops:List (Int×Int)}(hr : ∀ h∈hops,0≤h.1∧h.1≤24) {u:Nat}(hu:u<8) {x:Int}(h0:0≤x) (h1:x≤24) :
  ((takeB busy t hops).getD u []).getD x.toNat false=((busy.getD u []).getD x.toNat false || decide (u=t∧x∈qaK hops)):=by
 have hl:=hb.len
 unfold takeB
 by_cases e:t=u
 ·subst e
  have e1:(busy.set t (qfS (busy.getD t []) hops)).getD t []=qfS (busy.getD t []) hops:=by simp[List.getD,show t<busy.length by omega]
  rw[e1,qj9 hops _ (hb.row t ht) hr x h0 h1];simp
 ·have e1:(busy.set t (qfS (busy.getD t []) hops)).getD u []=busy.getD u []:=by simp[List.getD,List.getElem?_set,e]
  rw[e1];simp[Ne.symm e]
theorem qlM {busy:List (List Bool)}(hb:BusyOk busy) {t:Nat}(ht:t<8) {hops:List (Int×Int)}:BusyOk (takeB busy t hops):=by
 have hl:=hb.len
 refine⟨by simp[takeB,hl],fun u hu=>?_⟩
 unfold takeB
 by_cases e:t=u
 ·subst e
  have e1:(busy.set t (qfS (busy.getD t []) hops)).getD t []=qfS (busy.getD t []) hops:=by simp[List.getD,show t<busy.length by omega]
  rw[e1,qj8];exact hb.row t ht
 ·have e1:(busy.set t (qfS (busy.getD t []) hops)).getD u []=busy.getD u []:=by simp[List.getD,List.getElem?_set,e]
  rw[e1];exact hb.row u hu
structure RtOk (c:Circ) (cells:List Cel) (place:List Int) (busy0:List (List Bool)) (k:Nat) (r:Rt):Prop where
 net:1≤r.net∧r.net≤k
 track:0≤r.track∧r.track<8
 tree:TreeOk (busy0.getD r.track.toNat []) r.hops
 pins : ∀ t∈qej c cells place r.net,t∈qaK r.hops
 src : ∃ q,r.hops=((qej c cells place r.net).getD 0 0,-1)::q
def qnX (out:List Rt) (t:Nat) (x:Int):Prop:=∃ r∈out,r.track=(t:Int)∧x∈qaK r.hops
def apartR (a b:Rt):Prop:=a.track=b.track→∀ x∈qaK a.hops,x∉qaK b.hops
def qka (c:Circ) (cells:List Cel) (place:List Int) (k:Nat):List Int:=((List.range k).map fun(j:Nat)=>(j:Int)+1).filter fun n=>decide (qej c cells place n≠[])
theorem qhS {c:Circ}{cells:List Cel}{place:List Int}{k:Nat}:qka c cells place (k+1)=qka c cells place k++(if qej c cells place ((k:Int)+1)=[] then [] else [(k:Int)+1]):=by
 rw[qka,List.range_succ,List.map_append,List.filter_append]
 congr 1
 by_cases h:qej c cells place ((k:Int)+1)=[]
 ·simp[h]
 ·simp[h]
structure RoutesOk (c:Circ) (cells:List Cel) (place:List Int) (busy0:List (List Bool)) (k:Nat) (busy:List (List Bool)) (out:List Rt):Prop where
 bok:BusyOk busy
 used : ∀ t,t<8→∀ x:Int,0≤x→x≤24→((busy.getD t []).getD x.toNat false=true↔(busy0.getD t []).getD x.toNat false=true∨qnX out t x)
 each : ∀ r∈out,RtOk c cells place busy0 k r
 apart:out.Pairwise apartR
 nets:out.map (·.net)=qka c cells place k
theorem qhT {c:Circ}{cells:List Cel}{place:List Int}{busy0:List (List Bool)}(hc:c.Valid) (hp:PlaceOk cells.length place) (hb0:BusyOk busy0) : ∀ (k:Nat) {busy:List (List Bool)}{out:List Rt},qdy c cells place busy0 k=some (busy,out)→RoutesOk c cells place busy0 k busy out
 | 0,busy,out,h=>by
  simp only[qdy,Option.some.injEq,Prod.mk.injEq] at h
  obtain⟨rfl,rfl⟩:=h
  exact⟨hb0,fun t ht x h0 h1=>by simp[qnX],by simp,by simp,by simp[qka]⟩
 | k+1,busy,out,h=>by
  simp only[qdy] at h
  split at h
  ·cases h
  ·rename_i busy1 out1 h1
   have ih:=qhT hc hp hb0 k h1
   have weak : ∀ {r:Rt},RtOk c cells place busy0 k r→RtOk c cells place busy0 (k+1) r:=fun {r} q=>⟨by have:=q.net;omega,q.track,q.tree,q.pins,q.src⟩
   split at h
   ·rename_i hpn
    simp only[Option.some.injEq,Prod.mk.injEq] at h
    obtain⟨rfl,rfl⟩:=h
    exact⟨ih.bok,ih.used,fun r hr=>weak (ih.each r hr),ih.apart,by rw[qhS,if_pos hpn,List.append_nil];exact ih.nets⟩
   ·rename_i hpn
    split at h
    ·cases h
    ·rename_i t hs h2
     simp only[Option.some.injEq,Prod.mk.injEq] at h
     obtain⟨rfl,rfl⟩:=h
     obtain⟨-,ht8,ht,-⟩:=qkW 8 0 h2
     have ht8:t<8:=by omega
     obtain⟨b1,b2,b3⟩:=qlK (qgZ hc hp) hpn ht
     have hfree : ∀ h∈hs,(busy0.getD t []).getD h.1.toNat false=false∧¬ qnX out1 t h.1:=fun h hh=>by
      have hr:=b1.rng h hh
      have:=(not_congr (ih.used t ht8 h.1 hr.1 hr.2)).1 (by rw[b1.free h hh];simp)
      exact⟨by simpa using fun e=>this (.inl e),fun e=>this (.inr e)⟩
     refine⟨qlM ih.bok ht8,fun u hu x h0 h1=>?_,fun r hr=>?_,?_,?_⟩
     ·rw[qnW ih.bok ht8 b1.rng hu h0 h1,Bool.or_eq_true,ih.used u hu x h0 h1,decide_eq_true_eq,or_assoc]
      refine or_congr_right ?_
      constructor
      ·rintro(⟨r,hr,e1,e2⟩|⟨rfl,e2⟩)
       ·exact⟨r,List.mem_append_left _ hr,e1,e2⟩
       ·exact⟨⟨(k:Int)+1,(u:Int),hs⟩,List.mem_append_right _ (by simp),rfl,e2⟩
      ·rintro⟨r,hr,e1,e2⟩
       rcases List.mem_append.1 hr with h3|h3
       ·exact .inl ⟨r,h3,e1,e2⟩
       ·obtain rfl:r=⟨(k:Int)+1,(t:Int),hs⟩:=by simpa using h3
        exact .inr ⟨by simp only at e1;omega,e2⟩
     ·rcases List.mem_append.1 hr with h3|h3
      ·exact weak (ih.each r h3)
      ·obtain rfl:r=⟨(k:Int)+1,(t:Int),hs⟩:=by simpa using h3
       refine⟨by simp only;omega,by simp only;omega,?_,b2,b3⟩
       have e:((t:Int)).toNat=t:=by omega
       simp only[e]
       exact⟨b1.rng,b1.nd,fun h hh=>(hfree h hh).1,b1.pos,b1.root⟩
     ·rw[List.pairwise_append]
      refine⟨ih.apart,by simp,fun a ha b hb e x hx hx2=>?_⟩
      obtain rfl:b=⟨(k:Int)+1,(t:Int),hs⟩:=by simpa using hb
      obtain⟨h,hh,rfl⟩:=List.mem_map.1 hx2
      exact(hfree h hh).2 ⟨a,ha,e,hx⟩
     ·rw[qhS,if_neg hpn,List.map_append,ih.nets]
      rfl
theorem RtOk.len {c:Circ}{cells:List Cel}{place:List Int}{busy0:List (List Bool)}{k:Nat}{r:Rt}(h:RtOk c cells place busy0 k r):r.hops.length≤25:=qg2 h.tree
end Go.VL

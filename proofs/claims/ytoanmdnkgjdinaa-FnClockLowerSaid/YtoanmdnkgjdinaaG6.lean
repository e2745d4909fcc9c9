/- Laws of times. Conditions: none; plain lemmas. -/
import Derived.Test.YtoanmdnkgjdinaaD4
import Derived.Test.YtoanmdnkgjdinaaF3
set_option linter.unusedVariables false
set_option linter.unusedSimpArgs false
namespace Go.VL
theorem qio {cells:List Cel}{place:List Int}{rs:List Rt}{N:Nat}{v i:Nat} : ∀ k,i≤k→(∀ m,i≤m→m<k→(cells.getD m ce0).net.toNat≠v)→(arrT cells place rs N k).getD v 0=(arrT cells place rs N i).getD v 0
 | 0,h,_=>by
         obtain rfl:i=0:=by omega
         rfl
 | k+1,h,hm=>by
  by_cases e:i=k+1
  ·subst e;rfl
  ·have ih:=qio (cells:=cells) (place:=place) (rs:=rs) (N:=N) (v:=v) (i:=i) k (by omega) fun m h1 h2=>hm m h1 (by omega)
   have hne:=hm k (by omega) (by omega)
   rw[arrT]
   split
   ·exact ih
   ·rw[List.getD_eq_getElem?_getD,List.getElem?_set_ne hne,←List.getD_eq_getElem?_getD]
    exact ih
theorem qmS {a b:List Int}{rs:List Rt}{tile:Int}{nets:List Int}(h : ∀ n∈nets,a.getD n.toNat 0=b.getD n.toNat 0):latT a rs nets tile=latT b rs nets tile:=by
 have key : ∀ (l:List Int) (t:Int),(∀ n∈l,a.getD n.toNat 0=b.getD n.toNat 0)→l.foldl (fun t n=>max t (a.getD n.toNat 0+qaW rs n tile)) t=l.foldl (fun t n=>max t (b.getD n.toNat 0+qaW rs n tile)) t:=by
  intro l
  induction l with
  | nil=>exact fun _ _=>rfl
  | cons n l ih=>
   intro t hl
   rw[List.foldl_cons,List.foldl_cons,hl n (by simp)]
   exact ih _ fun m hm=>hl m (by simp[hm])
 exact key nets 0 h
theorem qlB {a:List Int}{rs:List Rt}{tile:Int}{nets:List Int}:(0≤latT a rs nets tile)∧∀ n∈nets,a.getD n.toNat 0+qaW rs n tile≤latT a rs nets tile:=by
 have key : ∀ (l:List Int) (t:Int),t≤l.foldl (fun t n=>max t (a.getD n.toNat 0+qaW rs n tile)) t∧∀ n∈l,a.getD n.toNat 0+qaW rs n tile≤l.foldl (fun t n=>max t (a.getD n.toNat 0+qaW rs n tile)) t:=by
  intro l
  induction l with
  | nil=>exact fun t=>⟨Int.le_refl _,fun n hn=>by simp at hn⟩
  | cons n l ih=>
   intro t
   rw[List.foldl_cons]
   obtain⟨h1,h2⟩:=ih (max t (a.getD n.toNat 0+qaW rs n tile))
   refine⟨by omega,fun m hm=>?_⟩
   rcases List.mem_cons.1 hm with rfl|h
   ·omega
   ·exact h2 m h
 exact key nets 0
theorem qfK {c:Circ}{i:Nat}(h:i<c.next.length):(qaj c).getD i ce0=qaU c i:=by
 unfold qaj
 rw[List.getD_eq_getElem?_getD,List.getElem?_append_left (by simp;exact h)]
 simp[h]
theorem qoJ (c:Circ) (i:Nat):(qaU c i).reg=true:=by unfold qaU;split <;> rfl
theorem qkU {c:Circ}{i:Nat}(h1:c.next.length≤i) (h2:i<(qaj c).length) : ∃ l∈qcM c,(qaj c).getD i ce0=qa7 l:=by
 have hl:(qaj c).length=c.next.length+(qcM c).length:=by simp[qaj]
 refine⟨(qcM c).getD (i-c.next.length) ⟨0,[],0⟩,qal (by omega),?_⟩
 unfold qaj
 rw[List.getD_eq_getElem?_getD,List.getElem?_append_right (by simp;exact h1)]
 simp[List.getD,show i-c.next.length<(qcM c).length by omega]
theorem qgi {c:Circ}{i:Nat}(h:i<(qaj c).length):((qaj c).getD i ce0).reg=true↔i<c.next.length:=by
 by_cases hi:i<c.next.length
 ·rw[qfK hi,qoJ];simp[hi]
 ·obtain⟨l,-,e⟩:=qkU (by omega) h
  rw[e]
  simp[qa7,hi]
theorem qqz {c:Circ}(hc:c.Valid) {place:List Int}{rs:List Rt}{j:Nat}(hj:j<(qaj c).length) (hr:((qaj c).getD j ce0).reg=false) :
  (qaS c (qaj c) place rs).getD ((qaj c).getD j ce0).net.toNat 0=latT (qaS c (qaj c) place rs) rs ((qaj c).getD j ce0).inputs (place.getD j 0)+3:=by
 have ha:=qi2 hc
 have hn:=qd3 hc
 have hin:=hc.i0
 have hlt : ∀ i m,i<m→m<(qaj c).length→((qaj c).getD i ce0).net<((qaj c).getD m ce0).net:=fun i m h1 h2=>by
  have:=List.pairwise_iff_getElem.1 ha i m (by omega) h2 h1
  simpa [List.getD,show i<(qaj c).length by omega,h2] using this
 have hnj:=hn _ (qal hj:(qaj c).getD j ce0∈qaj c)
 have hjl : ¬ j<c.next.length:=fun h=>by rw[(qgi hj).2 h] at hr;cases hr
 obtain⟨l,hl,e⟩:=qkU (by omega) hj
 obtain⟨g,hg,rfl⟩:=(qdz hc).each l hl
 have hb:=qcP hc hg
 have hup : ∀ m,j<m→m<(qaj c).length→((qaj c).getD m ce0).net.toNat≠((qaj c).getD j ce0).net.toNat:=fun m h1 h2=>by
  have h3:=hlt j m h1 h2
  omega
 have e1:(qaS c (qaj c) place rs).getD ((qaj c).getD j ce0).net.toNat 0=(arrT (qaj c) place rs c.vars.toNat (j+1)).getD ((qaj c).getD j ce0).net.toNat 0:=
  qio _ (by omega) fun m h1 h2=>hup m (by omega) h2
 have e2:(arrT (qaj c) place rs c.vars.toNat (j+1)).getD ((qaj c).getD j ce0).net.toNat 0=latT (arrT (qaj c) place rs c.vars.toNat j) rs ((qaj c).getD j ce0).inputs (place.getD j 0)+3:=by
  rw[arrT,if_neg (by rw[hr];simp),qds (by rw[qdB];omega),if_pos rfl]
 rw[e1,e2]
 congr 1
 refine qmS fun n hn2=>?_
 have hnb:n<((qaj c).getD j ce0).net∧1≤n:=by
  rw[e] at hn2 ⊢
  have:=hb.2.2 n hn2
  exact⟨by show n<c.first+(g:Int);omega,this.1⟩
 refine(qio _ (by omega) fun m h1 h2=>?_).symm
 by_cases e3:m=j
 ·subst e3;omega
 ·have:=hlt j m (by omega) h2
  omega
theorem qmT {c:Circ}(hc:c.Valid) {place:List Int}{busy0 busy:List (List Bool)}{rs:List Rt}(h:RoutesOk c (qaj c) place busy0 (c.vars.toNat-1) busy rs) {net t:Int}(h1:1≤net) (h2:net<c.vars) (ht:t∈qaz c (qaj c) place net):qbQ rs net t=qaW rs net t:=by
 have hv:=hc.vars_bd
 have hne:qaz c (qaj c) place net≠[]:=fun e=>by rw[e] at ht;simp at ht
 have hm:net∈qc7 c (qaj c) place (c.vars.toNat-1):=qgI.2 ⟨⟨h1,by omega⟩,fun e=>hne ((qic hc place h1 h2).1 e)⟩
 rw[←h.nets] at hm
 obtain⟨r,hr,rfl⟩:=List.mem_map.1 hm
 rw[qbQ,if_pos ⟨r,hr,rfl,(qin hc h hr).1 t (qfc.2 ht)⟩]
theorem qlC (arr:List Int) (cut:List Int):qbE arr cut=0∨∃ z∈cut,qbE arr cut=arr.getD z.toNat 0:=by
 have key : ∀ (l:List Int) (t:Int),l.foldl (fun t v=>max t (arr.getD v.toNat 0)) t=t∨∃ z∈l,l.foldl (fun t v=>max t (arr.getD v.toNat 0)) t=arr.getD z.toNat 0:=by
  intro l
  induction l with
  | nil=>exact fun t=>.inl rfl
  | cons x l ih=>
   intro t
   rw[List.foldl_cons]
   rcases ih (max t (arr.getD x.toNat 0)) with h|⟨z,hz,h⟩
   ·rw[h]
    by_cases e:t≤arr.getD x.toNat 0
    ·exact .inr ⟨x,by simp,by omega⟩
    ·exact .inl (by omega)
   ·exact .inr ⟨z,by simp[hz],h⟩
 exact key cut 0
theorem qoK {c:Circ}(hc:c.Valid) {i:Nat}(h:i<c.gates.length):(arrC c).getD (c.first.toNat+i) 0=0+1∨∃ z∈(qbq c).getD (c.first.toNat+i) [],(arrC c).getD (c.first.toNat+i) 0=(arrC c).getD z.toNat 0+1:=by
 have hg:=qiS (c:=c) (cuts:=qaP c) h
 have hb:=qcP hc h
 have hf:=hc.first_bd
 have e1:(arrC c).getD (c.first.toNat+i) 0=1+qbE (qaN c (qaP c) i).2 ((qbq c).getD (c.first.toNat+i) []):=by
  rw[arrC,qbq,hg.2,hg.1]
 rw[e1]
 rcases qlC (qaN c (qaP c) i).2 ((qbq c).getD (c.first.toNat+i) []) with h2|⟨z,hz,h2⟩
 ·left;omega
 ·right
  refine⟨z,hz,?_⟩
  have hz2:=hb.2.2 z hz
  have:=(qh0 (c:=c) (cuts:=qaP c) (i:=i) (n:=c.gates.length) (by omega) (v:=z.toNat) (by omega)).2
  rw[h2,arrC,this];omega
theorem qqA {c:Circ}{i:Nat}(h:qd0 c i∈qcM c) : ∃ j,j<(qaj c).length∧(qaj c).getD j ce0=qa7 (qd0 c i):=by
 have:qa7 (qd0 c i)∈qaj c:=List.mem_append_right _ (List.mem_map.2 ⟨_,h,rfl⟩)
 obtain⟨j,hj,e⟩:=qbf ce0 this
 exact⟨j,hj,e⟩
theorem qjR {c:Circ}{v:Nat}(hv:v<c.first.toNat):(arrC c).getD v 0=0:=(qof (c:=c) (cuts:=qaP c) hv).2
theorem qkV {c:Circ}(hc:c.Valid) {place:List Int}{rs:List Rt}(hr:RtsOk rs) : ∀ n i:Nat,i<n→i<c.gates.length→qd0 c i∈qcM c→3*(arrC c).getD (c.first.toNat+i) 0≤(qaS c (qaj c) place rs).getD (c.first.toNat+i) 0
 | 0,i,h,_,_=>by omega
 | n+1,i,hi,hg,hl=>by
  have hf:=hc.first_bd
  obtain⟨j,hj,e⟩:=qqA hl
  have ha:=qqz hc (place:=place) (rs:=rs) hj (by rw[e];rfl)
  rw[e] at ha
  have e2:(qa7 (qd0 c i)).net.toNat=c.first.toNat+i:=by
   show(c.first+(i:Int)).toNat=_
   omega
  rw[e2] at ha
  have e3:(qa7 (qd0 c i)).inputs=(qbq c).getD (c.first.toNat+i) []:=rfl
  rw[e3] at ha
  have hge:=qlB (a:=qaS c (qaj c) place rs) (rs:=rs) (tile:=place.getD j 0) (nets:=(qbq c).getD (c.first.toNat+i) [])
  rcases qoK hc hg with h1|⟨z,hz,h1⟩
  ·omega
  ·have hz2:=(qcP hc hg).2.2 z hz
   have h3:=hge.2 z hz
   have h4:=(qbD (net:=z) (tile:=place.getD j 0) hr.hops).1
   have h5:3*(arrC c).getD z.toNat 0≤(qaS c (qaj c) place rs).getD z.toNat 0:=by
    by_cases hzf:z<c.first
    ·rw[qjR (by omega)]
     have:=(qes (cells:=qaj c) (place:=place) hr (N:=c.vars.toNat) (qaj c).length z.toNat).1
     show 3*0≤(arrT (qaj c) place rs c.vars.toNat (qaj c).length).getD z.toNat 0
     omega
    ·have ez:z.toNat=c.first.toNat+(z-c.first).toNat:=by omega
     rw[ez]
     refine qkV hc hr n (z-c.first).toNat (by omega) (by omega) ?_
     rw[qjL hc (by omega)]
     right
     exact⟨_,hl,by rw[show c.first+((z-c.first).toNat:Int)=z by omega];exact hz⟩
   omega
theorem qmU {c:Circ}(hc:c.Valid) {place:List Int}{rs:List Rt}(hr:RtsOk rs) {v:Int}(hv:v∈qbg c):3*(arrC c).getD v.toNat 0≤(qaS c (qaj c) place rs).getD v.toNat 0:=by
 have hf:=hc.first_bd
 have hb:=qem hc v hv
 have hvv:c.vars=c.first+(c.gates.length:Int):=rfl
 by_cases hzf:v<c.first
 ·rw[qjR (by omega)]
  have:=(qes (cells:=qaj c) (place:=place) hr (N:=c.vars.toNat) (qaj c).length v.toNat).1
  show 3*0≤(arrT (qaj c) place rs c.vars.toNat (qaj c).length).getD v.toNat 0
  omega
 ·have ez:v.toNat=c.first.toNat+(v-c.first).toNat:=by omega
  rw[ez]
  refine qkV hc hr _ _ (Nat.lt_succ_self _) (by omega) ?_
  rw[qjL hc (by omega)]
  left
  rw[show c.first+((v-c.first).toNat:Int)=v by omega]
  exact hv
def atO (c:Circ) (rs:List Rt) (A:List Int) (o:Nat):Int:=A.getD (c.outs.getD o 0/2).toNat 0+qaW rs (c.outs.getD o 0/2) ((o:Int)*5+4)
def atL (cells:List Cel) (place:List Int) (rs:List Rt) (A:List Int) (i:Nat):Int:=latT A rs (cells.getD i ce0).inputs (place.getD i 0)+3
theorem qja {c:Circ}{rs:List Rt}{A:List Int}{t0:Int} : ∀ n,t0≤perB c rs A t0 n∧(∀ o,o<n→atO c rs A o≤perB c rs A t0 n)∧(perB c rs A t0 n=t0∨∃ o,o<n∧perB c rs A t0 n=atO c rs A o)
 | 0=>⟨Int.le_refl _,by omega,.inl rfl⟩
 | n+1=>by
  obtain⟨h0,h1,h2⟩:=qja (c:=c) (rs:=rs) (A:=A) (t0:=t0) n
  have e:perB c rs A t0 (n+1)=max (perB c rs A t0 n) (atO c rs A n):=rfl
  rw[e]
  refine⟨by omega,fun o ho=>?_,?_⟩
  ·by_cases e2:o=n
   ·subst e2;omega
   ·have:=h1 o (by omega);omega
  ·by_cases hle:atO c rs A n≤perB c rs A t0 n
   ·rcases h2 with h2|⟨o,ho,h2⟩
    ·exact .inl (by omega)
    ·exact .inr ⟨o,by omega,by omega⟩
   ·exact .inr ⟨n,by omega,by omega⟩
theorem qjb {cells:List Cel}{place:List Int}{rs:List Rt}{A:List Int} : ∀ n,0≤perA cells place rs A n∧(∀ i,i<n→(cells.getD i ce0).reg=true→atL cells place rs A i≤perA cells place rs A n)∧(perA cells place rs A n=0∨∃ i,i<n∧(cells.getD i ce0).reg=true∧perA cells place rs A n=atL cells place rs A i)
 | 0=>⟨Int.le_refl _,by omega,.inl rfl⟩
 | n+1=>by
  obtain⟨h0,h1,h2⟩:=qjb (cells:=cells) (place:=place) (rs:=rs) (A:=A) n
  have e:perA cells place rs A (n+1)=if(cells.getD n ce0).reg then max (perA cells place rs A n) (atL cells place rs A n) else perA cells place rs A n:=rfl
  rw[e]
  by_cases hr:(cells.getD n ce0).reg=true
  ·rw[if_pos hr]
   refine⟨by omega,fun i hi hir=>?_,?_⟩
   ·by_cases e2:i=n
    ·subst e2;omega
    ·have:=h1 i (by omega) hir;omega
   ·by_cases hle:atL cells place rs A n≤perA cells place rs A n
    ·rcases h2 with h2|⟨i,hi,hir,h2⟩
     ·exact .inl (by omega)
     ·exact .inr ⟨i,by omega,hir,by omega⟩
    ·exact .inr ⟨n,by omega,hr,by omega⟩
  ·rw[if_neg hr]
   refine⟨h0,fun i hi hir=>?_,?_⟩
   ·by_cases e2:i=n
    ·subst e2;exact absurd hir hr
    ·exact h1 i (by omega) hir
   ·rcases h2 with h2|⟨i,hi,hir,h2⟩
    ·exact .inl h2
    ·exact .inr ⟨i,by omega,hir,h2⟩
theorem qeY {c:Circ}(hc:c.Valid) {place:List Int}{rs:List Rt}(hr:RtsOk rs) :
  0≤qce c (qaj c) place rs∧(∀ o,o<c.outs.length→atO c rs (qaS c (qaj c) place rs) o≤qce c (qaj c) place rs)∧(∀ i,i<c.next.length→atL (qaj c) place rs (qaS c (qaj c) place rs) i≤qce c (qaj c) place rs)∧
  ((qce c (qaj c) place rs=0∧c.outs.length+c.next.length=0)∨(∃ o,o<c.outs.length∧atO c rs (qaS c (qaj c) place rs) o=qce c (qaj c) place rs)∨∃ i,i<c.next.length∧atL (qaj c) place rs (qaS c (qaj c) place rs) i=qce c (qaj c) place rs):=by
 have hcl:c.next.length≤(qaj c).length:=by simp[qaj]
 obtain⟨a0,a1,a2⟩:=qjb (cells:=qaj c) (place:=place) (rs:=rs) (A:=qaS c (qaj c) place rs) (qaj c).length
 obtain⟨b0,b1,b2⟩:=qja (c:=c) (rs:=rs) (A:=qaS c (qaj c) place rs) (t0:=perA (qaj c) place rs (qaS c (qaj c) place rs) (qaj c).length) c.outs.length
 have e:qce c (qaj c) place rs=perB c rs (qaS c (qaj c) place rs) (perA (qaj c) place rs (qaS c (qaj c) place rs) (qaj c).length) c.outs.length:=rfl
 have hA:=fun v=>(qes (cells:=qaj c) (place:=place) hr (N:=c.vars.toNat) (qaj c).length v).1
 have hO : ∀ o,0≤atO c rs (qaS c (qaj c) place rs) o:=fun o=>by
  have h1:0≤(qaS c (qaj c) place rs).getD (c.outs.getD o 0/2).toNat 0:=hA _
  have h2:=(qbD (net:=c.outs.getD o 0/2) (tile:=(o:Int)*5+4) hr.hops).1
  unfold atO
  omega
 have hL : ∀ i,3≤atL (qaj c) place rs (qaS c (qaj c) place rs) i:=fun i=>by
  have:=(qlB (a:=qaS c (qaj c) place rs) (rs:=rs) (tile:=place.getD i 0) (nets:=((qaj c).getD i ce0).inputs)).1
  unfold atL
  omega
 rw[e]
 refine⟨by omega,b1,fun i hi=>?_,?_⟩
 ·have:=a1 i (by omega) ((qgi (by omega)).2 hi)
  omega
 ·rcases b2 with h|⟨o,ho,h⟩
  ·rcases a2 with h2|⟨i,hi,hir,h2⟩
   ·have hnl:c.next.length=0:=by
     rcases Nat.eq_zero_or_pos c.next.length with h3|h3
     ·exact h3
     ·have:=a1 0 (by omega) ((qgi (by omega)).2 h3)
      have:=hL 0
      omega
    rcases Nat.eq_zero_or_pos c.outs.length with h3|h3
    ·exact .inl ⟨by omega,by omega⟩
    ·have:=b1 0 h3
     have:=hO 0
     exact .inr (.inl ⟨0,h3,by omega⟩)
   ·exact .inr (.inr ⟨i,(qgi (by omega)).1 hir,by omega⟩)
  ·exact .inr (.inl ⟨o,ho,h.symm⟩)
theorem qkW {c:Circ}(hc:c.Valid) {place:List Int}{rs:List Rt}(hr:RtsOk rs) {l:Int}(hl:l∈c.outs++c.next):3*(arrC c).getD (l/2).toNat 0≤qce c (qaj c) place rs:=by
 obtain⟨p0,p1,p2,-⟩:=qeY hc (place:=place) hr
 have hlow:=qmU hc (place:=place) hr (v:=l/2) (List.mem_map.2 ⟨l,hl,rfl⟩)
 have hf:=hc.first_bd
 rcases List.mem_append.1 hl with h|h
 ·obtain⟨o,ho,rfl⟩:=qbf 0 h
  have h1:=p1 o ho
  have h2:=(qbD (net:=c.outs.getD o 0/2) (tile:=(o:Int)*5+4) hr.hops).1
  unfold atO at h1
  omega
 ·obtain⟨i,hi,rfl⟩:=qbf 0 h
  have h1:=p2 i hi
  have hno:=hc.n _ (qal hi:c.next.getD i 0∈c.next)
  unfold qbc at hno
  by_cases hv:c.next.getD i 0/2 > 0
  ·unfold atL at h1
   rw[qfK hi] at h1
   have e:(qaU c i).inputs=[c.next.getD i 0/2]:=by unfold qaU;rw[if_pos hv]
   rw[e] at h1
   have h3:=(qlB (a:=qaS c (qaj c) place rs) (rs:=rs) (tile:=place.getD i 0) (nets:=[c.next.getD i 0/2])).2 _ (List.mem_singleton.2 rfl)
   have h2:=(qbD (net:=c.next.getD i 0/2) (tile:=place.getD i 0) hr.hops).1
   omega
  ·have e:c.next.getD i 0/2=0:=by omega
   rw[e,show(0:Int).toNat=0 from rfl,qjR (by omega)]
   omega
end Go.VL

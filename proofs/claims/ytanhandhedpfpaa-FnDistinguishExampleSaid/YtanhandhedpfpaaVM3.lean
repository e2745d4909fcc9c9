/- Part 13: append. Conditions: none; lemmas. -/
import Derived.Test.YtanhandhedpfpaaVM2
import Derived.Lib.AppendZeros
import Derived.Lib.AppendZerosOnto
set_option linter.unusedVariables false
set_option linter.unusedSimpArgs false
namespace Go.VL
variable {P:Program}{S:Nat→Prop}{φ : List (List Nat)}{H:List R}{w:World}{T:Nat→Option TI}{fr:Fr}{a:Act}
def BoxAg (S:Nat→Prop) (φ : List (List Nat)) (H:List R) (w w':World):Prop:=
 (∀ b,S b→w'.heap[b]?=w.heap[b]?)∧∀ (j:Nat) cs b,H[j]?=some (R.box cs)→b∈φ.getD j []→w'.heap[b]?=w.heap[b]?
theorem qdt (s:Sim S φ H w) {w':World}(h:Agree w w'):BoxAg S φ H w w':=⟨fun b hb=>h b (s.slt b hb),fun j cs b _ hb=>h b (s.lt b ⟨j,hb⟩)⟩
theorem qja (s:Sim S φ H w) {i:Nat}{fp':List Nat}{w':World}(u:Upd φ w i fp' w') (hi : ∀ cs,H[i]?≠some (.box cs)):BoxAg S φ H w w':=by
 refine⟨fun b hb=>u.keep b (s.slt b hb) fun hm=>s.off b ⟨i,hm⟩ hb,fun j cs b hj hb=>u.keep b (s.lt b ⟨j,hb⟩) fun hm=>?_⟩
 have:=s.dj j i b hb hm
 subst this
 exact hi cs hj
def AppOK (S:Nat→Prop) (φ : List (List Nat)) (H:List R) (w:World) (r:Result Next) (x:I) (H':List R):Prop:=
 ∃ v w' φ',(r=.ok (.value v) w'∨(r=.ok .skip w'∧v=undef))∧Sim S φ' H' w'∧Tr H.length S φ H w S φ' H' w'∧Ext S φ w S φ' w'∧V S φ' H' w' x v∧BoxAg S φ H w w'
theorem AppOK.step {r:Result Next}{x:I}{H':List R}(h:AppOK S φ H w r x H'):qb9 S φ H w r x H':=by
 obtain⟨v,w',φ',h1,h2,h3,h4,h5,_⟩:=h
 exact⟨v,w',φ',h1,h2,h3,h4,h5⟩
def srcD (H:List R) (size:Nat) (x:I):Option (Prop×List D):=
 match x with
 | .d xd=>some (xd.isLst size∧0<size,xd.elems)
 | .sl i g k lo n=>
  match H[i]? with
  | some (.row g' k' dp l)=>some (g=g'∧k=k'∧k=size∧(dp.o=true→scalars ((l.drop lo).take n)=true),(l.drop lo).take n)
  | _=>none
 | _=>none
structure Src (S:Nat→Prop) (w:World) (k:Nat) (xs:List D) (v:Value):Prop where
 ex : ∃ a cap,v=.slice a xs.length cap∧(xs≠[]→∃ b off,a=some ⟨b,off,none⟩∧∃ news:List Value,news.length=xs.length*k∧
  (∀ j u,news[j]?=some u→w.cell? ((⟨b,off,none⟩:Addr).add j)=some u)∧∀ j,j<xs.length*k→FZ S w ((flat xs).getD j .nil) (news.getD j undef))
 len : ∀ x∈xs,x.cells.length=k
 one : ∀ c∈flat xs,c.one=true
 lim:xs.length≤lim
theorem qeC {k:Nat}(hk:0<k) {L:List D}(he : ∀ x∈L,x.cells.length=k) {l m:Nat}(hm:l+m≤L.length) (j:Nat) (hj:j<m*k) :
  l*k+j<(flat L).length∧(flat ((L.drop l).take m)).getD j .nil=(flat L).getD (l*k+j) .nil:=by
 have hmemE : ∀ x∈(L.drop l).take m,x∈L:=fun x hx=>List.mem_of_mem_drop (List.mem_of_mem_take hx)
 have hlen:((L.drop l).take m).length=m:=by simp;omega
 have hfl:=flat_length he
 have hm2:=Nat.mul_le_mul_right k hm
 rw[Nat.add_mul] at hm2
 refine⟨by omega,?_⟩
 have hq:j/k<m:=Nat.div_lt_of_lt_mul (by rw[Nat.mul_comm];exact hj)
 have hr:j%k<k:=Nat.mod_lt _ hk
 have hj':j=(j/k)*k+j%k:=by rw[Nat.mul_comm];exact(Nat.div_add_mod j k).symm
 have e1:=qaF (fun x hx=>he x (hmemE x hx)) (i:=j/k) (by omega) hr .nil
 have e2:=qaF he (i:=l+j/k) (by omega) hr .nil
 rw[←hj'] at e1
 rw[Nat.add_mul,Nat.add_assoc,←hj'] at e2
 rw[e1,e2]
 congr 2
 rw[getD_take _ _ _ _ hq,getD_drop]
theorem qfF (s:Sim S φ H w) {size:Nat}{x:I}{vx:Value}(hx:V S φ H w x vx) {vc:Prop}{xs:List D}(h:srcD H size x=some (vc,xs)) (hvc:vc):Src S w size xs vx:=by
 unfold srcD at h
 split at h
 ·rename_i xd
  simp only[Option.some.injEq,Prod.mk.injEq] at h
  obtain⟨rfl,rfl⟩:=h
  obtain⟨hl,hs⟩:=hvc
  have hz:=hx.fz
  cases hz <;> simp[D.isLst] at hl
  ·exact⟨⟨_,_,rfl,by simp[D.elems]⟩,by simp[D.elems],by simp[D.elems,flat],Nat.zero_le _⟩
  ·exact⟨⟨_,_,rfl,by simp[D.elems]⟩,by simp[D.elems],by simp[D.elems,flat],Nat.zero_le _⟩
  ·rename_i k l b off cap f hk he h1 hn hlim hS hc hf
   subst hl
   have hfl:=flat_length he
   refine⟨⟨_,_,rfl,fun _=>⟨b,off,rfl,(List.range (flat l).length).map f,by simp[D.elems,hfl],?_,?_⟩⟩,he,h1,hlim⟩
   ·intro j u hj
    have hjl:j<(flat l).length:=by
     by_cases hlt:j<(flat l).length
     ·exact hlt
     ·rw[List.getElem?_eq_none (by simpa using hlt)] at hj;simp at hj
    simp[hjl] at hj
    rw[Addr.add_lit,hc j hjl,hj]
   ·intro j hj
    simp only[D.elems] at hj ⊢
    rw[←hfl] at hj
    simpa [List.getD,hj] using hf j hj
 ·rename_i i g k lo n
  split at h
  ·rename_i g' k' dp l hi
   simp only[Option.some.injEq,Prod.mk.injEq] at h
   obtain⟨rfl,rfl⟩:=h
   obtain⟨rfl,rfl,rfl,hsc⟩:=hvc
   cases hx with
   | sl hlt hg hrel ho=>
    obtain⟨hsl,hle⟩:=hrel dp l hi
    obtain⟨hk,he,h1,hlim,hr⟩:=s.rel i _ hi
    have hlen:((l.drop lo).take n).length=n:=by simp;omega
    have hmemE : ∀ x∈(l.drop lo).take n,x∈l:=fun x hx=>List.mem_of_mem_drop (List.mem_of_mem_take hx)
    have g1 : ∀ x∈(l.drop lo).take n,x.cells.length=k:=fun x hx=>he x (hmemE x hx)
    have g2 : ∀ c∈flat ((l.drop lo).take n),c.one=true:=fun c hc=>by
     obtain⟨x,hx,hcx⟩:=qaY.1 hc
     exact h1 c (qaY.2 ⟨x,hmemE x hx,hcx⟩)
    rcases hsl with⟨hfp,rfl,rfl,rfl⟩|⟨b,rest,cap,arr,ty,a,hfp,rfl,hn,hcp,hlim',hb,hfit⟩
    ·exact⟨⟨none,0,by simp,by simp⟩,g1,g2,by simp[VL.lim]⟩
    ·refine⟨⟨a,cap,by rw[hlen],fun hne=>?_⟩,g1,g2,by rw[hlen];exact hlim'⟩
     have hn0:n≠0:=by rintro rfl;simp at hne
     obtain⟨rfl,hfit'⟩:=hfit (.inl hn0)
     rcases hr with⟨e,_⟩|⟨b',rest',arr',ty',e,hb',hsz,hrr⟩
     ·rw[hfp] at e;simp at e
     ·rw[hfp] at e
      simp at e
      obtain⟨rfl,rfl⟩:=e
      rw[hb] at hb'
      simp at hb'
      obtain⟨rfl,rfl⟩:=hb'
      have hnk:n*k≤cap*k:=Nat.mul_le_mul_right _ hn
      refine⟨b,lo*k,rfl,(List.range (n*k)).map fun j=>arr.getD (lo*k+j) undef,by simp[hlen],?_,?_⟩
      ·intro j u hj
       have hjl:j<n*k:=by
        by_cases hlt:j<n*k
        ·exact hlt
        ·rw[List.getElem?_eq_none (by simpa using hlt)] at hj;simp at hj
       simp[hjl] at hj
       rw[Addr.add_lit,cell_of_row w b _ arr ty (0,0) hb,←hj]
       have:lo*k+j<arr.size:=by omega
       simp[this]
      ·intro j hj
       rw[hlen] at hj
       obtain⟨f1,f2⟩:=qeC hk he hle j hj
       have e:((List.range (n*k)).map fun j=>arr.getD (lo*k+j) undef).getD j undef=arr.getD (lo*k+j) undef:=by simp[List.getD,hj]
       rw[e,f2]
       cases dp with
       | fz=>exact hrr.2 _ f1
       | own hs=>
        obtain⟨F,_,_,hF⟩:=hrr
        refine(qbx (hF _ f1) ?_).2.2
        rw[←f2]
        refine qbI (hsc rfl) _ (getD_mem ?_)
        rw[flat_length g1,hlen]
        exact hj
  ·simp at h
 ·simp at h
abbrev Hole:=Nat×Nat×I
def qcd (n:Nat) (hs:List Hole):List Hole:=hs.map fun h=>(n+h.1,h.2.1,h.2.2)
def qgb (k:Nat) (hs:List Hole):Nat→List D→Prop
 | _,[]=>True
 | j,c::r=>(match qan k hs j with|some _=>True|none=>c.scalar=true)∧qgb k hs (j+1) r
def qdQ:Option (Prop×List D)→Option (Prop×List D×List Hole)
 | some (vc,xs)=>some (vc,xs,[])
 | none=>none
def srcX (H:List R) (size:Nat) (x:I):Option (Prop×List D×List Hole):=
 match x with
 | .sl i g k lo n=>
  match H[i]? with
  | some (.row g' k' (.own (h::hs)) l)=>some (g=g'∧k=k'∧k=size∧lo=0∧n=l.length∧0<n∧qgb k (h::hs) 0 (flat l),l,h::hs)
  | _=>qdQ (srcD H size x)
 | _=>qdQ (srcD H size x)
def SCell (S:Nat→Prop) (φ : List (List Nat)) (H:List R) (w:World) (c:D) (v:Value):Option I→Prop
 | none=>FZ S w c v
 | some x=>c.scalar=false∧v.oneCell'=true∧V S φ H w x v
structure SrcX (S:Nat→Prop) (φ : List (List Nat)) (H:List R) (w:World) (k:Nat) (xs:List D) (hs:List Hole) (v:Value):Prop where
 ex : ∃ a cap,v=.slice a xs.length cap∧(xs≠[]→∃ b off,a=some ⟨b,off,none⟩∧∃ news:List Value,news.length=xs.length*k∧
  (∀ j u,news[j]?=some u→w.cell? ((⟨b,off,none⟩:Addr).add j)=some u)∧∀ j,j<xs.length*k→SCell S φ H w ((flat xs).getD j .nil) (news.getD j undef) (qan k hs j))
 len : ∀ x∈xs,x.cells.length=k
 one : ∀ c∈flat xs,c.one=true
 lim:xs.length≤lim
 bound : ∀ h∈hs,h.1*k+h.2.1<xs.length*k
 scal:hs≠[]→∀ j,j<xs.length*k→qan k hs j=none→((flat xs).getD j .nil).scalar=true
theorem SCell.oneCell {c:D}{v:Value}{o:Option I}(h:SCell S φ H w c v o) (h1:c.one=true):v.oneCell'=true:=by
 cases o with
 | none=>exact FZ.one h h1
 | some x=>exact h.2.1
theorem qeU {k:Nat}{hs:List Hole} : ∀ {l:List D}{j m:Nat},qgb k hs j l→m<l.length→qan k hs (j+m)=none→(l.getD m .nil).scalar=true
 | [],j,m,h,hm,e=>by simp at hm
 | c::r,j,0,h,hm,e=>by
  have:=h.1
  rw[Nat.add_zero] at e
  rw[e] at this
  exact this
 | c::r,j,m+1,h,hm,e=>by
  have:=qeU h.2 (m:=m) (by simpa using hm) (by rw[←e];congr 1;omega)
  simpa [List.getD] using this
theorem Src.toX {k:Nat}{xs:List D}{v:Value}(h:Src S w k xs v):SrcX S φ H w k xs [] v:=
 ⟨h.ex,h.len,h.one,h.lim,by simp,by simp⟩
theorem qc8 (s:Sim S φ H w) {size:Nat}{x:I}{vx:Value}(hx:V S φ H w x vx) {vc:Prop}{xs:List D}{hs:List Hole}(h:srcX H size x=some (vc,xs,hs)) (hvc:vc):SrcX S φ H w size xs hs vx:=by
 have old:qdQ (srcD H size x)=some (vc,xs,hs)→SrcX S φ H w size xs hs vx:=by
  intro h
  generalize hd:srcD H size x=o at h
  cases o with
  | none=>simp[qdQ] at h
  | some p=>
   obtain⟨vc',xs'⟩:=p
   simp only[qdQ,Option.some.injEq,Prod.mk.injEq] at h
   obtain⟨rfl,rfl,rfl⟩:=h
   exact(qfF s hx hd hvc).toX
 unfold srcX at h
 split at h
 ·rename_i i g k lo n
  split at h
  ·rename_i g' k' h0 hs0 l hi
   simp only[Option.some.injEq,Prod.mk.injEq] at h
   obtain⟨rfl,rfl,rfl⟩:=h
   obtain⟨rfl,rfl,rfl,rfl,rfl,hpos,hsc⟩:=hvc
   cases hx with
   | sl hlt hg hrel ho=>
    obtain⟨hsl,hle⟩:=hrel _ l hi
    obtain⟨hk,he,h1,hlim,hr⟩:=s.rel i _ hi
    have hfl:=flat_length he
    have hb0 : ∀ h∈h0::hs0,h.1*k+h.2.1<l.length*k:=by
     rcases hr with⟨_,rfl⟩|⟨b,rest,arr,ty,e,hb,hsz,F,_,hw,_⟩
     ·simp at hpos
     ·rw[←hfl];exact hw
    refine⟨?_,he,h1,hlim,hb0,fun _ j hj e=>?_⟩
    ·rcases hsl with⟨hfp,_,hn,rfl⟩|⟨b,rest,cap,arr,ty,a,hfp,rfl,hn,hcp,hlim',hb,hfit⟩
     ·have:l=[]:=List.eq_nil_of_length_eq_zero hn
      subst this
      exact⟨none,0,rfl,by simp⟩
     ·refine⟨a,cap,rfl,fun hne=>?_⟩
      obtain⟨rfl,hfit'⟩:=hfit (.inr rfl)
      rcases hr with⟨e,_⟩|⟨b',rest',arr',ty',e,hb',hsz,F,_,hw,hF⟩
      ·rw[hfp] at e;simp at e
      ·rw[hfp] at e
       simp at e
       obtain⟨rfl,rfl⟩:=e
       rw[hb] at hb'
       simp at hb'
       obtain⟨rfl,rfl⟩:=hb'
       refine⟨b,0*k,rfl,(List.range (l.length*k)).map fun j=>arr.getD j undef,by simp,?_,?_⟩
       ·intro j u hj
        have hjl:j<l.length*k:=by
         by_cases hlt:j<l.length*k
         ·exact hlt
         ·rw[List.getElem?_eq_none (by simpa using hlt)] at hj;simp at hj
        simp[hjl] at hj
        rw[Addr.add_lit,cell_of_row w b _ arr ty (0,0) hb,←hj]
        have:j<arr.size:=by omega
        simp[this]
       ·intro j hj
        have e:((List.range (l.length*k)).map fun j=>arr.getD j undef).getD j undef=arr.getD j undef:=by simp[List.getD,hj]
        rw[e]
        have hc:=hF j (by omega)
        generalize ho:qan k (h0::hs0) j=o at hc
        cases o with
        | none=>
         have:=qeU hsc (m:=j) (by omega) (by rw[Nat.zero_add];exact ho)
         exact(qbx hc this).2.2
        | some x=>exact⟨hc.2.1,hc.2.2.1,hc.2.2.2⟩
    ·exact qeU hsc (by omega) (by rw[Nat.zero_add];exact e)
  ·exact old h
 ·exact old h
theorem qeV (t ty e:TypeId) {ti ei:TI}(ht:TIOK P t ti) (he:TIOK P e ei) (hy:ti.ty=.slice e) (base:Option Addr) (n cap:Nat) (hn:n≤cap) (a:Option Addr) (c:Nat) (w:World) :
  (Builtin.append_ #[t,t] ty #[.slice base n cap,.slice a 0 c]).run P w=.ok (.slice base n cap) w:=by
 have hu:=ht.und_slice hy
 have hf:(Builtin.firstCells ei.size 0 (.slice a 0 c)).run P w=.ok #[] w:=by
  cases a <;> simp[Builtin.firstCells,loadCells,loadCellsFrom]
 simp only[Builtin.append_,Sem.run_bind,run_underlying hu,Result.andThen_ok,he.run_sizeOf,Builtin.lenOf,Sem.run_pure,List.getElem?_toArray,List.getElem?_cons_zero,List.getElem?_cons_succ]
 simp[Sem.run_bind,run_underlying hu,Result.andThen_ok,he.run_sizeOf,Builtin.lenOf,hn,hf]
 cases base <;> simp[storeCells]
theorem run_append_room' (t ty e:TypeId) {ti ei:TI}(ht:TIOK P t ti) (he:TIOK P e ei) (hy:ti.ty=.slice e) (w:World) (g sLen sCap:Nat) (cur:Array Value) (ty':TypeId) (hg:w.heap[g]?=some (.cells cur ty' (0,0)))
  (a:Addr) (m c:Nat) (news:List Value) (hl:news.length=m*ei.size) (hnews : ∀ j u,news[j]?=some u→w.cell? (a.add j)=some u) (h1 : ∀ u∈news,u.oneCell'=true)
  (hroom:sLen+m≤sCap) (hfit:sLen*ei.size+news.length≤cur.size) :
  (Builtin.append_ #[t,t] ty #[.slice (some ⟨g,0,none⟩) sLen sCap,.slice (some a) m c]).run P w =
   .ok (.slice (some ⟨g,0,none⟩) (sLen+m) sCap) (w.setRow g (stored' cur (sLen*ei.size) news)):=by
 have hu:=ht.und_slice hy
 obtain⟨i,d,i1,i2,i3,i4,i5,i6⟩:=he.ex
 have hf:=run_firstCells_some (P:=P) w ei.size m a m c news hl hnews
 have hst:=run_storeCells_at P g (sLen*ei.size) ty' news 0 cur w hg (by simpa using hfit) h1
 simp only[Nat.add_zero] at hst
 rw[←i2] at hf hst hfit hl ⊢
 simp[Builtin.append_,run_underlying hu,sizeOf,typeInfo,i1,Builtin.lenOf,hroom,hf,Addr.add_lit,hst,stored']
theorem qeW {olds news:List Value}{z:Array Value}{n m k c:Nat}(h1:olds.length=n*k) (h2:news.length=m*k) (hz:z.size=k) (hc:n+m≤c) :
  (olds.toArray++news.toArray++Builtin.zeroCells z (c-(n+m))).size=c*k∧
  ∀ j,j<(n+m)*k→(olds.toArray++news.toArray++Builtin.zeroCells z (c-(n+m))).getD j undef=if j<n*k then olds.getD j undef else news.getD (j-n*k) undef:=by
 refine⟨?_,fun j hj=>?_⟩
 ·simp only[Array.size_append,List.size_toArray,size_zeroCells,h1,h2,hz,←Nat.add_mul]
  congr 1
  omega
 ·rw[Nat.add_mul] at hj
  simp only[Array.getD_eq_getD_getElem?]
  rw[Array.getElem?_append_left (by simp;omega)]
  by_cases h:j<n*k
  ·rw[if_pos h,Array.getElem?_append_left (by simp;omega)]
   simp[List.getD]
  ·rw[if_neg h,Array.getElem?_append_right (by simp;omega)]
   simp[List.getD,h1]
def qdu (dp:DP) (l:List D) (b:Bool):DP:=if b=false∧l=[]∧dp.o=true then .fz else dp
def appC (l:List D) (b:Bool):Prop:=b=true∨l=[]
theorem appDP_t {dp:DP}{l:List D}:qdu dp l true=dp:=by simp[qdu]
theorem qk8 {l:List D}{b:Bool}:qdu .fz l b=.fz:=by simp[qdu,DP.o]
theorem qjb {hs:List Hole}:qdu (.own hs) [] false=.fz:=by simp[qdu,DP.o]
theorem appDP_c {dp:DP}{x:D}{l:List D}{b:Bool}:qdu dp (x::l) b=dp:=by simp[qdu]
theorem appDP_a {dp:DP}{x:D}{l r:List D}{b:Bool}:qdu dp (l++x::r) b=dp:=by simp[qdu]
theorem appC_t {l:List D}:appC l true=True:=by simp[appC]
theorem appC_n {b:Bool}:appC [] b=True:=by simp[appC]
theorem appC_c {x:D}{l:List D}{b:Bool}:appC (x::l) b=(b=true):=by simp[appC]
theorem appC_a {x:D}{l r:List D}{b:Bool}:appC (l++x::r) b=(b=true):=by simp[appC]
def qb5 (T:Nat→Option TI) (H:List R) (t t':Nat) (d x:I):Option (Prop×I×List R):=
 match T t with
 | some ti=>
  match ti.ty with
  | .slice e=>
   match T e with
   | some ei=>
    match srcX H ei.size x with
    | some (vc,xs,[])=>
     match d with
     | .d .nil=>some (t=t'∧vc∧0<ei.size∧xs.length*ei.bytes≤140737488355328∧0<ei.bytes,.sl H.length 0 ei.size 0 xs.length,H ++ [.row 0 ei.size (.ofB (scalars xs)) xs])
     | .sl i g k lo n=>
      match H[i]? with
      | some (.row g' k' dp l)=>some (t=t'∧vc∧g=g'∧k=k'∧k=ei.size∧lo=0∧n=l.length∧dp.shut=true∧(dp.o=true→appC l (scalars xs))∧(n+xs.length)*ei.bytes≤140737488355328∧0<ei.bytes,
        .sl i (g+1) k 0 (n+xs.length),H.set i (.row (g+1) k (qdu dp l (scalars xs)) (l++xs)))
      | _=>none
     | _=>none
    | some (vc,xs,h::hs)=>
     match d with
     | .d .nil=>some (t=t'∧vc∧0<ei.size∧xs.length*ei.bytes≤140737488355328∧0<ei.bytes,.sl H.length 0 ei.size 0 xs.length,H ++ [.row 0 ei.size (.own (h::hs)) xs])
     | .sl i g k lo n=>
      match H[i]? with
      | some (.row g' k' (.own []) l)=>some (t=t'∧vc∧g=g'∧k=k'∧k=ei.size∧lo=0∧n=l.length∧(n+xs.length)*ei.bytes≤140737488355328∧0<ei.bytes,
        .sl i (g+1) k 0 (n+xs.length),H.set i (.row (g+1) k (.own (qcd l.length (h::hs))) (l++xs)))
      | _=>none
     | _=>none
    | none=>none
   | none=>none
  | _=>none
 | none=>none
theorem qbY {n b:Nat}(h:n*b≤140737488355328) (hb:0<b):n≤lim∧n≤maxLen:=by
 have:n*1≤n*b:=Nat.mul_le_mul_left _ hb
 unfold lim maxLen
 omega
theorem qk9 {k:Nat}{xs:List D}{news:List Value}(hl:news.length=xs.length*k) (hlen : ∀ x∈xs,x.cells.length=k) (h1 : ∀ c∈flat xs,c.one=true)
  {hs:List Hole}(hz : ∀ j,j<xs.length*k→SCell S φ H w ((flat xs).getD j .nil) (news.getD j undef) (qan k hs j)) : ∀ u∈news,u.oneCell'=true:=by
 intro u hu
 obtain⟨j,hj,rfl⟩:=List.getElem_of_mem hu
 rw[qak _ _ _ undef]
 exact(hz j (by omega)).oneCell (h1 _ (getD_mem (by rw[flat_length hlen];omega)))
theorem qel {k n:Nat} : ∀ {hs:List Hole}{j:Nat},qan k (qcd n hs) (n*k+j)=qan k hs j
 | [],j=>rfl
 | (a,b,c)::r,j=>by
  simp only[qcd,List.map_cons,qan]
  rw[Nat.add_mul]
  have:=qel (k:=k) (n:=n) (hs:=r) (j:=j)
  simp only[qcd] at this
  rw[this]
  by_cases h:a*k+b=j
  ·rw[if_pos h,if_pos (by omega)]
  ·rw[if_neg h,if_neg (by omega)]
theorem qdR {k n:Nat} : ∀ {hs:List Hole}{j:Nat},j<n*k→qan k (qcd n hs) j=none
 | [],j,h=>rfl
 | (a,b,c)::r,j,h=>by
  simp only[qcd,List.map_cons,qan]
  rw[Nat.add_mul,if_neg (by omega)]
  exact qdR h
def qla (k n:Nat) (dp dp':DP) (xs:List D) (hs:List Hole):Prop:=
 (hs=[]∧dp'=dp∧dp.shut=true∧(dp.o=true→scalars xs=true))∨(hs≠[]∧dp=.own []∧dp'=.own (qcd n hs))∨(hs=[]∧n=0∧xs≠[]∧dp=.own []∧dp'=.fz)
theorem qip {k:Nat}{dp:DP}{l xs:List D}(hsh:dp.shut=true) (hsc:dp.o=true→appC l (scalars xs)):qla k l.length dp (qdu dp l (scalars xs)) xs []:=by
 unfold qdu
 by_cases h:scalars xs=false∧l=[]∧dp.o=true
 ·rw[if_pos h]
  obtain⟨h1,rfl,h3⟩:=h
  refine .inr (.inr ⟨rfl,rfl,?_,?_,rfl⟩)
  ·rintro rfl;simp[scalars] at h1
  ·cases dp with
   | fz=>simp[DP.o] at h3
   | own h0=>cases h0 with
    | nil=>rfl
    | cons x r=>simp[DP.shut] at hsh
 ·rw[if_neg h]
  refine .inl ⟨rfl,rfl,hsh,fun ho=>?_⟩
  rcases hsc ho with h1|h1
  ·exact h1
  ·cases hb:scalars xs with
   | true=>rfl
   | false=>exact absurd ⟨hb,h1,ho⟩ h
theorem qbJ {k:Nat}{dp dp':DP}{l xs:List D}{hs:List Hole}(hel : ∀ x∈l,x.cells.length=k) (hxl : ∀ x∈xs,x.cells.length=k) (hsc:qla k l.length dp dp' xs hs)
  (hbd : ∀ h∈hs,h.1*k+h.2.1<xs.length*k) (hsl:hs≠[]→∀ j,j<xs.length*k→qan k hs j=none→((flat xs).getD j .nil).scalar=true)
  {arr arr':Array Value}{rest:List Nat}(hr:RowRel S φ H w k dp (flat l) arr rest)
  (e1 : ∀ j,j<l.length*k→arr'.getD j undef=arr.getD j undef)
  (e2 : ∀ j,j<xs.length*k→SCell S φ H w ((flat xs).getD j .nil) (arr'.getD (l.length*k+j) undef) (qan k hs j)):RowRel S φ H w k dp' (flat (l++xs)) arr' rest:=by
 have hfl:=flat_length hel
 have hflx:=flat_length hxl
 have hget : ∀ j,(flat (l++xs)).getD j .nil=if j<l.length*k then(flat l).getD j .nil else(flat xs).getD (j-l.length*k) .nil:=by
  intro j
  rw[qcn]
  simp only[List.getD]
  by_cases hj:j<(flat l).length
  ·rw[List.getElem?_append_left hj,if_pos (by omega)]
  ·rw[List.getElem?_append_right (by omega),if_neg (by omega),hfl]
 have hlen:(flat (l++xs)).length=l.length*k+xs.length*k:=by rw[qcn,List.length_append,hfl,hflx]
 have foot : ∀ (F:Nat→List Nat),(List.range (flat l).length).flatMap F=(List.range (flat (l++xs)).length).flatMap (fun j=>if j<l.length*k then F j else []):=by
  intro F
  rw[hlen,hfl,List.range_add,List.flatMap_append]
  have p1:(List.range (l.length*k)).flatMap (fun j=>if j<l.length*k then F j else [])=(List.range (l.length*k)).flatMap F:=by
   simp only[List.flatMap]
   congr 1
   apply List.map_congr_left
   intro j hj
   rw[if_pos (List.mem_range.1 hj)]
  have p2:((List.range (xs.length*k)).map (l.length*k + ·)).flatMap (fun j=>if j<l.length*k then F j else [])=[]:=by
   rw[List.flatMap_eq_nil_iff]
   intro j hj
   obtain⟨m,_,rfl⟩:=List.mem_map.1 hj
   rw[if_neg (by omega)]
  rw[p1,p2,List.append_nil]
 rcases hsc with⟨rfl,rfl,_,hsc⟩|⟨hne,rfl,rfl⟩|⟨rfl,hl0,hx0,rfl,rfl⟩
 ·cases dp' with
  | fz=>
   refine⟨hr.1,fun j hj=>?_⟩
   rw[hget]
   split
   ·rename_i hjl
    rw[e1 j hjl]
    exact hr.2 j (by omega)
   ·rename_i hjl
    have:=e2 (j-l.length*k) (by omega)
    rw[show l.length*k+(j-l.length*k)=j by omega] at this
    exact this
  | own h0=>
   obtain⟨F,rfl,hw,hF⟩:=hr
   refine⟨fun j=>if j<l.length*k then F j else [],foot F,fun h hm=>?_,fun j hj=>?_⟩
   ·have:=hw h hm;omega
   rw[hget]
   by_cases hjl:j<l.length*k
   ·simp only[if_pos hjl]
    rw[e1 j hjl]
    exact hF j (by omega)
   ·simp only[if_neg hjl]
    have:=e2 (j-l.length*k) (by omega)
    rw[show l.length*k+(j-l.length*k)=j by omega] at this
    have hn:qan k h0 j=none:=by
     have : ∀ {hs:List Hole},(∀ h∈hs,h.1*k+h.2.1<(flat l).length)→qan k hs j=none:=by
      intro hs
      induction hs with
      | nil=>intro _;rfl
      | cons x r ih=>
       intro hb
       obtain⟨a,b,c⟩:=x
       simp only[qan]
       have:=hb (a,b,c) (by simp)
       simp only at this
       rw[if_neg (by omega)]
       exact ih fun h hm=>hb h (by simp[hm])
     exact this hw
    rw[hn]
    exact qgG (S:=S) this (qbI (hsc rfl) _ (getD_mem (by omega)))
 ·obtain⟨F,rfl,hw,hF⟩:=hr
  refine⟨fun j=>if j<l.length*k then F j else [],foot F,fun h hm=>?_,fun j hj=>?_⟩
  ·simp only[qcd,List.mem_map] at hm
   obtain⟨h,hm,rfl⟩:=hm
   have:=hbd h hm
   simp only[Nat.add_mul]
   omega
  ·rw[hget]
   by_cases hjl:j<l.length*k
   ·simp only[if_pos hjl]
    rw[e1 j hjl,qdR hjl]
    exact hF j (by omega)
   ·simp only[if_neg hjl]
    obtain⟨m,rfl⟩ : ∃ m,j=l.length*k+m:=⟨j-l.length*k,by omega⟩
    have:=e2 m (by omega)
    rw[qel,show l.length*k+m-l.length*k=m by omega]
    generalize ho:qan k hs m=o at this
    cases o with
    | none=>exact qgG (S:=S) this (hsl hne m (by omega) ho)
    | some x=>exact⟨rfl,this.1,this.2.1,this.2.2⟩
 ·obtain rfl:l=[]:=List.eq_nil_of_length_eq_zero hl0
  obtain⟨F,rfl,hw,hF⟩:=hr
  refine⟨by simp[flat],fun j hj=>?_⟩
  rw[hget]
  simp only[List.length_nil,Nat.zero_mul,Nat.zero_add] at e2 hlen ⊢
  rw[if_neg (by omega)]
  exact e2 j (by omega)
theorem qbP (s:Sim S φ H w) {i g k:Nat}{dp dp':DP}{l xs:List D}(hi:H[i]?=some (.row g k dp l)) {fp':List Nat}{w':World}(u:Upd φ w i fp' w') (hk:0<k)
  (hel : ∀ z∈l++xs,z.cells.length=k) (ho : ∀ c∈flat (l++xs),c.one=true) (hlim:(l++xs).length≤lim)
  (hrr:(fp'=[]∧l++xs=[])∨∃ b rest arr ty,fp'=b::rest∧w'.heap[b]?=some (.cells arr ty (0,0))∧(l++xs).length*k≤arr.size∧RowRel S φ H w k dp' (flat (l++xs)) arr rest∧∀ b∈rest,w'.heap[b]?=w.heap[b]?)
  {v':Value}(hsl:qhd w' fp' k 0 (l.length+xs.length) v') (ho1:v'.oneCell'=true) {m:Sem Value}(hrun:m.run P w=.ok v' w') :
  AppOK S φ H w ((do pure (.value (←m)):Sem Next).run P w) (.sl i (g+1) k 0 (l.length+xs.length)) (H.set i (.row (g+1) k dp' (l++xs))):=by
 have hlt:i<H.length:=(List.getElem?_eq_some_iff.1 hi).1
 have hgetD:H.getD i (.dead 0)=.row g k dp l:=by simp[List.getD,hi]
 have hφ : i < φ.length:=by rw[s.len];exact hlt
 have hH':(H.set i (.row (g+1) k dp' (l++xs)))[i]?=some (.row (g+1) k dp' (l++xs)):=by simp[hlt]
 obtain⟨q1,q2,q3⟩:=s.update hlt u (r':=.row (g+1) k dp' (l++xs)) (by rw[hgetD];exact Nat.le_succ g) (by
  intro g'' k'' dp'' l'' e''
  simp at e''
  left
  rw[hgetD]
  simp only[R.gen]
  omega) (by simp) (by simp) (by simp) (fun t=>⟨hk,hel,ho,hlim,by
   rcases hrr with h|⟨b,rest,arr,ty,e1,e2,e3,e4,e5⟩
   ·exact .inl h
   ·exact .inr ⟨b,rest,arr,ty,e1,e2,e3,e4.keep t e5⟩⟩)
 refine⟨v',w',_,.inl (by simp[hrun]),q1,q2,q3,.sl (by simp[hlt]) (by simp[List.getD,hH',R.gen]) (fun dp' l' hl'=>?_) ho1,qja s u (fun cs e=>by rw[hi] at e;simp at e)⟩
 rw[hH'] at hl'
 simp at hl'
 obtain⟨rfl,rfl⟩:=hl'
 refine⟨?_,by simp⟩
 rw[qcZ,if_pos ⟨rfl,hφ⟩]
 exact hsl
set_option maxHeartbeats 400000 in
theorem qhm (hT:TOK P T) (s:Sim S φ H w) {t t' ty:Nat}{d x:I}{vd vx:Value}(hd:V S φ H w d vd) (hx:V S φ H w x vx) {vc:Prop}{y:I}{H':List R}
  (h:qb5 T H t t' d x=some (vc,y,H')) (hvc:vc) :
  AppOK S φ H w ((do pure (.value (←Builtin.append_ #[t,t'] ty #[vd,vx])):Sem Next).run P w) y H':=by
 unfold qb5 at h
 split at h
 ·rename_i ti hti
  have ht:=hT _ _ hti
  split at h
  ·rename_i e hy
   split at h
   ·rename_i ei hei
    have he:=hT _ _ hei
    have hu:=ht.und_slice hy
    obtain⟨i0,d0,i1,i2,i3,i4,i5,i6⟩:=he.ex
    have fromNil : ∀ {xs:List D}{hs:List Hole}{dp':DP},d=.d .nil→t=t'→SrcX S φ H w ei.size xs hs vx→0<ei.size→xs.length*ei.bytes≤140737488355328→0<ei.bytes→(xs=[]→hs=[])→
      (hs=[]∧dp'=.ofB (scalars xs))∨(hs≠[]∧dp'=.own hs)→
      AppOK S φ H w ((do pure (.value (←Builtin.append_ #[t,t'] ty #[vd,vx])):Sem Next).run P w) (.sl H.length 0 ei.size 0 xs.length) (H ++ [.row 0 ei.size dp' xs]):=by
      rintro xs hs' dp' rfl rfl hs hk hby hb0 hxh hdp
      have hdz:=hd.fz
      cases hdz
      obtain⟨a,cap,rfl,hne⟩:=hs.ex
      by_cases hx0:xs=[]
      ·subst hx0
       obtain⟨φ',a1,a2,a3,a4⟩:=qf9 s (k:=ei.size) dp' hk
       exact⟨_,_,φ',.inl (by simp[qeV t ty e ht he hy none 0 0 (Nat.le_refl _) a cap w]),a1,a2,a3,a4,qdt s (Agree.refl w)⟩
      ·obtain⟨b,off,rfl,news,hl,hnews,hz⟩:=hne hx0
       have hlim:=qbY hby hb0
       have hr:=run_append_nil (P:=P) w t ty e i0 (qac ei.zero) hu i1 i4 ⟨b,off,none⟩ xs.length cap news (by rw[i2];exact hl) hnews (by have:=List.length_pos_iff.2 hx0;omega)
        (by have:=hlim.2;unfold maxLen at this;omega) (by rw[i3];omega)
       have hz0:(qac ei.zero).cells.size=ei.size:=(qca he hk).2.2
       obtain⟨n1,n2⟩:=qeW (olds:=[]) (n:=0) (news:=news) (m:=xs.length) (k:=ei.size) (c:=grownCap w xs.length 0 e) (z:=(qac ei.zero).cells) (by simp) hl hz0 (by have:=grownCap_ge w xs.length 0 e;omega)
       simp only[Nat.zero_add] at n1 n2
       have hfl:=flat_length hs.len
       obtain⟨φ',a1,a2,a3,a4⟩:=qeQ s (k:=ei.size) (l:=xs) (dp:=dp') (cap:=grownCap w xs.length 0 e) hk hs.len hs.one hs.lim (grownCap_ge w _ _ _) (grownCap_le_maxLen w _ _ _ hlim.2) (Nat.le_of_eq n1.symm) e (qdi s _) (heap_alloc_new w.drew _)
        (by
         have hcz : ∀ j,j<(flat xs).length→SCell S φ H w ((flat xs).getD j .nil) ((([]:List Value).toArray++news.toArray++Builtin.zeroCells (qac ei.zero).cells (grownCap w xs.length 0 e-xs.length)).getD j undef) (qan ei.size hs' j):=fun j hj=>by
          rw[hfl] at hj
          rw[n2 j hj,if_neg (by omega)]
          simpa using hz j hj
         rcases hdp with⟨rfl,rfl⟩|⟨hne,rfl⟩
         ·exact qej _ (fun hd=>qbI hd) hcz
         ·refine⟨fun _=>[],by simp,fun h hm=>by rw[hfl];exact hs.bound h hm,fun j hj=>?_⟩
          have:=hcz j hj
          generalize ho:qan ei.size hs' j=o at this
          cases o with
          | none=>exact qgG (S:=S) this (hs.scal hne j (by omega) ho)
          | some x=>exact⟨rfl,this.1,this.2.1,this.2.2⟩)
       have e0:([]:List Value).toArray++news.toArray=news.toArray:=by simp
       rw[e0] at a1 a2 a3 a4
       exact⟨_,_,φ',.inl (by simp[hr]),a1,a2,a3,a4,qdt s fun b hb=>heap_alloc_old w.drew _ hb⟩
    have fromRow : ∀ {xs:List D}{hs:List Hole}{dp dp':DP}{i g n:Nat}{l:List D},d=.sl i g ei.size 0 n→H[i]?=some (.row g ei.size dp l)→t=t'→SrcX S φ H w ei.size xs hs vx→n=l.length→
      qla ei.size l.length dp dp' xs hs→(xs=[]→hs=[])→(n+xs.length)*ei.bytes≤140737488355328→0<ei.bytes→
      AppOK S φ H w ((do pure (.value (←Builtin.append_ #[t,t'] ty #[vd,vx])):Sem Next).run P w) (.sl i (g+1) ei.size 0 (n+xs.length)) (H.set i (.row (g+1) ei.size dp' (l++xs))):=by
       rintro xs hs' dp dp' i g n l rfl hi rfl hs rfl hsc hxh hby hb0
       have hlim:=qbY hby hb0
       obtain⟨a,cap,rfl,hne⟩:=hs.ex
       have hlt:i<H.length:=(List.getElem?_eq_some_iff.1 hi).1
       have hgetD:H.getD i (.dead 0)=.row g ei.size dp l:=by simp[List.getD,hi]
       have hφ : i < φ.length:=by rw[s.len];exact hlt
       obtain⟨hk,hel,ho1,hlim',hrel⟩:=s.rel i _ hi
       have hfl:=flat_length hel
       have hflx:=flat_length hs.len
       have hel' : ∀ z∈l++xs,z.cells.length=ei.size:=fun z hz=>by
        rcases List.mem_append.1 hz with h|h
        ·exact hel z h
        ·exact hs.len z h
       have ho1' : ∀ c∈flat (l++xs),c.one=true:=fun c hc=>by
        rw[qcn] at hc
        rcases List.mem_append.1 hc with h|h
        ·exact ho1 c h
        ·exact hs.one c h
       have hH':(H.set i (.row (g+1) ei.size dp' (l++xs)))[i]?=some (.row (g+1) ei.size dp' (l++xs)):=by simp[hlt]
       cases hd with
       | sl hlt' hg hdr hone=>
        obtain⟨hsl,hle⟩:=hdr dp l hi
        have hkeepS : ∀ {w':World},(∀ b,b<w.heap.size→b∉φ.getD i []→w'.heap[b]?=w.heap[b]?)→∀ b,S b→w'.heap[b]?=w.heap[b]?:=fun hk b hb=>hk b (s.slt b hb) fun hm=>s.off b ⟨i,hm⟩ hb
        by_cases hx0:xs=[]
        ·subst hx0
         obtain rfl:=hxh rfl
         obtain rfl:dp'=dp:=by
          rcases hsc with⟨_,h,_⟩|⟨h,_⟩|⟨_,_,h,_⟩
          ·exact h
          ·exact absurd rfl h
          ·exact absurd rfl h
         simp only[List.append_nil,List.length_nil,Nat.add_zero] at *
         have u:Upd φ w i (φ.getD i []) w:=⟨rfl,rfl,rfl,Nat.le_refl _,fun _ _ _=>rfl,s.nd i,fun b hb=>⟨.inl hb,s.lt b ⟨i,hb⟩⟩⟩
         have hrun : ∃ base n cap',vd=.slice base n cap'∧n≤cap'∧n=l.length:=by
          rcases hsl with⟨_,_,hl0,rfl⟩|⟨b,rest,cap',arr,ty',a',hfp,rfl,hn,_⟩
          ·exact⟨none,0,0,rfl,Nat.le_refl _,hl0.symm⟩
          ·exact⟨_,_,_,rfl,hn,rfl⟩
         obtain⟨base,n,cap',rfl,hnc,hn⟩:=hrun
         have:=qbP (P:=P) (xs:=[]) s hi u hk (by simpa using hel) (by simpa using ho1) (by simpa using hlim') (by
          rcases hrel with h|⟨b,rest,arr,ty,e1,e2,e3,e4⟩
          ·exact .inl (by simpa using h)
          ·exact .inr ⟨b,rest,arr,ty,e1,e2,by simpa using e3,by simpa using e4,fun _ _=>rfl⟩) (by simpa using hsl) rfl (qeV t ty e ht he hy base n cap' hnc a cap w)
         simpa using this
        ·obtain⟨b,off,rfl,news,hl,hnews,hz⟩:=hne hx0
         have hpos:=List.length_pos_iff.2 hx0
         have hz0:(qac ei.zero).cells.size=ei.size:=(qca he hk).2.2
         have hone':=qk9 hl hs.len hs.one hz
         have grown : ∀ (olds:List Value) (old:Nat) (rest:List Nat) (arr:Array Value),olds.length=l.length*ei.size→(∀ j,j<l.length*ei.size→olds.getD j undef=arr.getD j undef)→RowRel S φ H w ei.size dp (flat l) arr rest→(∀ b∈rest,b∈φ.getD i [])→rest.Nodup→
           (Builtin.append_ #[t,t] ty #[vd,.slice (some ⟨b,off,none⟩) xs.length cap]).run P w=.ok (.slice (some ⟨w.heap.size,0,none⟩) (l.length+xs.length) (grownCap w (l.length+xs.length) old e))
            (w.drew.alloc (.cells (olds.toArray++news.toArray++Builtin.zeroCells (qac ei.zero).cells (grownCap w (l.length+xs.length) old e-(l.length+xs.length))) e))→
           AppOK S φ H w ((do pure (.value (←Builtin.append_ #[t,t] ty #[vd,.slice (some ⟨b,off,none⟩) xs.length cap])):Sem Next).run P w) (.sl i (g+1) ei.size 0 (l.length+xs.length)) (H.set i (.row (g+1) ei.size dp' (l++xs))):=by
          intro olds old rest arr ho he1 hrr hsub hnd hrun
          obtain⟨n1,n2⟩:=qeW (olds:=olds) (n:=l.length) (news:=news) (m:=xs.length) (k:=ei.size) (c:=grownCap w (l.length+xs.length) old e) (z:=(qac ei.zero).cells) ho hl hz0 (grownCap_ge w _ _ _)
          have hkeep : ∀ b',b'<w.heap.size→(w.drew.alloc (.cells (olds.toArray++news.toArray++Builtin.zeroCells (qac ei.zero).cells (grownCap w (l.length+xs.length) old e-(l.length+xs.length))) e)).heap[b']?=w.heap[b']?:=fun b' hb'=>heap_alloc_old w.drew _ hb'
          have u:Upd φ w i (w.heap.size::rest) (w.drew.alloc (.cells (olds.toArray++news.toArray++Builtin.zeroCells (qac ei.zero).cells (grownCap w (l.length+xs.length) old e-(l.length+xs.length))) e)):=by
           refine⟨rfl,rfl,rfl,by simp,fun b' hb' _=>hkeep b' hb',List.nodup_cons.2 ⟨fun hm=>?_,hnd⟩,fun b' hb'=>?_⟩
           ·have:=s.lt _ ⟨i,hsub _ hm⟩;omega
           ·rcases List.mem_cons.1 hb' with rfl|hb'
            ·exact⟨.inr (Nat.le_refl _),by simp⟩
            ·have:=s.lt _ ⟨i,hsub _ hb'⟩
             exact⟨.inl (hsub _ hb'),by simp;omega⟩
          have hbn:=heap_alloc_new w.drew (.cells (olds.toArray++news.toArray++Builtin.zeroCells (qac ei.zero).cells (grownCap w (l.length+xs.length) old e-(l.length+xs.length))) e)
          have hcap:=grownCap_ge w (l.length+xs.length) old e
          have hcm:=grownCap_le_maxLen w (l.length+xs.length) old e hlim.2
          have hmk:(l.length+xs.length)*ei.size≤grownCap w (l.length+xs.length) old e*ei.size:=Nat.mul_le_mul_right _ hcap
          have hrow:=qbJ hel hs.len hsc hs.bound hs.scal hrr (arr':=olds.toArray++news.toArray++Builtin.zeroCells (qac ei.zero).cells (grownCap w (l.length+xs.length) old e-(l.length+xs.length))) (by
            intro j hj
            rw[n2 j (by rw[Nat.add_mul];omega),if_pos hj]
            exact he1 j hj) (by
            intro j hj
            rw[n2 _ (by rw[Nat.add_mul];omega),if_neg (by omega)]
            simpa using hz j hj)
          have hsl':qhd (w.drew.alloc (.cells (olds.toArray++news.toArray++Builtin.zeroCells (qac ei.zero).cells (grownCap w (l.length+xs.length) old e-(l.length+xs.length))) e)) (w.heap.size::rest) ei.size 0 (l.length+xs.length)
            (.slice (some ⟨w.heap.size,0,none⟩) (l.length+xs.length) (grownCap w (l.length+xs.length) old e)):=
           .inr ⟨_,rest,_,_,e,_,rfl,rfl,hcap,hcm,hlim.1,hbn,fun _=>⟨by simp,by rw[n1];omega⟩⟩
          exact qbP (P:=P) s hi u hk hel' ho1' (by rw[List.length_append];exact hlim.1) (.inr ⟨_,rest,_,e,rfl,hbn,by rw[List.length_append,n1];exact hmk,hrow,fun b' hb'=>hkeep b' (s.lt _ ⟨i,hsub _ hb'⟩)⟩) hsl' rfl hrun
         rcases hsl with⟨hfp,_,hl0,rfl⟩|⟨b',rest,cap',arr,ty',a',hfp,rfl,hn,hcm,hlim2,hb,hfit⟩
         ·have hlnil:l=[]:=List.eq_nil_of_length_eq_zero hl0
          subst hlnil
          have hr:=run_append_nil (P:=P) w t ty e i0 (qac ei.zero) hu i1 i4 ⟨b,off,none⟩ xs.length cap news (by rw[i2];exact hl) hnews (by omega)
           (by have:=hlim.2;unfold maxLen at this;simp at this;omega) (by rw[i3];simp at hby;omega)
          refine grown [] 0 [] #[] (by simp) (by simp) ?_ (by simp) (by simp) (by simpa using hr)
          cases dp with
          | fz=>exact⟨rfl,by simp[flat]⟩
          | own h0=>
           rcases hrel with⟨_,_⟩|⟨b2,rest2,arr2,ty2,e1,_⟩
           ·cases h0 with
            | nil=>exact⟨fun _=>[],by simp[flat],by simp,by simp[flat]⟩
            | cons x r=>
             rcases hsc with⟨_,_,h,_⟩|⟨_,h,_⟩|⟨_,_,_,h,_⟩
             ·simp[DP.shut] at h
             ·simp at h
             ·simp at h
           ·rw[hfp] at e1;simp at e1
         ·obtain⟨rfl,hfit'⟩:=hfit (.inr rfl)
          simp only[Nat.zero_mul,Nat.zero_add] at hfit' ⊢
          simp only[Nat.zero_mul] at grown
          have hrow:RowRel S φ H w ei.size dp (flat l) arr rest∧l.length*ei.size≤arr.size:=by
           rcases hrel with⟨e1,_⟩|⟨b2,rest2,arr2,ty2,e1,e2,e3,e4⟩
           ·rw[hfp] at e1;simp at e1
           ·rw[hfp] at e1
            simp at e1
            obtain⟨rfl,rfl⟩:=e1
            rw[hb] at e2
            simp at e2
            obtain⟨rfl,rfl⟩:=e2
            exact⟨e4,e3⟩
          have hndi:=s.nd i
          rw[hfp] at hndi
          by_cases hroom:l.length+xs.length≤cap'
          ·have hmk:(l.length+xs.length)*ei.size≤cap'*ei.size:=Nat.mul_le_mul_right _ hroom
           rw[Nat.add_mul] at hmk
           have hr:=run_append_room' t ty e ht he hy w b' l.length cap' arr ty' hb ⟨b,off,none⟩ xs.length cap news hl hnews hone' hroom (by omega)
           have hb2:=setRow_heap w b' arr (stored' arr (l.length*ei.size) news) ty' (0,0) hb
           have hsz2:=qbj arr (l.length*ei.size) news (by omega)
           have hk2 : ∀ b2,b2≠b'→(w.setRow b' (stored' arr (l.length*ei.size) news)).heap[b2]?=w.heap[b2]?:=fun b2 h2=>setRow_other w b' b2 _ h2
           have hrow':=qbJ hel hs.len hsc hs.bound hs.scal hrow.1 (arr':=stored' arr (l.length*ei.size) news) (by
             intro j hj
             rw[qaN _ _ _ (by omega),if_neg (by omega)]) (by
             intro j hj
             rw[qaN _ _ _ (by omega),if_pos (by omega)]
             simpa using hz j hj)
           have hsl':qhd (w.setRow b' (stored' arr (l.length*ei.size) news)) (b'::rest) ei.size 0 (l.length+xs.length) (.slice (some ⟨b',0,none⟩) (l.length+xs.length) cap'):=
            .inr ⟨b',rest,cap',_,ty',_,rfl,rfl,hroom,hcm,hlim.1,hb2,fun _=>⟨by simp,by rw[hsz2];omega⟩⟩
           exact qbP (P:=P) s hi (qd5 s hfp (stored' arr (l.length*ei.size) news)) hk hel' ho1' (by rw[List.length_append];exact hlim.1)
            (.inr ⟨b',rest,_,ty',rfl,hb2,by rw[List.length_append,hsz2,Nat.add_mul];omega,hrow',fun b2 h2=>hk2 b2 fun e=>(List.nodup_cons.1 hndi).1 (e▸h2)⟩) hsl' rfl hr
          ·have h63:((l.length+xs.length:Nat):Int)≤9223372036854775807:=by have:=hlim.2;unfold maxLen at this;omega
           have hfit2:Builtin.nextslicecap (l.length+xs.length) cap'*i0.bytes≤281474976710656:=growslice_fits (by omega) (by rw[i3];exact hby)
           have hl2:news.length=xs.length*i0.size:=by rw[i2];exact hl
           have ho2:((List.range (l.length*ei.size)).map fun j=>arr.getD j undef).length=l.length*i0.size:=by simp[i2]
           have hr:=run_append_grow (P:=P) w t ty e i0 (qac ei.zero) hu i1 i4 ⟨b',0,none⟩ l.length cap' ((List.range (l.length*ei.size)).map fun j=>arr.getD j undef) ho2 (by
             intro j v hj
             have hjl:j<l.length*ei.size:=by
              by_cases hlt:j<l.length*ei.size
              ·exact hlt
              ·rw[List.getElem?_eq_none (by simpa using hlt)] at hj;simp at hj
             simp[hjl] at hj
             rw[Addr.add_lit,cell_of_row w b' _ arr ty' (0,0) hb,←hj]
             have:j<arr.size:=by omega
             simp[this]) ⟨b,off,none⟩ xs.length cap news hl2 hnews (by omega) h63 hfit2
           exact grown ((List.range (l.length*ei.size)).map fun j=>arr.getD j undef) cap' rest arr (by simp) (fun j hj=>by simp[List.getD,hj]) hrow.1 (fun b2 h2=>by rw[hfp];simp[h2]) (List.nodup_cons.1 hndi).2 hr
    have noX : ∀ {xs:List D}{hs:List Hole},SrcX S φ H w ei.size xs hs vx→xs=[]→hs=[]:=by
     rintro xs hs h rfl
     cases hs with
     | nil=>rfl
     | cons x r=>exact absurd (h.bound x (by simp)) (by simp)
    split at h
    ·rename_i vcs xs hsrc
     split at h
     ·simp only[Option.some.injEq,Prod.mk.injEq] at h
      obtain⟨rfl,rfl,rfl⟩:=h
      have hs:=qc8 s hx hsrc hvc.2.1
      exact fromNil rfl hvc.1 hs hvc.2.2.1 hvc.2.2.2.1 hvc.2.2.2.2 (noX hs) (.inl ⟨rfl,rfl⟩)
     ·rename_i i g k lo n
      split at h
      ·rename_i g' k' dp l hi
       simp only[Option.some.injEq,Prod.mk.injEq] at h
       obtain⟨rfl,rfl,rfl⟩:=h
       obtain⟨e1,hvcs,rfl,rfl,rfl,rfl,hn,hsh,hsc,hby,hb0⟩:=hvc
       have hs:=qc8 s hx hsrc hvcs
       exact fromRow rfl hi e1 hs hn (qip hsh hsc) (noX hs) hby hb0
      ·simp at h
     ·simp at h
    ·rename_i vcs xs h0 hs0 hsrc
     split at h
     ·simp only[Option.some.injEq,Prod.mk.injEq] at h
      obtain⟨rfl,rfl,rfl⟩:=h
      have hs:=qc8 s hx hsrc hvc.2.1
      exact fromNil rfl hvc.1 hs hvc.2.2.1 hvc.2.2.2.1 hvc.2.2.2.2 (noX hs) (.inr ⟨by simp,rfl⟩)
     ·rename_i i g k lo n
      split at h
      ·rename_i g' k' l hi
       simp only[Option.some.injEq,Prod.mk.injEq] at h
       obtain⟨rfl,rfl,rfl⟩:=h
       obtain⟨e1,hvcs,rfl,rfl,rfl,rfl,hn,hby,hb0⟩:=hvc
       have hs:=qc8 s hx hsrc hvcs
       exact fromRow rfl hi e1 hs hn (.inr (.inl ⟨by simp,rfl,rfl⟩)) (noX hs) hby hb0
      ·simp at h
     ·simp at h
    ·simp at h
   ·simp at h
  ·simp at h
 ·simp at h
def qjc (T:Nat→Option TI) (H:List R) (t t':Nat) (d x:I):Option (Prop×I×List R):=
 match T t,T t',d,x with
 | some ti,some ti',.d .nil,.d (.int .i64 n)=>
  match ti.ty,ti'.ty with
  | .slice e,.int .i64=>
   match T e with
   | some ei=>some (0<n∧n*(ei.bytes:Int)≤140737488355328∧0<ei.bytes∧ei.size=1∧ei.zero.scalar=true,
     .sl H.length 0 1 0 n.toNat,H ++ [.row 0 1 (.own []) (List.replicate n.toNat ei.zero)])
   | none=>none
  | _,_=>none
 | _,_,_,_=>none
theorem qjd (hT:TOK P T) (s:Sim S φ H w) {t t' ty:Nat}{d x:I}{vd vx:Value}(hd:V S φ H w d vd) (hx:V S φ H w x vx) {vc:Prop}{y:I}{H':List R}
  (h:qjc T H t t' d x=some (vc,y,H')) (hvc:vc) :
  AppOK S φ H w ((do pure (.value (←Builtin.append_ #[t,t'] ty #[vd,vx])):Sem Next).run P w) y H':=by
 unfold qjc at h
 split at h
 ·rename_i ti ti' n hti hti'
  split at h
  ·rename_i e hy hy'
   split at h
   ·rename_i ei hei
    have ht:=hT _ _ hti
    have ht':=hT _ _ hti'
    have he:=hT _ _ hei
    simp only[Option.some.injEq,Prod.mk.injEq] at h
    obtain⟨rfl,rfl,rfl⟩:=h
    obtain⟨hn0,hby,hb0,hs1,hzs⟩:=hvc
    obtain⟨i0,d0,i1,i2,i3,i4,i5,i6⟩:=he.ex
    have hdz:=hd.fz
    cases hdz
    have hxz:=hx.fz
    cases hxz
    obtain⟨m,rfl⟩ : ∃ m:Nat,n=(m:Int):=⟨n.toNat,by omega⟩
    simp only[Int.toNat_natCast]
    have hby':m*ei.bytes≤140737488355328:=by
     have:((m*ei.bytes:Nat):Int)≤140737488355328:=by rw[Int.natCast_mul];exact hby
     omega
    have hlim:=qbY hby' hb0
    have hr:=Lib.run_append_nil_zeros (P:=P) w t t' ty e i0 (qac ei.zero) .i64 .i64 (ht.und_slice hy) (ht'.und_int hy') i1 i4 m (by omega) (by rw[i2,hs1];exact Nat.one_pos)
     (by have:=hlim.2;unfold maxLen at this;omega) (by rw[i3];omega)
    have hz1:FZ S w ei.zero (qac ei.zero):=qd1 he.const
    have hone1:ei.zero.one=true:=by
     cases hq:ei.zero <;> first|rfl|(rw[hq] at hzs;simp[D.scalar] at hzs)
    have hcells:(qac ei.zero).cells = #[qac ei.zero]:=by
     have:=hz1.one hone1
     cases hv:qac ei.zero <;> first|rfl|(rw[hv] at this;simp[Value.oneCell'] at this)
    have hfl:flat (List.replicate m ei.zero)=List.replicate m ei.zero:=by
     have:ei.zero.cells=[ei.zero]:=by cases hq:ei.zero <;> first|rfl|(rw[hq] at hzs;simp[D.scalar] at hzs)
     unfold flat
     rw[List.flatMap_replicate]
     simp[this]
    have hgc:=grownCap_ge w m 0 e
    have hsz:(Builtin.zeroCells (qac ei.zero).cells m++Builtin.zeroCells (qac ei.zero).cells (grownCap w m 0 e-m)).size=grownCap w m 0 e:=by
     rw[hcells]
     simp[Builtin.zeroCells]
     omega
    have hget : ∀ j,j<m→(Builtin.zeroCells (qac ei.zero).cells m++Builtin.zeroCells (qac ei.zero).cells (grownCap w m 0 e-m)).getD j undef=qac ei.zero:=by
     intro j hj
     rw[hcells]
     rw[Array.getD_eq_getD_getElem?,Array.getElem?_append]
     simp[Builtin.zeroCells,hj,Nat.mod_one]
    obtain⟨φ',a1,a2,a3,a4⟩:=qeQ s (k:=1) (l:=List.replicate m ei.zero) (dp:=.own []) (cap:=grownCap w m 0 e)
     (arr:=Builtin.zeroCells (qac ei.zero).cells m++Builtin.zeroCells (qac ei.zero).cells (grownCap w m 0 e-m)) Nat.one_pos
     (fun z hz=>by rw[List.eq_of_mem_replicate hz,he.size,hs1]) (fun c hc=>by rw[hfl] at hc;rw[List.eq_of_mem_replicate hc];exact hone1)
     (by rw[List.length_replicate];exact hlim.1) (by rw[List.length_replicate];exact hgc) (grownCap_le_maxLen w _ _ _ hlim.2) (by rw[hsz];omega) e (qdi s _) (heap_alloc_new w.drew _)
     (by
      rw[hfl]
      refine⟨fun _=>[],by simp,by simp,fun j hj=>?_⟩
      rw[List.length_replicate] at hj
      rw[hget j hj]
      have g1:(List.replicate m ei.zero).getD j .nil=ei.zero:=by simp[List.getD,hj]
      rw[g1]
      exact qgG (S:=S) hz1 hzs)
    rw[List.length_replicate] at a4
    exact⟨_,_,φ',.inl (by simp[hr]),a1,a2,a3,a4,qdt s fun b hb=>heap_alloc_old w.drew _ hb⟩
   ·simp at h
  ·simp at h
 ·simp at h
theorem qd7 (t tn ty e:TypeId) {ti tj ei:TI}(ht:TIOK P t ti) (htn:TIOK P tn tj) (he:TIOK P e ei) (hy:ti.ty=.slice e) (hyn:tj.ty=.int .i64) (base:Option Addr) (n cap:Nat) (hn:n≤cap) (w:World) :
  (Builtin.append_ #[t,tn] ty #[.slice base n cap,.int .i64 (0:Nat)]).run P w=.ok (.slice base n cap) w:=by
 have hu:=ht.und_slice hy
 have hv:=htn.und_int hyn
 obtain⟨i0,d0,i1,i2,i3,i4,i5,i6⟩:=he.ex
 have hw:IntKind.i64.wrap (0:Int)=0:=by rw[IntKind.wrap_i64];omega
 cases base <;> simp[Builtin.append_,run_underlying hu,run_underlying hv,sizeOf,typeInfo,zeroValue,i1,i4,asInt,asIntOf,hw,Builtin.lenOf,hn,storeCells]
theorem qcS (t tn ty e:TypeId) {ti tj ei:TI}(ht:TIOK P t ti) (htn:TIOK P tn tj) (he:TIOK P e ei) (hy:ti.ty=.slice e) (hyn:tj.ty=.int .i64) (w:World) (g sLen sCap:Nat) (cur:Array Value) (ty':TypeId) (hg:w.heap[g]?=some (.cells cur ty' (0,0)))
  (hs:ei.size=1) (hc:(qac ei.zero).cells = #[qac ei.zero]) (h1:(qac ei.zero).oneCell'=true) (q:Nat) (hq:0<q) (h63:(q:Int)≤9223372036854775807) (h48:q*ei.bytes≤281474976710656) (hroom:sLen+q≤sCap) (hfit:sLen+q≤cur.size) :
  (Builtin.append_ #[t,tn] ty #[.slice (some ⟨g,0,none⟩) sLen sCap,.int .i64 q]).run P w =
   .ok (.slice (some ⟨g,0,none⟩) (sLen+q) sCap) (w.setRow g (stored' cur sLen (List.replicate q (qac ei.zero)))):=by
 have hu:=ht.und_slice hy
 have hv:=htn.und_int hyn
 obtain⟨i,d,i1,i2,i3,i4,i5,i6⟩:=he.ex
 have hst:=run_storeCells_at P g sLen ty' (List.replicate q (qac ei.zero)) 0 cur w hg (by simpa using hfit) (fun u hu=>by rw[List.eq_of_mem_replicate hu];exact h1)
 simp only[Nat.add_zero] at hst
 have hz:(Builtin.zeroCells #[qac ei.zero] q).toList=List.replicate q (qac ei.zero):=by
  refine List.ext_getElem (by simp[Builtin.zeroCells]) fun j h1 h2=>?_
  simp[Builtin.zeroCells,Nat.mod_one]
 have hw:IntKind.i64.wrap (q:Int)=q:=by rw[IntKind.wrap_i64];omega
 have hneg : ¬ ((q:Int)<0):=by omega
 have hq0:q≠0:=by omega
 have h48i : ¬ (281474976710656<(q:Int)*(i.bytes:Int)):=by
  rw[←Int.natCast_mul,i3]
  omega
 have h63' : ¬ (9223372036854775807<(q:Int)):=by omega
 have i2':i.size=1:=by rw[i2,hs]
 simp[Builtin.append_,run_underlying hu,run_underlying hv,sizeOf,typeInfo,zeroValue,i1,i4,i2',asInt,asIntOf,hw,hneg,hq0,h48i,h63',Builtin.lenOf,hroom,hc,hz,Addr.add_lit,hst,stored']
def qje (T:Nat→Option TI) (H:List R) (t t':Nat) (d x:I):Option (Prop×I×List R):=
 match T t,T t',d,x with
 | some ti,some ti',.sl i g k lo m,.d (.int .i64 n)=>
  match ti.ty,ti'.ty with
  | .slice e,.int .i64=>
   match T e,H[i]? with
   | some ei,some (.row g' k' (.own []) l)=>some (0≤n∧g=g'∧k'=1∧k=1∧lo=0∧m=l.length∧(m+n)*(ei.bytes:Int)≤140737488355328∧0<ei.bytes∧ei.size=1∧ei.zero.scalar=true,
     .sl i (g+1) 1 0 (m+n.toNat),H.set i (.row (g+1) 1 (.own []) (l++List.replicate n.toNat ei.zero)))
   | _,_=>none
  | _,_=>none
 | _,_,_,_=>none
theorem qjf (hT:TOK P T) (s:Sim S φ H w) {t t' ty:Nat}{d x:I}{vd vx:Value}(hd:V S φ H w d vd) (hx:V S φ H w x vx) {vc:Prop}{y:I}{H':List R}
  (h:qje T H t t' d x=some (vc,y,H')) (hvc:vc) :
  AppOK S φ H w ((do pure (.value (←Builtin.append_ #[t,t'] ty #[vd,vx])):Sem Next).run P w) y H':=by
 unfold qje at h
 split at h
 ·rename_i ti ti' i g k lo m n hti hti'
  split at h
  ·rename_i e hy hy'
   split at h
   ·rename_i ei g' k' l hei hi
    have ht:=hT _ _ hti
    have ht':=hT _ _ hti'
    have he:=hT _ _ hei
    simp only[Option.some.injEq,Prod.mk.injEq] at h
    obtain⟨rfl,rfl,rfl⟩:=h
    obtain⟨hn0,rfl,rfl,rfl,rfl,rfl,hby,hb0,hs1,hzs⟩:=hvc
    obtain⟨i0,d0,i1,i2,i3,i4,i5,i6⟩:=he.ex
    have hxz:=hx.fz
    cases hxz
    obtain⟨q,rfl⟩ : ∃ q:Nat,n=(q:Int):=⟨n.toNat,by omega⟩
    simp only[Int.toNat_natCast]
    have hby':(l.length+q)*ei.bytes≤140737488355328:=by
     have:(((l.length+q)*ei.bytes:Nat):Int)≤140737488355328:=by rw[Int.natCast_mul,Int.natCast_add];exact hby
     omega
    have hlim:=qbY hby' hb0
    have hz1:FZ S w ei.zero (qac ei.zero):=qd1 he.const
    have hone1:ei.zero.one=true:=by
     cases hq:ei.zero <;> first|rfl|(rw[hq] at hzs;simp[D.scalar] at hzs)
    have hv1:=hz1.one hone1
    have hcells:(qac ei.zero).cells = #[qac ei.zero]:=by
     cases hv:qac ei.zero <;> first|rfl|(rw[hv] at hv1;simp[Value.oneCell'] at hv1)
    have hfl:flat (List.replicate q ei.zero)=List.replicate q ei.zero:=by
     have:ei.zero.cells=[ei.zero]:=by cases hq:ei.zero <;> first|rfl|(rw[hq] at hzs;simp[D.scalar] at hzs)
     unfold flat
     rw[List.flatMap_replicate]
     simp[this]
    have hq48:q*ei.bytes≤281474976710656:=by
     have:q*ei.bytes≤(l.length+q)*ei.bytes:=Nat.mul_le_mul_right _ (by omega)
     omega
    generalize hxs:List.replicate q ei.zero=xs at *
    have hxlen:xs.length=q:=by rw[←hxs];simp
    have hxmem : ∀ z∈xs,z=ei.zero:=fun z hz=>by rw[←hxs] at hz;exact List.eq_of_mem_replicate hz
    have hxl : ∀ z∈xs,z.cells.length=1:=fun z hz=>by rw[hxmem z hz,he.size,hs1]
    have hsc:qla 1 l.length (.own []) (.own []) xs []:=.inl ⟨rfl,rfl,rfl,fun _=>by
     rw[←hxs]
     have e1:ei.zero.cells=[ei.zero]:=by cases hq:ei.zero <;> first|rfl|(rw[hq] at hzs;simp[D.scalar] at hzs)
     have key : ∀ q:Nat,scalars (List.replicate q ei.zero)=true:=fun q=>by
      induction q with
      | zero=>rfl
      | succ q ih=>
       rw[List.replicate_succ]
       simp only[scalars,ih,e1,List.all_cons,List.all_nil,hzs,Bool.and_self]
     exact key _⟩
    have hlt:i<H.length:=(List.getElem?_eq_some_iff.1 hi).1
    obtain⟨hk,hel,ho1,hlim',hrel⟩:=s.rel i _ hi
    have hel' : ∀ z∈l++xs,z.cells.length=1:=fun z hz=>by
     rcases List.mem_append.1 hz with h|h
     ·exact hel z h
     ·exact hxl z h
    have ho1' : ∀ c∈flat (l++xs),c.one=true:=fun c hc=>by
     rw[qcn] at hc
     rcases List.mem_append.1 hc with h|h
     ·exact ho1 c h
     ·rw[hfl] at h;rw[hxmem c h];exact hone1
    have hlim2:(l++xs).length≤lim:=by rw[List.length_append,hxlen];exact hlim.1
    have hzc : ∀ j,j<q→SCell S φ H w ((flat xs).getD j .nil) (qac ei.zero) (qan 1 [] j):=fun j hj=>by
     have e:(flat xs).getD j .nil=ei.zero:=by rw[hfl];exact hxmem _ (by simp[List.getD,show j<xs.length by omega])
     rw[e]
     exact hz1
    subst hxlen
    cases hd with
    | sl hlt' hg hdr hone=>
     obtain⟨hsl,hle⟩:=hdr _ l hi
     by_cases hx0:xs=[]
     ·subst hx0
      simp only[List.append_nil,List.length_nil,Nat.add_zero]
      have u:Upd φ w i (φ.getD i []) w:=⟨rfl,rfl,rfl,Nat.le_refl _,fun _ _ _=>rfl,s.nd i,fun b hb=>⟨.inl hb,s.lt b ⟨i,hb⟩⟩⟩
      have hrun : ∃ base n cap',vd=.slice base n cap'∧n≤cap'∧n=l.length:=by
       rcases hsl with⟨_,_,hl0,rfl⟩|⟨b,rest,cap',arr,ty',a',hfp,rfl,hn,_⟩
       ·exact⟨none,0,0,rfl,Nat.le_refl _,hl0.symm⟩
       ·exact⟨_,_,_,rfl,hn,rfl⟩
      obtain⟨base,n,cap',rfl,hnc,hn⟩:=hrun
      have:=qbP (P:=P) (xs:=[]) s hi u hk (by simpa using hel) (by simpa using ho1) (by simpa using hlim') (by
       rcases hrel with h|⟨b,rest,arr,ty,e1,e2,e3,e4⟩
       ·exact .inl (by simpa using h)
       ·exact .inr ⟨b,rest,arr,ty,e1,e2,by simpa using e3,by simpa using e4,fun _ _=>rfl⟩) (by simpa using hsl) rfl (qd7 t t' ty e ht ht' he hy hy' base n cap' hnc w)
      simpa using this
     ·have hpos:=List.length_pos_iff.2 hx0
      have hz0:(qac ei.zero).cells.size=1:=by rw[hcells];rfl
      have hzr : ∀ c,Builtin.zeroCells (qac ei.zero).cells c=(List.replicate c (qac ei.zero)).toArray:=fun c=>by
       rw[hcells]
       refine Array.ext (by simp[Builtin.zeroCells]) fun j h1 h2=>?_
       simp[Builtin.zeroCells,Nat.mod_one]
      have grown : ∀ (olds:List Value) (old:Nat) (rest:List Nat) (arr:Array Value),olds.length=l.length→(∀ j,j<l.length→olds.getD j undef=arr.getD j undef)→RowRel S φ H w 1 (.own []) (flat l) arr rest→(∀ b∈rest,b∈φ.getD i [])→rest.Nodup→
        (Builtin.append_ #[t,t'] ty #[vd,.int .i64 (xs.length:Nat)]).run P w=.ok (.slice (some ⟨w.heap.size,0,none⟩) (l.length+xs.length) (grownCap w (l.length+xs.length) old e))
         (w.drew.alloc (.cells (olds.toArray++Builtin.zeroCells (qac ei.zero).cells xs.length++Builtin.zeroCells (qac ei.zero).cells (grownCap w (l.length+xs.length) old e-(l.length+xs.length))) e))→
        AppOK S φ H w ((do pure (.value (←Builtin.append_ #[t,t'] ty #[vd,.int .i64 (xs.length:Nat)])):Sem Next).run P w) (.sl i (g+1) 1 0 (l.length+xs.length)) (H.set i (.row (g+1) 1 (.own []) (l++xs))):=by
       intro olds old rest arr ho he1 hrr hsub hnd hrun
       rw[hzr xs.length] at hrun
       obtain⟨n1,n2⟩:=qeW (olds:=olds) (n:=l.length) (news:=List.replicate xs.length (qac ei.zero)) (m:=xs.length) (k:=1) (c:=grownCap w (l.length+xs.length) old e) (z:=(qac ei.zero).cells) (by omega) (by simp) hz0 (grownCap_ge w _ _ _)
       have hkeep : ∀ b',b'<w.heap.size→(w.drew.alloc (.cells (olds.toArray++(List.replicate xs.length (qac ei.zero)).toArray++Builtin.zeroCells (qac ei.zero).cells (grownCap w (l.length+xs.length) old e-(l.length+xs.length))) e)).heap[b']?=w.heap[b']?:=fun b' hb'=>heap_alloc_old w.drew _ hb'
       have u:Upd φ w i (w.heap.size::rest) (w.drew.alloc (.cells (olds.toArray++(List.replicate xs.length (qac ei.zero)).toArray++Builtin.zeroCells (qac ei.zero).cells (grownCap w (l.length+xs.length) old e-(l.length+xs.length))) e)):=by
        refine⟨rfl,rfl,rfl,by simp,fun b' hb' _=>hkeep b' hb',List.nodup_cons.2 ⟨fun hm=>?_,hnd⟩,fun b' hb'=>?_⟩
        ·have:=s.lt _ ⟨i,hsub _ hm⟩;omega
        ·rcases List.mem_cons.1 hb' with rfl|hb'
         ·exact⟨.inr (Nat.le_refl _),by simp⟩
         ·have:=s.lt _ ⟨i,hsub _ hb'⟩
          exact⟨.inl (hsub _ hb'),by simp;omega⟩
       have hbn:=heap_alloc_new w.drew (.cells (olds.toArray++(List.replicate xs.length (qac ei.zero)).toArray++Builtin.zeroCells (qac ei.zero).cells (grownCap w (l.length+xs.length) old e-(l.length+xs.length))) e)
       have hcap:=grownCap_ge w (l.length+xs.length) old e
       have hcm:=grownCap_le_maxLen w (l.length+xs.length) old e hlim.2
       have hrow:=qbJ hel hxl hsc (by simp) (by simp) hrr (arr':=olds.toArray++(List.replicate xs.length (qac ei.zero)).toArray++Builtin.zeroCells (qac ei.zero).cells (grownCap w (l.length+xs.length) old e-(l.length+xs.length))) (by
         intro j hj
         rw[n2 j (by omega),if_pos hj]
         exact he1 j (by omega)) (by
         intro j hj
         rw[n2 _ (by omega),if_neg (by omega)]
         have e9:(List.replicate xs.length (qac ei.zero)).getD (l.length*1+j-l.length*1) undef=qac ei.zero:=by
          rw[Nat.add_sub_cancel_left,List.getD_eq_getElem?_getD,List.getElem?_replicate,if_pos (by omega)]
          rfl
         rw[e9]
         exact hzc j (by omega))
       have hsl':qhd (w.drew.alloc (.cells (olds.toArray++(List.replicate xs.length (qac ei.zero)).toArray++Builtin.zeroCells (qac ei.zero).cells (grownCap w (l.length+xs.length) old e-(l.length+xs.length))) e)) (w.heap.size::rest) 1 0 (l.length+xs.length)
         (.slice (some ⟨w.heap.size,0,none⟩) (l.length+xs.length) (grownCap w (l.length+xs.length) old e)):=
        .inr ⟨_,rest,_,_,e,_,rfl,rfl,hcap,hcm,hlim.1,hbn,fun _=>⟨by simp,by rw[n1];omega⟩⟩
       exact qbP (P:=P) s hi u hk hel' ho1' hlim2 (.inr ⟨_,rest,_,e,rfl,hbn,by rw[List.length_append,n1];omega,hrow,fun b' hb'=>hkeep b' (s.lt _ ⟨i,hsub _ hb'⟩)⟩) hsl' rfl hrun
      rcases hsl with⟨hfp,_,hl0,rfl⟩|⟨b',rest,cap',arr,ty',a',hfp,rfl,hn,hcm,hlim2',hb,hfit⟩
      ·have hlnil:l=[]:=List.eq_nil_of_length_eq_zero hl0
       subst hlnil
       have hr:=Lib.run_append_nil_zeros (P:=P) w t t' ty e i0 (qac ei.zero) .i64 .i64 (ht.und_slice hy) (ht'.und_int hy') i1 i4 xs.length hpos (by rw[i2,hs1];exact Nat.one_pos)
        (by have:=hlim.2;unfold maxLen at this;omega) (by rw[i3];omega)
       refine grown [] 0 [] #[] (by simp) (by simp) ⟨fun _=>[],by simp[flat],by simp,by simp[flat]⟩ (by simp) (by simp) ?_
       simpa using hr
      ·obtain⟨rfl,hfit'⟩:=hfit (.inr rfl)
       simp only[Nat.zero_mul,Nat.zero_add] at hfit' ⊢
       simp only[Nat.zero_mul] at grown
       have hrow:RowRel S φ H w 1 (.own []) (flat l) arr rest∧l.length*1≤arr.size:=by
        rcases hrel with⟨e1,_⟩|⟨b2,rest2,arr2,ty2,e1,e2,e3,e4⟩
        ·rw[hfp] at e1;simp at e1
        ·rw[hfp] at e1
         simp at e1
         obtain⟨rfl,rfl⟩:=e1
         rw[hb] at e2
         simp at e2
         obtain⟨rfl,rfl⟩:=e2
         exact⟨e4,e3⟩
       have hndi:=s.nd i
       rw[hfp] at hndi
       by_cases hroom:l.length+xs.length≤cap'
       ·have hr:=qcS t t' ty e ht ht' he hy hy' w b' l.length cap' arr ty' hb hs1 hcells hv1 xs.length hpos (by have:=hlim.2;unfold maxLen at this;omega) hq48 hroom (by omega)
        have hb2:=setRow_heap w b' arr (stored' arr l.length (List.replicate xs.length (qac ei.zero))) ty' (0,0) hb
        have hsz2:=qbj arr l.length (List.replicate xs.length (qac ei.zero)) (by simp;omega)
        have hk2 : ∀ b2,b2≠b'→(w.setRow b' (stored' arr l.length (List.replicate xs.length (qac ei.zero)))).heap[b2]?=w.heap[b2]?:=fun b2 h2=>setRow_other w b' b2 _ h2
        have hrow':=qbJ hel hxl hsc (by simp) (by simp) hrow.1 (arr':=stored' arr l.length (List.replicate xs.length (qac ei.zero))) (by
          intro j hj
          rw[qaN _ _ _ (by simp;omega),if_neg (by omega)]) (by
          intro j hj
          rw[qaN _ _ _ (by simp;omega),if_pos (by simp;omega)]
          have e9:(List.replicate xs.length (qac ei.zero)).getD (l.length*1+j-l.length) undef=qac ei.zero:=by
           rw[Nat.mul_one,Nat.add_sub_cancel_left,List.getD_eq_getElem?_getD,List.getElem?_replicate,if_pos (by omega)]
           rfl
          rw[e9]
          exact hzc j (by omega))
        have hsl':qhd (w.setRow b' (stored' arr l.length (List.replicate xs.length (qac ei.zero)))) (b'::rest) 1 0 (l.length+xs.length) (.slice (some ⟨b',0,none⟩) (l.length+xs.length) cap'):=
         .inr ⟨b',rest,cap',_,ty',_,rfl,rfl,hroom,hcm,hlim.1,hb2,fun _=>⟨by simp,by rw[hsz2];omega⟩⟩
        exact qbP (P:=P) s hi (qd5 s hfp (stored' arr l.length (List.replicate xs.length (qac ei.zero)))) hk hel' ho1' hlim2
         (.inr ⟨b',rest,_,ty',rfl,hb2,by rw[List.length_append,hsz2];omega,hrow',fun b2 h2=>hk2 b2 fun e=>(List.nodup_cons.1 hndi).1 (e▸h2)⟩) hsl' rfl hr
       ·have hfit2:Builtin.nextslicecap (l.length+xs.length) cap'*i0.bytes≤281474976710656:=growslice_fits (by omega) (by rw[i3];exact hby')
        have hold:(Builtin.firstCells i0.size l.length (.slice (some ⟨b',0,none⟩) l.length cap')).run P w.drew=.ok ((List.range l.length).map fun j=>arr.getD j undef).toArray w.drew:=by
         refine run_firstCells_some (P:=P) w.drew i0.size l.length ⟨b',0,none⟩ l.length cap' _ (by simp[i2,hs1]) fun j v hj=>?_
         have hjl:j<l.length:=by
          by_cases hlt:j<l.length
          ·exact hlt
          ·rw[List.getElem?_eq_none (by simpa using hlt)] at hj;simp at hj
         simp[hjl] at hj
         have hbd:w.drew.heap[b']?=some (.cells arr ty' (0,0)):=hb
         rw[Addr.add_lit,cell_of_row w.drew b' _ arr ty' (0,0) hbd,←hj]
         have:j<arr.size:=by omega
         simp[this]
        have hr:=Lib.run_append_grow_zeros (P:=P) w t t' ty e i0 (qac ei.zero) .i64 .i64 (ht.und_slice hy) (ht'.und_int hy') i1 i4 (some ⟨b',0,none⟩) l.length cap' _ hold xs.length hpos (by rw[i2,hs1];exact Nat.one_pos) (by omega)
         (by have:=hlim.2;unfold maxLen at this;omega) (by rw[i3];exact hq48) hfit2
        exact grown ((List.range l.length).map fun j=>arr.getD j undef) cap' rest arr (by simp) (fun j hj=>by simp[List.getD,hj]) hrow.1 (fun b2 h2=>by rw[hfp];simp[h2]) (List.nodup_cons.1 hndi).2 hr
   ·simp at h
  ·simp at h
 ·simp at h
def sApp (T:Nat→Option TI) (H:List R) (t t':Nat) (d x:I):Option (Prop×I×List R):=
 match qjc T H t t' d x with
 | some r=>some r
 | none=>
  match qje T H t t' d x with
  | some r=>some r
  | none=>qb5 T H t t' d x
theorem qlb (hT:TOK P T) (s:Sim S φ H w) {t t' ty:Nat}{d x:I}{vd vx:Value}(hd:V S φ H w d vd) (hx:V S φ H w x vx) {vc:Prop}{y:I}{H':List R}
  (h:sApp T H t t' d x=some (vc,y,H')) (hvc:vc) :
  AppOK S φ H w ((do pure (.value (←Builtin.append_ #[t,t'] ty #[vd,vx])):Sem Next).run P w) y H':=by
 unfold sApp at h
 split at h
 ·rename_i r hz
  cases h
  exact qjd hT s hd hx hz hvc
 ·split at h
  ·rename_i r hz
   cases h
   exact qjf hT s hd hx hz hvc
  ·exact qhm hT s hd hx h hvc
theorem qiq (hT:TOK P T) (s:Sim S φ H w) {t t' ty:Nat}{d x:I}{vd vx:Value}(hd:V S φ H w d vd) (hx:V S φ H w x vx) {vc:Prop}{y:I}{H':List R}
  (h:sApp T H t t' d x=some (vc,y,H')) (hvc:vc) :
  qb9 S φ H w ((do pure (.value (←Builtin.append_ #[t,t'] ty #[vd,vx])):Sem Next).run P w) y H':=(qlb hT s hd hx h hvc).step
end Go.VL
namespace Go.VL
variable {P:Program}{S:Nat→Prop}{φ : List (List Nat)}{H:List R}{w:World}{T:Nat→Option TI}{fr:Fr}{a:Act}
def qaA (l:List D) (lo:Nat) (xs:List D):List D:=l.take lo++xs++l.drop (lo+xs.length)
def qir (T:Nat→Option TI) (H:List R) (t t':Nat) (d x:I):Option (Prop×I×List R):=
 match T t with
 | some ti=>
  match ti.ty with
  | .slice e=>
   match T e with
   | some ei=>
    match srcD H ei.size x,d with
    | some (vc,xs),.sl i g k lo n=>
     match H[i]? with
     | some (.row g' k' dp l)=>some (vc∧g=g'∧k=k'∧k=ei.size∧ei.size=1∧xs.length≤n∧lo+n≤l.length∧xs.all D.scalar=true∧l.all D.scalar=true,
       .d (.int .i64 (xs.length:Nat)),H.set i (.row g' k' dp (qaA l lo xs)))
     | _=>none
    | _,_=>none
   | none=>none
  | _=>none
 | none=>none
theorem qgM {x:D}(h:x.scalar=true):x.cells=[x]:=by cases x <;> first|rfl|simp[D.scalar] at h
theorem qjg {l:List D}(h:l.all D.scalar=true):flat l=l∧(∀ x∈l,x.cells.length=1)∧scalars l=true:=by
 induction l with
 | nil=>exact⟨rfl,by simp,rfl⟩
 | cons x r ih=>
  simp only[List.all_cons,Bool.and_eq_true] at h
  obtain⟨i1,i2,i3⟩:=ih h.2
  have hx:=qgM h.1
  refine⟨?_,?_,?_⟩
  ·simp only[flat,List.flatMap_cons,hx] at i1 ⊢
   rw[i1];rfl
  ·intro y hy
   rcases List.mem_cons.1 hy with rfl|hy
   ·rw[hx];rfl
   ·exact i2 y hy
  ·simp[scalars,hx,h.1,i3]
theorem qjh (t t' ty e:TypeId) {ti ei:TI}(ht:TIOK P t ti) (he:TIOK P e ei) (hy:ti.ty=.slice e) (base:Option Addr) (n cap:Nat) (a:Option Addr) (c:Nat) (w:World) :
  (Builtin.copy_ #[t,t'] ty #[.slice base n cap,.slice a 0 c]).run P w=.ok (goInt 0) w:=by
 have hu:=ht.und_slice hy
 have hf:(Builtin.firstCells ei.size 0 (.slice a 0 c)).run P w=.ok #[] w:=by
  cases a <;> simp[Builtin.firstCells,loadCells,loadCellsFrom]
 simp[Builtin.copy_,Sem.run_bind,run_underlying hu,Result.andThen_ok,he.run_sizeOf,Builtin.lenOf,hf]
 cases base <;> simp[storeCells]
theorem qeX (l:List D) (lo:Nat) (xs:List D) (h:lo+xs.length≤l.length) (j:Nat):(qaA l lo xs).getD j .nil=if lo≤j∧j<lo+xs.length then xs.getD (j-lo) .nil else l.getD j .nil:=by
 have hm:min lo l.length=lo:=by omega
 simp only[qaA,List.getD]
 by_cases h1:j<lo
 ·rw[if_neg (by omega),List.append_assoc,List.getElem?_append_left (by simp;omega)]
  simp[h1]
 ·by_cases h2:j<lo+xs.length
  ·rw[if_pos (by omega),List.getElem?_append_left (by simp;omega),List.getElem?_append_right (by simp;omega)]
   simp[hm]
  ·rw[if_neg (by omega),List.getElem?_append_right (by simp;omega)]
   simp only[List.length_append,List.length_take,hm,List.getElem?_drop]
   congr 2
   omega
theorem qhn (hT:TOK P T) (s:Sim S φ H w) {t t' ty:Nat}{d x:I}{vd vx:Value}(hd:V S φ H w d vd) (hx:V S φ H w x vx) {vc:Prop}{y:I}{H':List R}
  (h:qir T H t t' d x=some (vc,y,H')) (hvc:vc) :
  qb9 S φ H w ((do pure (.value (←Builtin.copy_ #[t,t'] ty #[vd,vx])):Sem Next).run P w) y H':=by
 unfold qir at h
 split at h
 ·rename_i ti hti
  have ht:=hT _ _ hti
  split at h
  ·rename_i e hy
   split at h
   ·rename_i ei hei
    have he:=hT _ _ hei
    have hu:=ht.und_slice hy
    split at h
    ·rename_i vcs xs i g k lo n hsrc
     split at h
     ·rename_i g' k' dp l hi
      simp only[Option.some.injEq,Prod.mk.injEq] at h
      obtain⟨rfl,rfl,rfl⟩:=h
      obtain⟨hvcs,rfl,rfl,hke,hk1,hxn,hlo,hsx,hsl⟩:=hvc
      have hs:=qfF s hx hsrc hvcs
      obtain⟨a,cap,rfl,hne⟩:=hs.ex
      obtain⟨fx1,fx2,fx3⟩:=qjg hsx
      obtain⟨fl1,fl2,fl3⟩:=qjg hsl
      have hk1':k=1:=by omega
      have hlim:InK .i64 (xs.length:Int):=qeO hs.lim
      have hlen':(qaA l lo xs).length=l.length:=by simp[qaA];omega
      have hall:(qaA l lo xs).all D.scalar=true:=by
       simp only[List.all_eq_true] at hsx hsl ⊢
       intro z hz
       simp only[qaA,List.mem_append] at hz
       rcases hz with(hz|hz)|hz
       ·exact hsl z (List.mem_of_mem_take hz)
       ·exact hsx z hz
       ·exact hsl z (List.mem_of_mem_drop hz)
      obtain⟨fs1,fs2,fs3⟩:=qjg hall
      cases hd with
      | sl hlt hg hdr hone=>
       obtain⟨hslr,hle⟩:=hdr dp l hi
       by_cases hx0:xs=[]
       ·subst hx0
        have hself:H.set i (.row g k dp (qaA l lo []))=H:=by
         have:qaA l lo []=l:=by simp[qaA]
         rw[this]
         apply List.ext_getElem?
         intro j
         rw[List.getElem?_set]
         split
         ·subst_vars;simp[hlt,←hi]
         ·rfl
        have hvd : ∃ base n cap',vd=.slice base n cap':=by
         rcases hslr with⟨_,_,_,rfl⟩|⟨b,rest,cap',arr,ty',a',hfp,rfl,_⟩
         ·exact⟨_,_,_,rfl⟩
         ·exact⟨_,_,_,rfl⟩
        obtain⟨base,n',cap',rfl⟩:=hvd
        rw[hself]
        refine⟨_,w,φ,.inl ?_,s,Tr.refl (Nat.le_refl _),Ext.refl ..,.d (.int hlim)⟩
        simp[qjh t t' ty e ht he hy,goInt]
       ·obtain⟨b,off,rfl,news,hl,hnews,hz⟩:=hne hx0
        have hpos:=List.length_pos_iff.2 hx0
        rw[←hke,hk1',Nat.mul_one] at hl
        rw[←hke,hk1',Nat.mul_one,fx1] at hz
        rcases hslr with⟨_,_,hn0,_⟩|⟨b',rest,cap',arr,ty',a',hfp,rfl,hn,hcm,hlim2,hb,hfit⟩
        ·omega
        ·obtain⟨rfl,hfit'⟩:=hfit (.inl (by omega))
         obtain⟨hk,hel,ho1,hlim',hrel⟩:=s.rel i _ hi
         have hrow:RowRel S φ H w k dp (flat l) arr rest∧l.length*k≤arr.size:=by
          rcases hrel with⟨e1,_⟩|⟨b2,rest2,arr2,ty2,e1,e2,e3,e4⟩
          ·rw[hfp] at e1;simp at e1
          ·rw[hfp] at e1
           simp at e1
           obtain⟨rfl,rfl⟩:=e1
           rw[hb] at e2
           simp at e2
           obtain⟨rfl,rfl⟩:=e2
           exact⟨e4,e3⟩
         subst hk1'
         simp only[Nat.mul_one] at *
         have hone' : ∀ u∈news,u.oneCell'=true:=by
          intro u hu
          obtain⟨j,hj,rfl⟩:=List.getElem_of_mem hu
          rw[qak _ _ _ undef]
          refine(hz j (by omega)).one (hs.one _ ?_)
          rw[fx1]
          exact getD_mem (by omega)
         obtain⟨i0,d0,i1,i2,i3,i4,i5,i6⟩:=he.ex
         have hr:=run_copy_row (P:=P) w t t' ty e b' lo n cap' ⟨b,off,none⟩ xs.length cap arr ty' news hu (by simp[i1,i2,hk1]) hb (by rw[hl];exact(Nat.min_eq_left hxn).symm) hnews (by omega) hone'
         have hst:(arr.toList.take lo++news++arr.toList.drop (lo+news.length)).toArray=stored' arr lo news:=rfl
         rw[hst] at hr
         obtain⟨φ',a1,a2,a3⟩:=qhk s hi hfp hb (arr':=stored' arr lo news) (l':=qaA l lo xs) (qbj _ _ _ (by omega)) fs2 (by
          intro c hc
          rw[fs1] at hc
          simp only[List.all_eq_true] at hall
          have:=hall c hc
          cases c <;> first|rfl|simp[D.scalar] at this) hlen' (List.Sublist.refl _) (by
          rw[fs1]
          refine qd6 (l:=l) (by have:=hrow.1;rw[fl1] at this;exact this) hlen' ?_
          intro j hj
          rw[qeX l lo xs (by omega),qaN _ _ _ (by omega),hl]
          by_cases hin:lo≤j∧j<lo+xs.length
          ·rw[if_pos hin,if_pos hin]
           simp only[List.all_eq_true] at hsx hsl
           exact .inr ⟨fun _=>⟨hsl _ (getD_mem hj),hsx _ (getD_mem (by omega))⟩,hz _ (by omega)⟩
          ·rw[if_neg hin,if_neg hin]
           exact .inl ⟨rfl,rfl⟩)
         refine⟨_,_,φ',.inl ?_,a1,a2,a3,.d (.int hlim)⟩
         simp[hr,goInt,hl]
     ·simp at h
    ·simp at h
   ·simp at h
  ·simp at h
 ·simp at h
def qfG (T:Nat→Option TI) (H:List R) (t:Nat) (d:I):Option (Prop×I×List R):=
 match T t with
 | some ti=>
  match ti.ty with
  | .slice e=>
   match T e with
   | some ei=>
    match d with
    | .sl i g k lo n=>
     match H[i]? with
     | some (.row g' k' dp l)=>some (g=g'∧k=k'∧k=ei.size∧ei.size=1∧ei.zero.scalar=true∧l.all D.scalar=true,
       .d (.tup []),H.set i (.row g' k' dp (qaA l lo (List.replicate n ei.zero))))
     | _=>none
    | _=>none
   | none=>none
  | _=>none
 | none=>none
theorem qgc (v:Value) (n:Nat):(Builtin.zeroCells #[v] n).toList=List.replicate n v:=by
 unfold Builtin.zeroCells
 apply List.ext_getElem
 ·simp
 ·intro j h1 h2
  simp[Nat.mod_one]
theorem qgN (hT:TOK P T) (s:Sim S φ H w) {t ty:Nat}{d:I}{vd:Value}(hd:V S φ H w d vd) {vc:Prop}{y:I}{H':List R}
  (h:qfG T H t d=some (vc,y,H')) (hvc:vc) :
  qb9 S φ H w ((do pure (.value (←Builtin.clear_ #[t] ty #[vd])):Sem Next).run P w) y H':=by
 unfold qfG at h
 split at h
 ·rename_i ti hti
  have ht:=hT _ _ hti
  split at h
  ·rename_i e hy
   split at h
   ·rename_i ei hei
    have he:=hT _ _ hei
    have hu:=ht.und_slice hy
    split at h
    ·rename_i i g k lo n
     split at h
     ·rename_i g' k' dp l hi
      simp only[Option.some.injEq,Prod.mk.injEq] at h
      obtain⟨rfl,rfl,rfl⟩:=h
      obtain⟨rfl,rfl,hke,hk1,hzs,hsl⟩:=hvc
      obtain⟨fl1,fl2,fl3⟩:=qjg hsl
      have hk1':k=1:=by omega
      have htup:V S φ H w (.d (.tup [])) (.tuple #[]):=.d (.tup rfl fun j hj=>by simp at hj)
      cases hd with
      | sl hlt hg hdr hone=>
       obtain⟨hslr,hle⟩:=hdr dp l hi
       have hall:(qaA l lo (List.replicate n ei.zero)).all D.scalar=true:=by
        simp only[List.all_eq_true] at hsl ⊢
        intro z hz
        simp only[qaA,List.mem_append] at hz
        rcases hz with(hz|hz)|hz
        ·exact hsl z (List.mem_of_mem_take hz)
        ·rw[(List.mem_replicate.1 hz).2];exact hzs
        ·exact hsl z (List.mem_of_mem_drop hz)
       have hlen':(qaA l lo (List.replicate n ei.zero)).length=l.length:=by simp[qaA];omega
       obtain⟨fs1,fs2,fs3⟩:=qjg hall
       by_cases hn0:n=0
       ·subst hn0
        have hself:H.set i (.row g k dp (qaA l lo (List.replicate 0 ei.zero)))=H:=by
         have:qaA l lo (List.replicate 0 ei.zero)=l:=by simp[qaA]
         rw[this]
         apply List.ext_getElem?
         intro j
         rw[List.getElem?_set]
         split
         ·subst_vars;simp[hlt,←hi]
         ·rfl
        rw[hself]
        refine⟨_,w,φ,.inl ?_,s,Tr.refl (Nat.le_refl _),Ext.refl ..,htup⟩
        rcases hslr with⟨_,_,_,rfl⟩|⟨b,rest,cap',arr,ty',a',hfp,rfl,_⟩
        ·simp[Builtin.clear_,run_underlying hu]
        ·cases a' <;> simp[Builtin.clear_,run_underlying hu]
       ·rcases hslr with⟨_,_,h0,_⟩|⟨b',rest,cap',arr,ty',a',hfp,rfl,hn,hcm,hlim2,hb,hfit⟩
        ·omega
        ·obtain⟨rfl,hfit'⟩:=hfit (.inl hn0)
         obtain⟨hk,hel,ho1,hlim',hrel⟩:=s.rel i _ hi
         have hrow:RowRel S φ H w k dp (flat l) arr rest∧l.length*k≤arr.size:=by
          rcases hrel with⟨e1,_⟩|⟨b2,rest2,arr2,ty2,e1,e2,e3,e4⟩
          ·rw[hfp] at e1;simp at e1
          ·rw[hfp] at e1
           simp at e1
           obtain⟨rfl,rfl⟩:=e1
           rw[hb] at e2
           simp at e2
           obtain⟨rfl,rfl⟩:=e2
           exact⟨e4,e3⟩
         subst hk1'
         simp only[Nat.mul_one] at *
         obtain⟨i0,d0,i1,i2,i3,i4,i5,i6⟩:=he.ex
         have hcz:qdF ei.zero=true:=he.const
         have hz1:FZ S w ei.zero (qac ei.zero):=qd1 hcz
         have hone1:ei.zero.one=true:=by
          cases hq:ei.zero <;> first|rfl|(rw[hq] at hzs;simp[D.scalar] at hzs)
         have hcells:(qac ei.zero).cells = #[qac ei.zero]:=by
          have:=hz1.one hone1
          cases hv:qac ei.zero <;> first|rfl|(rw[hv] at this;simp[Value.oneCell'] at this)
         have hones : ∀ u∈List.replicate n (qac ei.zero),u.oneCell'=true:=fun u hu=>by rw[(List.mem_replicate.1 hu).2];exact hz1.one hone1
         have hst:=run_storeCells_at P b' lo ty' (List.replicate n (qac ei.zero)) 0 arr w hb (by simp;omega) hones
         have hst2:(arr.toList.take lo++List.replicate n (qac ei.zero)++arr.toList.drop (lo+(List.replicate n (qac ei.zero)).length)).toArray=stored' arr lo (List.replicate n (qac ei.zero)):=rfl
         rw[Nat.add_zero,hst2] at hst
         obtain⟨φ',a1,a2,a3⟩:=qhk s hi hfp hb (arr':=stored' arr lo (List.replicate n (qac ei.zero))) (l':=qaA l lo (List.replicate n ei.zero)) (qbj _ _ _ (by simp;omega)) fs2 (by
          intro c hc
          rw[fs1] at hc
          simp only[List.all_eq_true] at hall
          have:=hall c hc
          cases c <;> first|rfl|simp[D.scalar] at this) hlen' (List.Sublist.refl _) (by
          rw[fs1]
          refine qd6 (l:=l) (by have:=hrow.1;rw[fl1] at this;exact this) hlen' ?_
          intro j hj
          rw[qeX l lo _ (by simp;omega),qaN _ _ _ (by simp;omega)]
          simp only[List.length_replicate]
          by_cases hin:lo≤j∧j<lo+n
          ·rw[if_pos hin,if_pos hin]
           have g1:(List.replicate n ei.zero).getD (j-lo) .nil=ei.zero:=by simp[List.getD,show j-lo<n by omega]
           have g2:(List.replicate n (qac ei.zero)).getD (j-lo) undef=qac ei.zero:=by simp[List.getD,show j-lo<n by omega]
           simp only[List.all_eq_true] at hsl
           rw[g1,g2]
           exact .inr ⟨fun _=>⟨hsl _ (getD_mem hj),hzs⟩,hz1⟩
          ·rw[if_neg hin,if_neg hin]
           exact .inl ⟨rfl,rfl⟩)
         refine⟨.tuple #[],_,φ',.inl ?_,a1,a2,a3,.d (.tup rfl fun j hj=>by simp at hj)⟩
         have hz:=qgc (qac ei.zero) n
         match n,hn0 with
         | n+1,_=>simp[Builtin.clear_,run_underlying hu,he.run_zero,hcells,hz,hst]
     ·simp at h
    ·simp at h
   ·simp at h
  ·simp at h
 ·simp at h
def qcr (T:Nat→Option TI) (H:List R) (t:Nat):Option (Prop×I×List R):=
 match T t with
 | some ⟨.map _ _,_,_,_⟩=>some (True,.map H.length,H ++ [.map []])
 | _=>none
theorem qfy (s:Sim S φ H w) {t:Nat}{vc:Prop}{y:I}{H':List R}(h:qcr T H t=some (vc,y,H')) :
  qb9 S φ H w (((do pure (.value (←Instr.makeMap t none)):Sem Next)).run P w) y H':=by
 unfold qcr at h
 split at h
 ·simp only[Option.some.injEq,Prod.mk.injEq] at h
  obtain⟨rfl,rfl,rfl⟩:=h
  obtain⟨h1,h2,h3⟩:=s.push (r':=.map []) (qcQ s (.map #[] 0)) (fun t=>⟨w.heap.size,#[],0,rfl,heap_alloc_new w _,trivial⟩)
  refine⟨_,_,_,.inl ?_,h1,h2,h3,.map (by simp) (fun es hes=>⟨w.heap.size,qbH s _,rfl⟩) rfl⟩
  simp[Instr.makeMap]
 ·simp at h
def qeY:D→Bool
 | .int _ _=>true
 | .bool _=>true
 | _=>false
theorem qis {x:D}{v:Value}(hx:qeY x=true) (h:FZ S w x v) : ∀ S' w',FZ S' w' x v:=by
 intro S' w'
 cases h <;> simp only[qeY,Bool.false_eq_true] at hx
 ·rename_i h;exact .int h
 ·exact .bool
def qa3 (T:Nat→Option TI) (H:List R) (t:Nat) (m k x:I):Option (Prop×List R):=
 match T t,m,k,x with
 | some ⟨.map kt _,_,_,_⟩,.map i,.d kd,.d xd=>
  match H[i]?,T kt with
  | some (.map es),some kti=>some (qb8 T kti.ty∧qaS kti.ty kd∧qaJ kti.ty es∧qeY xd=true,H.set i (.map (updD es kd xd)))
  | _,_=>none
 | _,_,_,_=>none
theorem qlc {ty:Ty}{x y:D}{v u:Value}(hx:qaS ty x) (hy:qaS ty y) (fx:FZ S w x v) (fy:FZ S w y u) (h:qcM x y=true):v=u∧Instr.sameBits 10000 u v=true:=by
 have ints : ∀ {cs ds:List D}{vs us:Array Value},cs.length=ds.length→intCells cs→intCells ds→cs.length=vs.size→ds.length=us.size→(∀ j,j<cs.length→FZ S w (cs.getD j .nil) (vs.getD j undef))→
   (∀ j,j<ds.length→FZ S w (ds.getD j .nil) (us.getD j undef))→qbF cs ds=true→vs=us∧Instr.sameBits 10000 (.agg us) (.agg vs)=true:=by
  intro cs ds vs us hl ic id hv hu fv fu he
  have hget : ∀ (cs ds:List D) (j:Nat),cs.length=ds.length→qbF cs ds=true→j<cs.length→(cs.getD j .nil).toInt=(ds.getD j .nil).toInt:=by
   intro cs
   induction cs with
   | nil=>intro ds j _ _ h;simp at h
   | cons c cs ih=>
    intro ds j hl he hj
    cases ds with
    | nil=>simp at hl
    | cons d ds=>
     simp only[qbF,Bool.and_eq_true,decide_eq_true_eq] at he
     cases j with
     | zero=>exact he.1
     | succ j=>exact ih ds j (by simpa using hl) he.2 (by simpa using hj)
  have hvu:vs=us:=by
   apply Array.ext (by omega)
   intro j h1 h2
   obtain⟨_,e1,_⟩:=(fv j (by omega)).int_inv (qaz ic j (by omega))
   obtain⟨_,e2,_⟩:=(fu j (by omega)).int_inv (qaz id j (by omega))
   rw[hget cs ds j hl he (by omega)] at e1
   have e3:=e1.trans e2.symm
   simpa [Array.getD,h1,h2] using e3
  refine⟨hvu,?_⟩
  subst hvu
  simp only[Instr.sameBits,beq_self_eq_true,Bool.true_and,List.all_eq_true]
  rintro⟨p,q⟩ hpq
  obtain⟨j,hj,he'⟩:=List.getElem_of_mem hpq
  simp only[List.getElem_zip,Prod.mk.injEq] at he'
  simp only[List.length_zip,Nat.min_self,Array.length_toList] at hj
  obtain⟨_,e1,_⟩:=(fv j (by omega)).int_inv (qaz ic j (by omega))
  simp only[Array.getD,hj,dite_true] at e1
  have e2:vs.toList[j]'(by simpa using hj)=.int .i64 (cs.getD j .nil).toInt:=by
   rw[Array.getElem_toList];exact e1
  rw[←he'.1,←he'.2,e2]
  simp[Instr.sameBits]
 cases ty with
 | int k=>
  simp only[qaS] at hx hy
  obtain⟨e1,rfl,_⟩:=fx.int_inv hx
  obtain⟨e2,rfl,_⟩:=fy.int_inv hy
  rw[e1,e2] at h
  simp only[qcM,decide_eq_true_eq] at h
  simp[Instr.sameBits,h]
 | struct fs=>
  cases x <;> simp only[qaS] at hx
  cases y <;> simp only[qaS] at hy
  cases fx with
  | agg l1 o1 f1=>
   cases fy with
   | agg l2 o2 f2=>
    obtain⟨e1,e2⟩:=ints (by omega) hx.2 hy.2 l1 l2 f1 f2 h
    exact⟨by rw[e1],e2⟩
 | array n e=>
  cases x <;> simp only[qaS] at hx
  cases y <;> simp only[qaS] at hy
  cases fx with
  | agg l1 o1 f1=>
   cases fy with
   | agg l2 o2 f2=>
    obtain⟨e1,e2⟩:=ints (by omega) hx.2 hy.2 l1 l2 f1 f2 h
    exact⟨by rw[e1],e2⟩
 | _=>simp only[qaS] at hx
theorem qgO {k v:D} : ∀ {es:List (D×D)}{i:Nat},qdp es k i=none→updD es k v=es ++ [(k,v)]
 | [],_,_=>rfl
 | x::r,i,h=>by
  simp only[qdp] at h
  split at h
  ·simp at h
  ·rename_i hb
   simp only[updD,hb,Bool.false_eq_true,if_false,List.cons_append]
   rw[qgO h]
theorem qfH {x:D×D}{e:MapEntry} : ∀ {es:List (D×D)}{l:List MapEntry},qeG es l→((∀ S w,FZ S w x.1 e.key)∧(∀ S w,FZ S w x.2 e.val))→qeG (es ++ [x]) (l ++ [e])
 | [],[],_,h=>⟨h,trivial⟩
 | [],_::_,h,_=>h.elim
 | _::_,[],h,_=>h.elim
 | y::r,f::l,h,h'=>⟨h.1,qfH h.2 h'⟩
theorem qgP {ty:Ty}{k v:D}{vk vv:Value}(hk:qaS ty k) (fk : ∀ S w,FZ S w k vk) (fv : ∀ S w,FZ S w v vv) : ∀ {es:List (D×D)}{l:List MapEntry}{i j:Nat}{d:D},qeG es l→qaJ ty es→qdp es k i=some (j,d)→
  i≤j∧∃ e,l[j-i]?=some e∧vk=e.key∧Instr.sameBits 10000 e.key vk=true∧qeG (updD es k v) (l.modify (j-i) fun e=>{ e with key:=vk,val:=vv })
 | [],_,_,_,_,_,_,h=>by simp[qdp] at h
 | _::_,[],_,_,_,h,_,_=>h.elim
 | x::r,f::l,i,j,d,h,ha,hf=>by
  simp only[qdp] at hf
  split at hf
  ·rename_i hb
   simp only[Option.some.injEq,Prod.mk.injEq] at hf
   obtain⟨rfl,rfl⟩:=hf
   obtain⟨e1,e2⟩:=qlc hk ha.1 (fk (fun _=>True) default) (h.1.1 _ _) hb
   refine⟨Nat.le_refl _,f,by simp,e1,e2,?_⟩
   simp only[updD,hb,if_true,Nat.sub_self,List.modify_zero_cons]
   exact⟨⟨fk,fv⟩,h.2⟩
  ·rename_i hb
   obtain⟨h1,e,h2,h3,h4,h5⟩:=qgP hk fk fv (v:=v) h.2 ha.2 hf
   have e1:j-i=(j-(i+1))+1:=by omega
   refine⟨by omega,e,by rw[e1,List.getElem?_cons_succ];exact h2,h3,h4,?_⟩
   simp only[updD,hb,Bool.false_eq_true,if_false,e1,List.modify_succ_cons]
   exact⟨h.1,h5⟩
theorem qho (s:Sim S φ H w) {i b:Nat}(hfp : φ.getD i []=[b]) (o:Obj) (hlt:b<w.heap.size):Upd φ w i [b] { w with heap:=w.heap.setIfInBounds b o }:=by
 refine⟨rfl,rfl,rfl,by simp,?_,by simp,?_⟩
 ·intro b' hb' hn
  rw[hfp] at hn
  have hne:b≠b':=fun h=>hn (by simp[h])
  simp[hne]
 ·intro b' hb'
  simp only[List.mem_singleton] at hb'
  subst hb'
  exact⟨.inl (by rw[hfp];simp),by simpa using hlt⟩
theorem qcC (hT:TOK P T) (s:Sim S φ H w) {t:Nat}{m k x:I}{vm vk vx:Value}(hm:V S φ H w m vm) (hk:V S φ H w k vk) (hx:V S φ H w x vx) {vc:Prop}{H':List R}
  (h:qa3 T H t m k x=some (vc,H')) (hvc:vc) : ∃ w' φ',(Instr.mapUpdate t vm vk vx).run P w=.ok () w'∧Sim S φ' H' w'∧Tr H.length S φ H w S φ' H' w'∧Ext S φ w S φ' w':=by
 unfold qa3 at h
 split at h
 ·rename_i kt et a1 a2 a3 i kd xd hti
  split at h
  ·rename_i es kti hi hkt
   simp only[Option.some.injEq,Prod.mk.injEq] at h
   obtain⟨rfl,rfl⟩:=h
   obtain⟨q1,q2,q3,q4⟩:=hvc
   have hu:=(hT _ _ hti).und_map rfl
   have hkk:=hT _ _ hkt
   have hlti:i<H.length:=(List.getElem?_eq_some_iff.1 hi).1
   cases hm with
   | map hlt hrel h1=>
    obtain⟨b,hfp,rfl⟩:=hrel es hi
    obtain⟨b',ents,clock,hfp',hb,hr⟩:=s.rel i _ hi
    rw[hfp] at hfp'
    simp only[List.cons.injEq,and_true] at hfp'
    subst hfp'
    have hltb:=s.lt b ⟨i,by rw[hfp];simp⟩
    have fk:=qi7 q2 hk.fz
    have fx:=qis q4 hx.fz
    obtain⟨r,r1,r2⟩:=qcN hT hkk q1 q2 fk hr q3
    have hc:=qcB hT hkk q1 q2 fk false w
    have fin : ∀ (ents':Array MapEntry) (clock':Nat),qmr (updD es kd xd) ents'→∃ φ',Sim S φ' (H.set i (.map (updD es kd xd))) { w with heap:=w.heap.setIfInBounds b (.map ents' clock') }∧
      Tr H.length S φ H w S φ' (H.set i (.map (updD es kd xd))) { w with heap:=w.heap.setIfInBounds b (.map ents' clock') }∧Ext S φ w S φ' { w with heap:=w.heap.setIfInBounds b (.map ents' clock') }:=by
     intro ents' clock' hm'
     have hgen:(H.getD i (.dead 0)).gen≤(R.map (updD es kd xd)).gen:=by simp[List.getD,hi,R.gen]
     obtain⟨p1,p2,p3⟩:=s.update hlti (qho s hfp (.map ents' clock') hltb) (r':=.map (updD es kd xd)) hgen (by intro g k dp l h;simp at h) (by intro cs h;simp at h)
      (fun es' _=>⟨es,hi,hfp.symm⟩) (by simp) (fun _=>⟨b,ents',clock',rfl,by simp[hltb],hm'⟩)
     exact⟨_,p1,p2,p3⟩
    cases hfi:qdp es kd 0 with
    | none=>
     rw[hfi] at r2
     subst r2
     obtain⟨φ',p1,p2,p3⟩:=fin (ents.push { key:=vk,val:=vx,born:=clock }) (clock+1) (by
      rw[qgO hfi]
      show qeG _ (ents.push _).toList
      rw[Array.toList_push]
      exact qfH hr ⟨fk,fx⟩)
     refine⟨_,φ',?_,p1,p2,p3⟩
     simp only[Instr.mapUpdate,Sem.run_bind,run_underlying hu,Result.andThen_ok,MapKept.run_getObj_map hb,hc,r1,MapKept.run_setObj_map _ hb]
    | some p=>
     obtain⟨j,d⟩:=p
     rw[hfi] at r2
     obtain⟨u,rfl,hu2⟩:=r2
     obtain⟨_,e,h2,h3,h4,h5⟩:=qgP q2 fk fx hr q3 hfi
     rw[Nat.sub_zero] at h2 h5
     obtain⟨φ',p1,p2,p3⟩:=fin (ents.modify j fun e=>{ e with key:=vk,val:=vx }) clock (by
      show qeG _ (ents.modify j _).toList
      rw[Array.toList_modify]
      exact h5)
     refine⟨_,φ',?_,p1,p2,p3⟩
     have h2':ents[j]?=some e:=by rw[←Array.getElem?_toList];exact h2
     simp only[Instr.mapUpdate,Sem.run_bind,run_underlying hu,Result.andThen_ok,MapKept.run_getObj_map hb,hc,r1,MapKept.run_setObj_map _ hb,Instr.keyThatStays,h2',Option.map_some,Option.getD_some,h4,if_true,Sem.run_pure]
  ·simp at h
 ·simp at h
def qaP (c:Prop):Option (Prop×I×List R)→Option (Prop×I×List R)
 | some (vc,x,H')=>some (c∧vc,x,H')
 | none=>none
def sopI (T:Nat→Option TI) (fr:Fr) (H:List R):Op→Option (Prop×I×List R)
 | .box e x=>qaP (evc fr x) (sBox T H e (evx fr x))
 | .alloc e=>qeR T H e
 | .buildSlice t len parts=>qaP (qaL fr parts.toList) (sLit T H t len (qaG fr parts.toList))
 | .makeSlice t l c=>qaP (evc fr l∧evc fr c) (qgH T H t (evx fr l) (evx fr c))
 | .store t p x=>
  match qeT T H t (evx fr p) (evx fr x) with
  | some (vc,H')=>some ((evc fr p∧evc fr x)∧vc,.junk,H')
  | none=>none
 | .makeMap t none=>qcr T H t
 | .mapUpdate t m k x=>
  match qa3 T H t (evx fr m) (evx fr k) (evx fr x) with
  | some (vc,H')=>some ((evc fr m∧evc fr k∧evc fr x)∧vc,.junk,H')
  | none=>none
 | .insert t m k x=>
  match qa3 T H t (evx fr m) (evx fr k) (evx fr x) with
  | some (vc,H')=>some ((evc fr m∧evc fr k∧evc fr x)∧vc,.junk,H')
  | none=>none
 | .call { callee:=.builtin .append,args,argTypes }=>
  match args.toList,argTypes.toList with
  | [d,x],[t,t']=>qaP (evc fr d∧evc fr x) (sApp T H t t' (evx fr d) (evx fr x))
  | _,_=>none
 | .call { callee:=.builtin .copy,args,argTypes }=>
  match args.toList,argTypes.toList with
  | [d,x],[t,t']=>qaP (evc fr d∧evc fr x) (qir T H t t' (evx fr d) (evx fr x))
  | _,_=>none
 | .call { callee:=.builtin .clear,args,argTypes }=>
  match args.toList,argTypes.toList with
  | [d],[t]=>qaP (evc fr d) (qfG T H t (evx fr d))
  | _,_=>none
 | _=>none
theorem qbB {c:Prop}{o:Option (Prop×I×List R)}{vc:Prop}{x:I}{H':List R}(h:qaP c o=some (vc,x,H')) (hvc:vc):c∧∃ vc',o=some (vc',x,H')∧vc':=by
 cases o with
 | none=>simp[qaP] at h
 | some p=>
  obtain⟨vc',x',H''⟩:=p
  simp only[qaP,Option.some.injEq,Prod.mk.injEq] at h
  obtain⟨rfl,rfl,rfl⟩:=h
  exact⟨hvc.1,vc',rfl,hvc.2⟩
set_option maxHeartbeats 1000000 in
theorem qbz (hT:TOK P T) (s:Sim S φ H w) (hf:FrR S φ H w fr a) {o:Oper}{vc:Prop}{x:I}{H':List R}(h:sopI T fr H o.op=some (vc,x,H')) (hvc:vc) :
  qb9 S φ H w ((execOp a.eval o).run P w) x H':=by
 obtain⟨dst,op,ty,pos,after,guard⟩:=o
 simp only at h
 cases op with
 | box e y=>
  obtain⟨hc,vc',h,hvc⟩:=qbB h hvc
  exact qin s (hf.evx y hc) h hvc
 | alloc e=>exact qgF hT s h hvc
 | buildSlice t len parts=>
  obtain⟨hc,vc',h,hvc⟩:=qbB h hvc
  obtain⟨h1,h2⟩:=qcq hf parts.toList hc
  have:=qio hT s h1 h2 h hvc
  have e:(parts.map fun(i,x)=>(i,a.eval x))=(parts.toList.map fun(i,x)=>(i,a.eval x)).toArray:=by
   rw[←Array.toList_map,Array.toArray_toList]
  rw[←e] at this
  exact this
 | makeSlice t l c=>
  obtain⟨hc,vc',h,hvc⟩:=qbB h hvc
  exact qhj hT s (hf.evx l hc.1) (hf.evx c hc.2) h hvc
 | store t p y=>
  simp only[sopI] at h
  split at h
  ·rename_i vc' H'' hst
   simp only[Option.some.injEq,Prod.mk.injEq] at h
   obtain⟨rfl,rfl,rfl⟩:=h
   exact qgL hT s (hf.evx p hvc.1.1) (hf.evx y hvc.1.2) hst hvc.2
  ·simp at h
 | makeMap t r=>
  cases r with
  | none=>exact qfy s h
  | some r=>simp[sopI] at h
 | mapUpdate t m k x=>
  simp only[sopI] at h
  split at h
  ·rename_i vc' H'' hst
   simp only[Option.some.injEq,Prod.mk.injEq] at h
   obtain⟨rfl,rfl,rfl⟩:=h
   obtain⟨w',φ',hr,p1,p2,p3⟩:=qcC hT s (hf.evx m hvc.1.1) (hf.evx k hvc.1.2.1) (hf.evx x hvc.1.2.2) hst hvc.2
   exact⟨undef,w',φ',.inr ⟨by simp[execOp,hr],rfl⟩,p1,p2,p3,.junk⟩
  ·simp at h
 | insert t m k x=>
  simp only[sopI] at h
  split at h
  ·rename_i vc' H'' hst
   simp only[Option.some.injEq,Prod.mk.injEq] at h
   obtain⟨rfl,rfl,rfl⟩:=h
   obtain⟨w',φ',hr,p1,p2,p3⟩:=qcC hT s (hf.evx m hvc.1.1) (hf.evx k hvc.1.2.1) (hf.evx x hvc.1.2.2) hst hvc.2
   exact⟨undef,w',φ',.inr ⟨by simp[execOp,hr],rfl⟩,p1,p2,p3,.junk⟩
  ·simp at h
 | call c=>
  obtain⟨callee,args,tys⟩:=c
  cases callee with
  | builtin b=>
   cases b with
   | append=>
    simp only[sopI] at h
    split at h
    ·rename_i d y t t' ha hta
     obtain⟨hc,vc',h,hvc⟩:=qbB h hvc
     have:=qiq (ty:=ty) hT s (hf.evx d hc.1) (hf.evx y hc.2) h hvc
     rw[arr2 ha,arr2 hta]
     simpa [execOp,resolve,invoke,builtin] using this
    ·simp at h
   | copy=>
    simp only[sopI] at h
    split at h
    ·rename_i d y t t' ha hta
     obtain⟨hc,vc',h,hvc⟩:=qbB h hvc
     have:=qhn (ty:=ty) hT s (hf.evx d hc.1) (hf.evx y hc.2) h hvc
     rw[arr2 ha,arr2 hta]
     simpa [execOp,resolve,invoke,builtin] using this
    ·simp at h
   | clear=>
    simp only[sopI] at h
    split at h
    ·rename_i d t ha hta
     obtain⟨hc,vc',h,hvc⟩:=qbB h hvc
     have:=qgN (ty:=ty) hT s (hf.evx d hc) h hvc
     rw[arr1 ha,arr1 hta]
     simpa [execOp,resolve,invoke,builtin] using this
    ·simp at h
   | _=>simp[sopI] at h
  | _=>simp[sopI] at h
 | _=>simp[sopI] at h
def isApp:Op→Bool
 | .call ⟨.builtin .append,_,_⟩=>true
 | _=>false
theorem Sim.two (s:Sim S φ H w) {i r:Nat}(hne:i≠r) (hi:i<H.length) (hr:r<H.length) {Ri Rr:R}{fi fr:List Nat}(ndi:fi.Nodup) (ndr:fr.Nodup) (hdj : ∀ b∈fi,b∉fr)
  (hsub : ∀ b,b∈fi∨b∈fr→b∈φ.getD i []∨b∈φ.getD r []) (gi:(H.getD i (.dead 0)).gen≤Ri.gen) (gr:(H.getD r (.dead 0)).gen≤Rr.gen)
  (rowi : ∀ g k dp' l',Ri=.row g k dp' l'→(H.getD i (.dead 0)).gen<g∨∃ dp l,H[i]?=some (.row g k dp l)∧fi.head?=(φ.getD i []).head?∧l.length≤l'.length)
  (rowr : ∀ g k dp' l',Rr=.row g k dp' l'→(H.getD r (.dead 0)).gen<g∨∃ dp l,H[r]?=some (.row g k dp l)∧fr.head?=(φ.getD r []).head?∧l.length≤l'.length)
  (ni:(∀ cs,Ri≠.box cs)∧(∀ es,Ri≠.map es)∧(∀ x,Ri≠.val x)) (nr:(∀ cs,Rr≠.box cs)∧(∀ es,Rr≠.map es)∧(∀ x,Rr≠.val x))
  (hri:Tr H.length S φ H w S ((φ.set i fi).set r fr) ((H.set i Ri).set r Rr) w→RRel S ((φ.set i fi).set r fr) ((H.set i Ri).set r Rr) w fi Ri)
  (hrr:Tr H.length S φ H w S ((φ.set i fi).set r fr) ((H.set i Ri).set r Rr) w→RRel S ((φ.set i fi).set r fr) ((H.set i Ri).set r Rr) w fr Rr) :
  ∃ φ',Sim S φ' ((H.set i Ri).set r Rr) w∧Tr H.length S φ H w S φ' ((H.set i Ri).set r Rr) w∧Ext S φ w S φ' w:=by
 have li:i < φ.length:=by rw[s.len];exact hi
 have lr:r < φ.length:=by rw[s.len];exact hr
 have hget : ∀ j,((φ.set i fi).set r fr).getD j []=if j=r then fr else if j=i then fi else φ.getD j []:=by
  intro j
  rw[qcZ,qcZ]
  simp only[List.length_set]
  by_cases h1:j=r
  ·subst h1;simp[lr]
  ·by_cases h2:j=i
   ·subst h2;simp[Ne.symm h1,h1,li]
   ·simp[h1,h2,Ne.symm h1,Ne.symm h2]
 have hH : ∀ j,((H.set i Ri).set r Rr)[j]?=if j=r then some Rr else if j=i then some Ri else H[j]?:=by
  intro j
  simp only[List.getElem?_set,List.length_set]
  by_cases h1:j=r
  ·subst h1;simp[hr]
  ·by_cases h2:j=i
   ·subst h2;simp[Ne.symm h1,h1,hi]
   ·simp[h1,h2,Ne.symm h1,Ne.symm h2]
 have hgen : ∀ j,j<H.length→(H.getD j (.dead 0)).gen≤(((H.set i Ri).set r Rr).getD j (.dead 0)).gen:=by
  intro j hj
  have:((H.set i Ri).set r Rr).getD j (.dead 0)=if j=r then Rr else if j=i then Ri else H.getD j (.dead 0):=by
   simp only[List.getD,hH]
   by_cases h1:j=r
   ·simp[h1]
   ·by_cases h2:j=i
    ·subst h2;simp[h1]
    ·simp[h1,h2]
  rw[this]
  split
  ·rename_i h;rw[h];exact gr
  ·split
   ·rename_i h;rw[h];exact gi
   ·exact Nat.le_refl _
 have htr:Tr H.length S φ H w S ((φ.set i fi).set r fr) ((H.set i Ri).set r Rr) w:=by
  refine⟨fun _ h=>h,fun _ _=>rfl,Nat.le_refl _,by simp,hgen,?_,?_,?_,?_⟩
  ·intro j g k dp' l' hj hl'
   rw[hH] at hl'
   rw[hget]
   by_cases h1:j=r
   ·subst h1
    simp only[if_true,Option.some.injEq] at hl' ⊢
    rcases rowr g k dp' l' hl' with h|⟨dp,l,p1,p2,p3⟩
    ·exact .inl h
    ·exact .inr ⟨dp,l,p1,p2,p3,fun b rest arr ty e1 e2=>⟨arr,ty,e2,Nat.le_refl _⟩⟩
   ·rw[if_neg h1] at hl' ⊢
    by_cases h2:j=i
    ·subst h2
     simp only[if_true,Option.some.injEq] at hl' ⊢
     rcases rowi g k dp' l' hl' with h|⟨dp,l,p1,p2,p3⟩
     ·exact .inl h
     ·exact .inr ⟨dp,l,p1,p2,p3,fun b rest arr ty e1 e2=>⟨arr,ty,e2,Nat.le_refl _⟩⟩
    ·rw[if_neg h2] at hl' ⊢
     exact .inr ⟨dp',l',hl',rfl,Nat.le_refl _,fun b rest arr ty e1 e2=>⟨arr,ty,e2,Nat.le_refl _⟩⟩
  ·intro j cs' hj hl'
   rw[hH] at hl'
   rw[hget]
   by_cases h1:j=r
   ·simp only[if_pos h1,Option.some.injEq] at hl';exact absurd hl' (nr.1 _)
   ·rw[if_neg h1] at hl' ⊢
    by_cases h2:j=i
    ·simp only[if_pos h2,Option.some.injEq] at hl';exact absurd hl' (ni.1 _)
    ·rw[if_neg h2] at hl' ⊢;exact⟨cs',hl',rfl⟩
  ·intro j cs' hj hl'
   rw[hH] at hl'
   rw[hget]
   by_cases h1:j=r
   ·simp only[if_pos h1,Option.some.injEq] at hl';exact absurd hl' (nr.2.1 _)
   ·rw[if_neg h1] at hl' ⊢
    by_cases h2:j=i
    ·simp only[if_pos h2,Option.some.injEq] at hl';exact absurd hl' (ni.2.1 _)
    ·rw[if_neg h2] at hl' ⊢;exact⟨cs',hl',rfl⟩
  ·intro j x hj hl'
   rw[hH] at hl'
   rw[hget]
   by_cases h1:j=r
   ·simp only[if_pos h1,Option.some.injEq] at hl';exact absurd hl' (nr.2.2 _)
   ·rw[if_neg h1] at hl' ⊢
    by_cases h2:j=i
    ·simp only[if_pos h2,Option.some.injEq] at hl';exact absurd hl' (ni.2.2 _)
    ·rw[if_neg h2] at hl' ⊢;exact⟨hl',rfl,fun _ _=>rfl⟩
 have hfoot : ∀ b,Foot ((φ.set i fi).set r fr) b→Foot φ b:=by
  rintro b ⟨j,hj⟩
  rw[hget] at hj
  by_cases h1:j=r
  ·rw[if_pos h1] at hj
   rcases hsub b (.inr hj) with h|h
   ·exact⟨i,h⟩
   ·exact⟨r,h⟩
  ·rw[if_neg h1] at hj
   by_cases h2:j=i
   ·rw[if_pos h2] at hj
    rcases hsub b (.inl hj) with h|h
    ·exact⟨i,h⟩
    ·exact⟨r,h⟩
   ·rw[if_neg h2] at hj
    exact⟨j,hj⟩
 refine⟨_,⟨by simp[s.len],?_,?_,fun b hb=>s.lt b (hfoot b hb),fun b hb=>s.off b (hfoot b hb),s.slt,?_⟩,htr,⟨rfl,rfl,rfl,Nat.le_refl _,fun _ _ _=>rfl,fun b hb=>.inl (hfoot b hb),fun _ h=>h,fun _ h=>.inl h⟩⟩
 ·intro j
  rw[hget]
  split
  ·exact ndr
  ·split
   ·exact ndi
   ·exact s.nd j
 ·have own : ∀ {j b},b∈(if j=r then fr else if j=i then fi else φ.getD j [])→(j=r∧b∈fr)∨(j=i∧b∈fi)∨(j≠r∧j≠i∧b∈φ.getD j []):=by
   intro j b hb
   by_cases h1:j=r
   ·rw[if_pos h1] at hb;exact .inl ⟨h1,hb⟩
   ·rw[if_neg h1] at hb
    by_cases h2:j=i
    ·rw[if_pos h2] at hb;exact .inr (.inl ⟨h2,hb⟩)
    ·rw[if_neg h2] at hb;exact .inr (.inr ⟨h1,h2,hb⟩)
  have far : ∀ {j b},j≠r→j≠i→b∈φ.getD j []→b∈fi∨b∈fr→False:=by
   intro j b h1 h2 hb h
   rcases hsub b h with h|h
   ·exact h2 (s.dj j i b hb h)
   ·exact h1 (s.dj j r b hb h)
  intro j j' b hb hb'
  rw[hget] at hb hb'
  rcases own hb with⟨h1,p⟩|⟨h1,p⟩|⟨h1,h2,p⟩ <;> rcases own hb' with⟨h1',p'⟩|⟨h1',p'⟩|⟨h1',h2',p'⟩
  ·rw[h1,h1']
  ·exact absurd p (hdj b p')
  ·exact(far h1' h2' p' (.inr p)).elim
  ·exact absurd p' (hdj b p)
  ·rw[h1,h1']
  ·exact(far h1' h2' p' (.inl p)).elim
  ·exact(far h1 h2 p (.inr p')).elim
  ·exact(far h1 h2 p (.inl p')).elim
  ·exact s.dj j j' b p p'
 ·intro j x hj
  rw[hH] at hj
  rw[hget]
  by_cases h1:j=r
  ·rw[if_pos h1] at hj ⊢
   obtain rfl:Rr=x:=by simpa using hj
   exact hrr htr
  ·rw[if_neg h1] at hj ⊢
   by_cases h2:j=i
   ·rw[if_pos h2] at hj ⊢
    obtain rfl:Ri=x:=by simpa using hj
    exact hri htr
   ·rw[if_neg h2] at hj ⊢
    exact(s.rel j x hj).tr htr fun _ _=>rfl
def putC (k:Nat) (l:List D) (idx off:Nat) (c:D):List D:=
 match decide (k=1) with
 | true=>l.set idx c
 | false=>l.set idx (.agg (setD (qab (l.getD idx .nil) 0 k) off [c]))
def apart (idx off:Nat):List Hole→Prop
 | []=>True
 | h::r=>(h.1=idx∧h.2.1≠off)∧apart idx off r
theorem qgd {idx off k:Nat} : ∀ {hs:List Hole},apart idx off hs→qan k hs (idx*k+off)=none
 | [],h=>rfl
 | (a,b,c)::r,h=>by
  obtain⟨⟨h1,h2⟩,h3⟩:=h
  simp only at h1 h2
  subst h1
  simp only[qan]
  rw[if_neg (by omega)]
  exact qgd h3
theorem qaH {F:Nat→List Nat}{n:Nat}:((List.range n).flatMap F).Nodup↔(∀ j,j<n→(F j).Nodup)∧∀ a b,a<b→b<n→∀ x∈F a,x∉F b:=by
 unfold List.Nodup
 rw[List.pairwise_flatMap]
 constructor
 ·rintro⟨h1,h2⟩
  refine⟨fun j hj=>h1 j (List.mem_range.2 hj),fun a b hab hb x hx hy=>?_⟩
  rw[List.pairwise_iff_getElem] at h2
  have:=h2 a b (by simp;omega) (by simpa using hb) hab
  simp only[List.getElem_range] at this
  exact this x hx x hy rfl
 ·rintro⟨h1,h2⟩
  refine⟨fun j hj=>h1 j (List.mem_range.1 hj),?_⟩
  rw[List.pairwise_iff_getElem]
  intro a b ha hb hab
  simp only[List.getElem_range]
  intro x hx y hy e
  subst e
  exact h2 a b hab (by simpa using hb) x hx hy
theorem qji {k:Nat}{l:List D}(hk:0<k) (he : ∀ x∈l,x.cells.length=k) {idx off:Nat}(hidx:idx<l.length) (hoff:off<k) {c:D}(hc:c.cells=[c]) :
  (putC k l idx off c).length=l.length∧(∀ x∈putC k l idx off c,x.cells.length=k)∧∀ j,j<l.length*k→(flat (putC k l idx off c)).getD j .nil=if j=idx*k+off then c else(flat l).getD j .nil:=by
 have hel:=he _ (getD_mem (d:=.nil) hidx)
 obtain⟨y,hy,hyl,hyc⟩ : ∃ y,putC k l idx off c=l.set idx y∧y.cells.length=k∧∀ j,j<k→y.cells.getD j .nil=if j=off then c else(l.getD idx .nil).cells.getD j .nil:=by
  unfold putC
  by_cases h1:k=1
  ·subst h1
   refine⟨c,rfl,by rw[hc];rfl,fun j hj=>?_⟩
   obtain rfl:j=0:=by omega
   obtain rfl:off=0:=by omega
   rw[hc];rfl
  ·rw[show decide (k=1)=false by simp[h1]]
   refine⟨_,rfl,by simp only[D.cells,qdr,qaf],fun j hj=>?_⟩
   show(setD (qab (l.getD idx .nil) 0 k) off [c]).getD j .nil=_
   rw[qeS _ _ _ (by rw[qaf];simp;omega)]
   by_cases hjo:j=off
   ·subst hjo;simp[List.getD]
   ·rw[if_neg (by simp;omega),if_neg hjo,qap _ _ _ _ hj,Nat.zero_add,qbm _ _ (by omega)]
 rw[hy]
 refine⟨by simp,fun x hx=>?_,fun j hj=>?_⟩
 ·rcases List.mem_or_eq_of_mem_set hx with h|h
  ·exact he x h
  ·rw[h];exact hyl
 ·rw[qga he hk hidx hyl j hj]
  have hj':(j/k)*k+j%k=j:=by rw[Nat.mul_comm];exact Nat.div_add_mod j k
  have hrm:j%k<k:=Nat.mod_lt _ hk
  by_cases hq:j/k=idx
  ·rw[if_pos hq,hyc _ hrm]
   rw[hq] at hj'
   have:=qaF he hidx hrm .nil
   rw[hj'] at this
   rw[this]
   by_cases ho:j%k=off
   ·rw[if_pos ho,if_pos (by omega)]
   ·rw[if_neg ho,if_neg (by omega)]
  ·rw[if_neg hq,if_neg]
   rintro rfl
   apply hq
   rw[Nat.mul_comm,Nat.mul_add_div hk,Nat.div_eq_of_lt hoff]
   rfl
theorem Sim.close (s:Sim S φ H w) {i r g k g' k' n idx off:Nat}{hs:List Hole}{l es:List D}(hi:H[i]?=some (.row g k (.own ((idx,off,.sl r g' k' 0 n)::hs)) l)) (hr:H[r]?=some (.row g' k' (.own []) es))
  (hne:r≠i) (hap:apart idx off hs) (hoff:off<k) (hidx:idx<l.length) :
  ∃ φ',Sim S φ' ((H.set i (.row g k (.own hs) (putC k l idx off (.lst k' (es.take n))))).set r (.dead g')) w∧
   Tr H.length S φ H w S φ' ((H.set i (.row g k (.own hs) (putC k l idx off (.lst k' (es.take n))))).set r (.dead g')) w∧Ext S φ w S φ' w:=by
 have hil:i<H.length:=(List.getElem?_eq_some_iff.1 hi).1
 have hrl:r<H.length:=(List.getElem?_eq_some_iff.1 hr).1
 have gi:H.getD i (.dead 0)=.row g k (.own ((idx,off,.sl r g' k' 0 n)::hs)) l:=by simp[List.getD,hi]
 have gr:H.getD r (.dead 0)=.row g' k' (.own []) es:=by simp[List.getD,hr]
 obtain⟨hk,he,ho,hlim,hrel⟩:=s.rel i _ hi
 obtain⟨hk',he',ho',hlim',hrel'⟩:=s.rel r _ hr
 have hfl:=flat_length he
 obtain⟨q1,q2,q3⟩:=qji hk he hidx hoff (c:=.lst k' (es.take n)) rfl
 have hfl2:=flat_length q2
 rw[q1] at hfl2
 have hm:=Nat.mul_le_mul_right k hidx
 rw[Nat.succ_mul] at hm
 rcases hrel with⟨_,rfl⟩|⟨b,rest,arr,ty,hfp,hb,hsz,F,rfl,hw,hF⟩
 ·simp at hidx
 ·have hj0:idx*k+off<(flat l).length:=by omega
  have h0:=hF _ hj0
  have hat:qan k ((idx,off,I.sl r g' k' 0 n)::hs) (idx*k+off)=some (.sl r g' k' 0 n):=by simp[qan]
  rw[hat] at h0
  obtain⟨hF0,hns,hone,hv⟩:=h0
  obtain⟨fc,hsubc,how⟩ : ∃ fc,(∀ b∈fc,b∈φ.getD r [])∧fc.Nodup∧OW w (.lst k' (es.take n)) (arr.getD (idx*k+off) undef) fc:=by
   have hndr:=s.nd r
   cases hv with
   | sl hlt hg hrl' h1=>
    obtain⟨hsl,hle⟩:=hrl' _ es hr
    rcases hsl with⟨hfr,_,rfl,hva⟩|⟨b',rest',cap,arr',ty',a,hfr,hva,hn,hcp,hlim2,hb',hfit⟩
    ·rw[hva]
     exact⟨[],by simp,by simp,by simpa using OW.lst0 hk'⟩
    ·obtain⟨rfl,hfit'⟩:=hfit (.inr rfl)
     simp only[Nat.zero_mul,Nat.zero_add] at hfit' hle hva
     rcases hrel' with⟨e,_⟩|⟨b2,rest2,arr2,ty2,e1,e2,e3,F2,rfl,_,hF2⟩
     ·rw[hfr] at e;simp at e
     ·rw[hfr] at e1
      simp at e1
      obtain⟨rfl,rfl⟩:=e1
      rw[hb'] at e2
      simp at e2
      obtain⟨rfl,rfl⟩:=e2
      have het : ∀ x∈es.take n,x.cells.length=k':=fun x hx=>he' x (List.mem_of_mem_take hx)
      have hlt':(es.take n).length=n:=by simp;omega
      have hfe:=flat_length het
      rw[hlt'] at hfe
      have hfes:=flat_length he'
      have hnk:n*k'≤es.length*k':=Nat.mul_le_mul_right _ hle
      have hcell : ∀ j,j<n*k'→(flat (es.take n)).getD j .nil=(flat es).getD j .nil:=by
       intro j hj
       have:=(qeC hk' he' (l:=0) (m:=n) (by omega) j hj).2
       simpa using this
      have how:=OW.lst (w:=w) (k:=k') (l:=es.take n) (b:=b') (cap:=cap) (arr:=arr') (ty:=ty') F2 hk' het (fun c hc=>by
        obtain⟨x,hx,hcx⟩:=qaY.1 hc
        exact ho' c (qaY.2 ⟨x,List.mem_of_mem_take hx,hcx⟩)) (by omega) hcp (by omega) hb' (by omega) (fun j hj=>by
        rw[hfe] at hj
        rw[hcell j hj]
        exact hF2 j (by omega))
      rw[hlt'] at how
      rw[hva]
      refine⟨_,?_,?_,how⟩
      ·intro x hx
       rw[hfr]
       rcases List.mem_cons.1 hx with rfl|hx
       ·simp
       ·obtain⟨j,hj,hx⟩:=List.mem_flatMap.1 hx
        rw[hfe] at hj
        exact List.mem_cons_of_mem _ (qal (by have:=List.mem_range.1 hj;omega) hx)
      ·rw[hfr] at hndr
       obtain⟨n1,n2⟩:=List.nodup_cons.1 hndr
       rw[qaH] at n2
       refine List.nodup_cons.2 ⟨fun hm=>n1 ?_,?_⟩
       ·obtain⟨j,hj,hx⟩:=List.mem_flatMap.1 hm
        rw[hfe] at hj
        exact qal (by have:=List.mem_range.1 hj;omega) hx
       ·rw[qaH,hfe]
        exact⟨fun j hj=>n2.1 j (by omega),fun a b hab hb=>n2.2 a b hab (by omega)⟩
  obtain⟨hndc,how⟩:=how
  have hndi:=s.nd i
  rw[hfp] at hndi
  obtain⟨n1,n2⟩:=List.nodup_cons.1 hndi
  have memF : ∀ {j x},j<(flat l).length→x∈F j→x∈φ.getD i []:=fun hj hx=>by rw[hfp];exact List.mem_cons_of_mem _ (qal hj hx)
  have notc : ∀ {x},x∈φ.getD i []→x∉fc:=fun hx hc=>hne (s.dj r i _ (hsubc _ hc) hx)
  obtain⟨F',hF'⟩ : ∃ F':Nat→List Nat,F'=fun j=>if j=idx*k+off then fc else F j:=⟨_,rfl⟩
  have F'0:F' (idx*k+off)=fc:=by simp[hF']
  have F'n : ∀ j,j≠idx*k+off→F' j=F j:=fun j hj=>by simp[hF',hj]
  have hlenf:(flat (putC k l idx off (.lst k' (es.take n)))).length=(flat l).length:=by omega
  refine s.two (i:=i) (r:=r) (Ne.symm hne) hil hrl (fi:=b::(List.range (flat l).length).flatMap F') (fr:=[]) ?_ (by simp) (by simp) ?_ (by rw[gi];exact Nat.le_refl _) (by rw[gr];exact Nat.le_refl _) ?_ (by simp) (by simp) (by simp) ?_ (fun _=>trivial)
  ·rw[qaH] at n2
   refine List.nodup_cons.2 ⟨fun hm=>?_,?_⟩
   ·obtain⟨j,hj,hx⟩:=List.mem_flatMap.1 hm
    by_cases hj0':j=idx*k+off
    ·rw[hj0',F'0] at hx
     exact notc (by rw[hfp];simp) hx
    ·rw[F'n j hj0'] at hx
     exact n1 (qal (List.mem_range.1 hj) hx)
   ·rw[qaH]
    refine⟨fun j hj=>?_,fun a b hab hb x hx hy=>?_⟩
    ·by_cases hj0':j=idx*k+off
     ·rw[hj0',F'0];exact hndc
     ·rw[F'n j hj0'];exact n2.1 j hj
    ·by_cases ha0:a=idx*k+off
     ·rw[F'n b (by omega)] at hy
      rw[ha0,F'0] at hx
      exact notc (memF hb hy) hx
     ·rw[F'n a ha0] at hx
      by_cases hb0:b=idx*k+off
      ·rw[hb0,F'0] at hy
       exact notc (memF (by omega) hx) hy
      ·rw[F'n b hb0] at hy
       exact n2.2 a b hab hb x hx hy
  ·rintro x (hx|hx)
   ·rcases List.mem_cons.1 hx with rfl|hx
    ·left;rw[hfp];simp
    ·obtain⟨j,hj,hx⟩:=List.mem_flatMap.1 hx
     by_cases hj0':j=idx*k+off
     ·rw[hj0',F'0] at hx
      exact .inr (hsubc x hx)
     ·rw[F'n j hj0'] at hx
      exact .inl (memF (List.mem_range.1 hj) hx)
   ·simp at hx
  ·intro g'' k'' dp'' l'' e
   simp only[R.row.injEq] at e
   obtain⟨rfl,rfl,rfl,rfl⟩:=e
   exact .inr ⟨_,l,hi,by rw[hfp];rfl,by omega⟩
  ·intro t
   refine⟨hk,q2,?_,by omega,.inr ⟨b,_,arr,ty,rfl,hb,by rw[q1];exact hsz,F',by rw[hlenf],fun h hm=>by rw[hlenf];exact hw h (by simp[hm]),fun j hj=>?_⟩⟩
   ·intro c hc
    obtain⟨j,hj,rfl⟩:=List.getElem_of_mem hc
    rw[qak _ _ _ .nil,q3 j (by omega)]
    split
    ·rfl
    ·exact ho _ (getD_mem (by omega))
   ·rw[hlenf] at hj
    rw[q3 j (by omega)]
    by_cases hj0':j=idx*k+off
    ·rw[if_pos hj0',hj0',F'0,qgd hap]
     exact how
    ·rw[if_neg hj0',F'n j hj0']
     have:=hF j hj
     simp only[qan] at this
     rw[if_neg (Ne.symm hj0')] at this
     exact this.tr t fun _ _=>rfl
theorem qit {w:World}{k':Nat}{es:List D}{v:Value}{f:List Nat}(h0:OW w (.lst k' es) v f):v.oneCell'=true:=by cases h0 <;> rfl
theorem qld {w:World}{k':Nat}{es:List D}{v:Value}{f:List Nat}(h0:OW w (.lst k' es) v f):0<k'∧(∀ x∈es,x.cells.length=k')∧(∀ c∈flat es,c.one=true)∧es.length≤lim∧
    ((
     f=[]∧es=[])∨∃ b2 rest2 arr2 ty2,f=b2::rest2∧w.heap[b2]?=some (.cells arr2 ty2 (0,0))∧es.length*k'≤arr2.size∧
     ∃ F2:Nat→List Nat,rest2=(List.range (flat es).length).flatMap F2∧∀ j,j<(flat es).length→OW w ((flat es).getD j .nil) (arr2.getD j undef) (F2 j))∧
    qhd w f k' 0 es.length v:=by
 cases h0 with
 | lst0 hk=>exact⟨hk,by simp,by simp[flat],by simp[VL.lim],.inl ⟨rfl,rfl⟩,.inl ⟨rfl,rfl,rfl,rfl⟩⟩
 | @lst _ _ b2 cap arr2 ty2 F2 hk he h1 hn hcap hlim hb2 hfit hf=>
  have hmk:es.length*k'≤cap*k':=Nat.mul_le_mul_right _ hn
  exact⟨hk,he,h1,hlim,.inr ⟨b2,_,arr2,ty2,rfl,hb2,by omega,F2,rfl,hf⟩,.inr ⟨b2,_,cap,arr2,ty2,_,rfl,rfl,hn,hcap,hlim,hb2,fun _=>⟨by simp,by omega⟩⟩⟩
theorem Sim.opn (s:Sim S φ H w) {i g k idx off k':Nat}{hs:List Hole}{l es:List D}(hi:H[i]?=some (.row g k (.own hs) l)) (hap:apart idx off hs) (hoff:off<k) (hidx:idx<l.length)
  (hc:(l.getD idx .nil).cellAt off=.lst k' es) :
  ∃ φ',Sim S φ' (H.set i (.row g k (.own ((idx,off,.sl H.length 1 k' 0 es.length)::hs)) l) ++ [.row 1 k' (.own []) es]) w∧
   Tr H.length S φ H w S φ' (H.set i (.row g k (.own ((idx,off,.sl H.length 1 k' 0 es.length)::hs)) l) ++ [.row 1 k' (.own []) es]) w∧Ext S φ w S φ' w:=by
 have hil:i<H.length:=(List.getElem?_eq_some_iff.1 hi).1
 obtain⟨s1,t1,e1⟩:=s.push (r':=.dead 0) (fp':=[]) (w':=w) ⟨rfl,rfl,rfl,Nat.le_refl _,fun _ _ _=>rfl,by simp,by simp⟩ (fun _=>trivial)
 have hi1:(H ++ [R.dead 0])[i]?=some (.row g k (.own hs) l):=by rw[List.getElem?_append_left hil];exact hi
 have gi:(H ++ [R.dead 0]).getD i (.dead 0)=.row g k (.own hs) l:=by simp only[List.getD,hi1,Option.getD_some]
 have gr:(H ++ [R.dead 0]).getD H.length (.dead 0)=.dead 0:=by simp[List.getD]
 have p0:(φ ++ [[]]).getD H.length []=[]:=by rw[←s.len];simp[List.getD]
 obtain⟨hk,he,ho,hlim,hrel⟩:=s1.rel i _ hi1
 have hfl:=flat_length he
 have hm:=Nat.mul_le_mul_right k hidx
 rw[Nat.succ_mul] at hm
 have eset : ∀ (a b:R),((H ++ [R.dead 0]).set i a).set H.length b=H.set i a ++ [b]:=by
  intro a b
  rw[List.set_append_left _ _ hil,List.set_append_right _ _ (by simp)]
  simp
 rcases hrel with⟨_,rfl⟩|⟨b,rest,arr,ty,hfp,hb,hsz,F,rfl,hw,hF⟩
 ·simp at hidx
 ·have hj0:idx*k+off<(flat l).length:=by omega
  have hcf:(flat l).getD (idx*k+off) .nil=.lst k' es:=by
   have:=qaF he hidx hoff .nil
   rw[this,←qbm _ _ (by rw[he _ (getD_mem hidx)];exact hoff),hc]
  have h0:=hF _ hj0
  rw[qgd hap,hcf] at h0
  have h0:OW w (.lst k' es) (arr.getD (idx*k+off) undef) (F (idx*k+off)):=h0
  have hndi:=s1.nd i
  rw[hfp] at hndi
  obtain⟨n1,n2⟩:=List.nodup_cons.1 hndi
  have n3:=n2
  rw[qaH] at n3
  have hone:=qit h0
  obtain⟨F',hF'⟩ : ∃ F':Nat→List Nat,F'=fun j=>if j=idx*k+off then [] else F j:=⟨_,rfl⟩
  have F'0:F' (idx*k+off)=[]:=by simp[hF']
  have F'n : ∀ j,j≠idx*k+off→F' j=F j:=fun j hj=>by simp[hF',hj]
  have hsl : ∀ j,(F' j).Sublist (F j):=fun j=>by rw[hF'];simp only;split <;> simp
  have hsub:=qds hsl (List.range (flat l).length)
  have child:=qld h0
  obtain⟨c1,c2,c3,c4,c5,c6⟩:=child
  obtain⟨φ',s2,t2,e2⟩:=s1.two (i:=i) (r:=H.length) (by omega) (by simp;omega) (by simp) (Ri:=.row g k (.own ((idx,off,.sl H.length 1 k' 0 es.length)::hs)) l) (Rr:=.row 1 k' (.own []) es)
   (fi:=b::(List.range (flat l).length).flatMap F') (fr:=F (idx*k+off)) ((hsub.cons_cons b).nodup hndi) (n3.1 _ hj0) (by
    intro x hx hx'
    rcases List.mem_cons.1 hx with rfl|hx
    ·exact n1 (qal hj0 hx')
    ·obtain⟨j,hj,hx⟩:=List.mem_flatMap.1 hx
     have hj:=List.mem_range.1 hj
     by_cases hj0':j=idx*k+off
     ·rw[hj0',F'0] at hx;simp at hx
     ·rw[F'n j hj0'] at hx
      rcases Nat.lt_or_gt_of_ne hj0' with h|h
      ·exact n3.2 _ _ h hj0 x hx hx'
      ·exact n3.2 _ _ h hj x hx' hx) (by
    rintro x (hx|hx)
    ·left
     rw[hfp]
     exact(hsub.cons_cons b).mem hx
    ·left
     rw[hfp]
     exact List.mem_cons_of_mem _ (qal hj0 hx)) (by rw[gi];exact Nat.le_refl _) (by rw[gr];exact Nat.zero_le _) (by
    intro g'' k'' dp'' l'' e
    simp only[R.row.injEq] at e
    obtain⟨rfl,rfl,rfl,rfl⟩:=e
    exact .inr ⟨_,l,hi1,by rw[hfp];rfl,Nat.le_refl _⟩) (by
    intro g'' k'' dp'' l'' e
    simp only[R.row.injEq] at e
    obtain⟨rfl,rfl,rfl,rfl⟩:=e
    left;rw[gr];exact Nat.one_pos) (by simp) (by simp) (by
    intro t
    refine⟨hk,he,ho,hlim,.inr ⟨b,_,arr,ty,rfl,hb,hsz,F',rfl,?_,fun j hj=>?_⟩⟩
    ·intro h hm
     rcases List.mem_cons.1 hm with rfl|hm
     ·exact hj0
     ·exact hw h hm
    ·simp only[qan]
     by_cases hj0':j=idx*k+off
     ·rw[if_pos hj0'.symm,hj0',F'0,hcf]
      refine⟨rfl,rfl,hone,?_⟩
      rw[eset]
      refine .sl (by simp) (by simp[List.getD,R.gen]) (fun dp' l' hl'=>?_) hone
      have hll:(H.set i (R.row g k (.own ((idx,off,.sl H.length 1 k' 0 es.length)::hs)) l)).length=H.length:=by simp
      rw[List.getElem?_append_right (by omega),hll] at hl'
      simp at hl'
      obtain⟨rfl,rfl⟩:=hl'
      refine⟨?_,by simp⟩
      have hg:(((φ ++ [[]]).set i (b::(List.range (flat l).length).flatMap F')).set H.length (F (idx*k+off))).getD H.length []=F (idx*k+off):=by
       rw[qcZ,if_pos ⟨rfl,by simp[s.len]⟩]
      rw[hg]
      exact c6
     ·rw[if_neg (Ne.symm hj0'),F'n j hj0']
      exact(hF j hj).tr t fun _ _=>rfl) (by
    intro t
    refine⟨c1,c2,c3,c4,?_⟩
    rcases c5 with h|⟨b2,rest2,arr2,ty2,q1,q2,q3,F2,q4,q5⟩
    ·exact .inl h
    ·exact .inr ⟨b2,rest2,arr2,ty2,q1,q2,q3,F2,q4,by simp,q5⟩)
  rw[eset] at s2 t2
  have ht2:Tr H.length S (φ ++ [[]]) (H ++ [R.dead 0]) w S φ' _ w:=t2.weaken (by simp)
  exact⟨φ',s2,t1.trans ht2,e1.trans e2⟩
end Go.VL
namespace Go.VL
variable {P:Program}{S:Nat→Prop}{φ : List (List Nat)}{H:List R}{w:World}{T:Nat→Option TI}{fr:Fr}{a:Act}
structure Grow (w w':World):Prop where
 os:w'.os=w.os
 tape:w'.tape=w.tape
 output:w'.output=w.output
 size:w.heap.size≤w'.heap.size
 keep : ∀ b,b<w.heap.size→w'.heap[b]?=w.heap[b]?
theorem qgQ {f : Nat} {fn : Func} {c : Code} (hf : P.funcs[f]? = some fn) (hb : fn.body = some c) (hn : (fn.name == "runtime.NumGoroutine") = false) : Ent P f := by
 intro args w
 have hn' : ¬ fn.name = "runtime.NumGoroutine" := by simpa using hn
 simp[callFunc,hf,hb,hn']
def qfI (S:Nat→Prop) (w:World) (ds:List D) (vs:Array Value):Prop:=vs.size=ds.length∧∀ j,j<ds.length→FZ S w (ds.getD j .nil) (vs.getD j undef)
def Pure (P:Program) (f:Nat) (ds:List D) (x:D):Prop:=
 Ent P f∧∀ (S:Nat→Prop) (vs:Array Value) (w:World) (Rr:Ending→World→Prop),(∀ b,S b→b<w.heap.size)→qfI S w ds vs→
  (∀ v w' fp,OW w' x v fp→fp.Nodup→(∀ b∈fp,w.heap.size≤b)→Grow w w'→Rr (.returned v) w')→Calls P f vs w Rr
def PureE (P:Program) (f:Nat) (ds:List D) (ψ : D→Prop):Prop:=
 Ent P f∧∀ (S:Nat→Prop) (vs:Array Value) (w:World) (Rr:Ending→World→Prop),(∀ b,S b→b<w.heap.size)→qfI S w ds vs→
  (∀ x v w' fp,ψ x→OW w' x v fp→fp.Nodup→(∀ b∈fp,w.heap.size≤b)→Grow w w'→Rr (.returned v) w')→Calls P f vs w Rr
theorem Pure.toE {P:Program}{f:Nat}{ds:List D}{x:D}(h:Pure P f ds x):PureE P f ds (fun y=>y=x):=
 ⟨h.1,fun S vs w Rr hS ha hr=>h.2 S vs w Rr hS ha fun v w' fp how hnd hfp hg=>hr x v w' fp rfl how hnd hfp hg⟩
theorem PureE.mono {P:Program}{f:Nat}{ds:List D}{ψ ψ':D→Prop}(h:PureE P f ds ψ) (hm : ∀ x,ψ x→ψ' x):PureE P f ds ψ':=
 ⟨h.1,fun S vs w Rr hS ha hr=>h.2 S vs w Rr hS ha fun x v w' fp hx=>hr x v w' fp (hm x hx)⟩
def PureF (P:Program) (f:Nat) (ds:List D) (x:D):Prop:=
 Ent P f∧∀ (S:Nat→Prop) (vs:Array Value) (w:World) (Rr:Ending→World→Prop),(∀ b,S b→b<w.heap.size)→qfI S w ds vs→
  (∀ v w' S',(∀ b,S b→S' b)→(∀ b,S' b→S b∨w.heap.size≤b)→(∀ b,S' b→b<w'.heap.size)→FZ S' w' x v→Grow w w'→Rr (.returned v) w')→Calls P f vs w Rr
def PureFE (P:Program) (f:Nat) (ds:List D) (ψ : D→Prop):Prop:=
 Ent P f∧∀ (S:Nat→Prop) (vs:Array Value) (w:World) (Rr:Ending→World→Prop),(∀ b,S b→b<w.heap.size)→qfI S w ds vs→
  (∀ x v w' S',ψ x→(∀ b,S b→S' b)→(∀ b,S' b→S b∨w.heap.size≤b)→(∀ b,S' b→b<w'.heap.size)→FZ S' w' x v→Grow w w'→Rr (.returned v) w')→Calls P f vs w Rr
theorem PureF.toE {P:Program}{f:Nat}{ds:List D}{x:D}(h:PureF P f ds x):PureFE P f ds (fun y=>y=x):=
 ⟨h.1,fun S vs w Rr hS ha hr=>h.2 S vs w Rr hS ha fun v w' S' h1 h2 h3 h4 h5=>hr x v w' S' rfl h1 h2 h3 h4 h5⟩
theorem PureFE.mono {P:Program}{f:Nat}{ds:List D}{ψ ψ':D→Prop}(h:PureFE P f ds ψ) (hm : ∀ x,ψ x→ψ' x):PureFE P f ds ψ':=
 ⟨h.1,fun S vs w Rr hS ha hr=>h.2 S vs w Rr hS ha fun x v w' S' hx=>hr x v w' S' (hm x hx)⟩
theorem Pure.fz {f:Nat}{ds:List D}{x:D}(h:Pure P f ds x):PureF P f ds x:=
 ⟨h.1,fun S vs w Rr hS ha hr=>h.2 S vs w Rr hS ha fun v w' fp how hnd hfp hg=>
  hr v w' (fun b=>S b∨b∈fp) (fun b h=>.inl h) (fun b h=>h.imp id (hfp b)) (fun b h=>h.elim (fun h=>Nat.lt_of_lt_of_le (hS b h) hg.size) (how.lt b)) (how.fz fun b hb=>.inr hb) hg⟩
def qdf (f:I→Option (Prop×D)):List I→Option (Prop×List D)
 | []=>some (True,[])
 | x::r=>
  match f x,qdf f r with
  | some (vc,d),some (vc',ds)=>some (vc∧d.one=true∧vc',d::ds)
  | _,_=>none
def qbX (f:I→Option (Prop×D)):List I→Option (Prop×List D)
 | []=>some (True,[])
 | x::r=>
  match f x,qbX f r with
  | some (vc,d),some (vc',ds)=>some (vc∧vc',d::ds)
  | _,_=>none
def view (H:List R):Nat→I→Option (Prop×D)
 | 0,.d x=>some (True,x)
 | 0,_=>none
 | _+1,.d x=>some (True,x)
 | _+1,.sl i g k lo n=>
  match H[i]? with
  | some (.row g' k' dp l)=>some (g=g'∧k=k'∧dp.shut=true,.lst k ((l.drop lo).take n))
  | _=>none
 | f+1,.ptr i off=>
  match H[i]? with
  | some (.box cs)=>
   match qdf (view H f) (cs.drop off) with
   | some (vc,ds)=>some (vc,.ptr ds)
   | none=>none
  | _=>none
 | _+1,.eptr i g k idx off z=>
  match H[i]? with
  | some (.row g' k' dp l)=>some (g=g'∧k=k'∧dp.shut=true∧idx<l.length,.ptr ((qab (l.getD idx z) 0 k).drop off))
  | _=>none
 | f+1,.agg cs=>
  match qdf (view H f) cs with
  | some (vc,ds)=>some (vc,.agg ds)
  | none=>none
 | f+1,.fn g caps=>
  match qbX (view H f) caps with
  | some (vc,ds)=>some (vc,.fn g ds)
  | none=>none
 | f+1,.tup caps=>
  match qbX (view H f) caps with
  | some (vc,ds)=>some (vc,.tup ds)
  | none=>none
 | _+1,_=>none
def Lent (S:Nat→Prop) (φ : List (List Nat)) (b:Nat):Prop:=S b∨Foot φ b
theorem qgR {k:Nat}{dp:DP}{cells:List D}{arr:Array Value}{rest:List Nat}(hd:dp.shut=true) (h:RowRel S φ H w k dp cells arr rest) (hr : ∀ b∈rest,Foot φ b) : ∀ j,j<cells.length→FZ (Lent S φ) w (cells.getD j .nil) (arr.getD j undef):=by
 match dp,hd with
 | .fz,_=>exact fun j hj=>(h.2 j hj).mono (fun b hb=>.inl hb) (fun _ _=>rfl)
 | .own [],_=>
  obtain⟨F,rfl,_,hF⟩:=h
  exact fun j hj=>OW.fz (hF j hj) fun b hb=>.inr (hr b (qal hj hb))
 | .own (_::_),hd=>simp[DP.shut] at hd
theorem qdv {f:I→Option (Prop×D)}{ok:I→Value→Prop}{S':Nat→Prop}(hf : ∀ x v vc d,ok x v→f x=some (vc,d)→vc→FZ S' w d v) :
  ∀ (cs:List I) {vc:Prop}{ds:List D},qdf f cs=some (vc,ds)→vc→ds.length=cs.length∧(∀ c∈ds,c.one=true)∧∀ j,j<cs.length→∀ v,ok (cs.getD j .junk) v→FZ S' w (ds.getD j .nil) v
 | [],vc,ds,h,hvc=>by
  simp only[qdf,Option.some.injEq,Prod.mk.injEq] at h
  obtain⟨_,rfl⟩:=h
  exact⟨rfl,by simp,by simp⟩
 | x::r,vc,ds,h,hvc=>by
  simp only[qdf] at h
  split at h
  ·rename_i vc1 d vc2 ds' h1 h2
   simp only[Option.some.injEq,Prod.mk.injEq] at h
   obtain⟨rfl,rfl⟩:=h
   obtain⟨l1,l2,l3⟩:=qdv hf r h2 hvc.2.2
   refine⟨by simp[l1],?_,fun j hj v hv=>?_⟩
   ·intro c hc
    rcases List.mem_cons.1 hc with rfl|hc
    ·exact hvc.2.1
    ·exact l2 c hc
   ·cases j with
    | zero=>exact hf x v vc1 d (by simpa [List.getD] using hv) h1 hvc.1
    | succ j=>simpa [List.getD] using l3 j (by simpa using hj) v (by simpa [List.getD] using hv)
  ·simp at h
theorem qcs {f:I→Option (Prop×D)}{ok:I→Value→Prop}{S':Nat→Prop}(hf : ∀ x v vc d,ok x v→f x=some (vc,d)→vc→FZ S' w d v) :
  ∀ (cs:List I) {vc:Prop}{ds:List D},qbX f cs=some (vc,ds)→vc→ds.length=cs.length∧∀ j,j<cs.length→∀ v,ok (cs.getD j .junk) v→FZ S' w (ds.getD j .nil) v
 | [],vc,ds,h,hvc=>by
  simp only[qbX,Option.some.injEq,Prod.mk.injEq] at h
  obtain⟨_,rfl⟩:=h
  exact⟨rfl,by simp⟩
 | x::r,vc,ds,h,hvc=>by
  simp only[qbX] at h
  split at h
  ·rename_i vc1 d vc2 ds' h1 h2
   simp only[Option.some.injEq,Prod.mk.injEq] at h
   obtain⟨rfl,rfl⟩:=h
   obtain⟨l1,l3⟩:=qcs hf r h2 hvc.2
   refine⟨by simp[l1],fun j hj v hv=>?_⟩
   cases j with
   | zero=>exact hf x v vc1 d (by simpa [List.getD] using hv) h1 hvc.1
   | succ j=>simpa [List.getD] using l3 j (by simpa using hj) v (by simpa [List.getD] using hv)
  ·simp at h
theorem qbQ (s:Sim S φ H w) : ∀ (f:Nat) {x:I}{v:Value}{vc:Prop}{d:D},V S φ H w x v→view H f x=some (vc,d)→vc→FZ (Lent S φ) w d v:=by
 have hd : ∀ {x:D}{v:Value},V S φ H w (.d x) v→FZ (Lent S φ) w x v:=fun h=>h.fz.mono (fun b hb=>.inl hb) (fun _ _=>rfl)
 intro f
 induction f with
 | zero=>
  intro x v vc d hv h hvc
  cases x <;> simp only[view,Option.some.injEq,Prod.mk.injEq,reduceCtorEq] at h
  obtain⟨_,rfl⟩:=h
  exact hd hv
 | succ f ih=>
  intro x v vc d hv h hvc
  cases x <;> simp only[view,Option.some.injEq,Prod.mk.injEq,reduceCtorEq] at h
  ·obtain⟨_,rfl⟩:=h
   exact hd hv
  ·
   rename_i cs
   split at h
   ·rename_i vc' ds hvl
    simp only[Option.some.injEq,Prod.mk.injEq] at h
    obtain⟨rfl,rfl⟩:=h
    obtain⟨l1,l2,l3⟩:=qdv (ok:=V S φ H w) (fun x v vc d h1 h2 h3=>ih h1 h2 h3) cs hvl hvc
    cases hv with
    | agg hl h1 hj=>exact .agg (by omega) l2 fun j hj'=>l3 j (by omega) _ (hj j (by omega))
   ·simp at h
  ·
   rename_i i g k lo n
   split at h
   ·rename_i g' k' dp l hi
    simp only[Option.some.injEq,Prod.mk.injEq] at h
    obtain⟨rfl,rfl⟩:=h
    obtain⟨rfl,rfl,hsh⟩:=hvc
    cases hv with
    | sl hlt hg hrel h1=>
     obtain⟨hsl,hle⟩:=hrel dp l hi
     obtain⟨hk,he,ho,hlim,hr⟩:=s.rel i _ hi
     have hlen:((l.drop lo).take n).length=n:=by simp;omega
     rcases hsl with⟨hfp,rfl,rfl,rfl⟩|⟨b,rest,cap,arr,ty,a,hfp,rfl,hn,hcp,hlim',hb,hfit⟩
     ·simp only[List.take_zero]
      exact .lst0 hk
     ·by_cases hn0:n=0
      ·subst hn0
       simp only[List.take_zero]
       exact .lst0 hk
      ·obtain⟨rfl,hfit'⟩:=hfit (.inl hn0)
       rcases hr with⟨e,_⟩|⟨b',rest',arr',ty',e,hb',hsz,hrr⟩
       ·rw[hfp] at e;simp at e
       ·rw[hfp] at e
        simp at e
        obtain⟨rfl,rfl⟩:=e
        rw[hb] at hb'
        simp at hb'
        obtain⟨rfl,rfl⟩:=hb'
        have hz:=qgR (φ:=φ) hsh hrr (fun b' hb'=>⟨i,by rw[hfp];simp[hb']⟩)
        have hmemE : ∀ x∈(l.drop lo).take n,x∈l:=fun x hx=>List.mem_of_mem_drop (List.mem_of_mem_take hx)
        have g1 : ∀ x∈(l.drop lo).take n,x.cells.length=k:=fun x hx=>he x (hmemE x hx)
        have hfl':=flat_length g1
        rw[hlen] at hfl'
        have hnk:n*k≤cap*k:=Nat.mul_le_mul_right _ hn
        have:=FZ.lst (S:=Lent S φ) (w:=w) (k:=k) (l:=(l.drop lo).take n) (b:=b) (off:=lo*k) (cap:=cap) (fun j=>arr.getD (lo*k+j) undef) hk g1 ?_ (by omega) (by omega) (.inr ⟨i,by rw[hfp];simp⟩) ?_ ?_
        ·rw[hlen] at this
         exact this
        ·intro c hc'
         obtain⟨x,hx,hcx⟩:=qaY.1 hc'
         exact ho c (qaY.2 ⟨x,hmemE x hx,hcx⟩)
        ·intro j hj
         have:lo*k+j<arr.size:=by omega
         rw[cell_of_row w b _ arr ty (0,0) hb]
         simp[Array.getD,this]
        ·intro j hj
         obtain⟨f1,f2⟩:=qeC hk he hle j (by omega)
         rw[f2]
         exact hz _ f1
   ·simp at h
  ·
   rename_i i off
   split at h
   ·rename_i cs hi
    split at h
    ·rename_i vc' ds hvl
     simp only[Option.some.injEq,Prod.mk.injEq] at h
     obtain⟨rfl,rfl⟩:=h
     obtain⟨l1,l2,l3⟩:=qdv (ok:=V S φ H w) (fun x v vc d h1 h2 h3=>ih h1 h2 h3) _ hvl hvc
     cases hv with
     | ptr hlt hrel h1=>
      obtain⟨b,hfp,rfl⟩:=hrel cs hi
      obtain⟨b',hfp',g,hg⟩:=qhK s hi
      rw[hfp] at hfp'
      simp at hfp'
      subst hfp'
      simp only[List.length_drop] at l1 l3
      refine .ptr (fun j=>g (off+j)) (.inr ⟨i,by rw[hfp];simp⟩) l2 (fun j hj=>(hg _ (by omega)).1) (fun j hj=>?_)
      refine l3 j (by omega) _ ?_
      rw[getD_drop]
      exact(hg _ (by omega)).2.2
    ·simp at h
   ·simp at h
  ·
   rename_i i g k idx off z
   split at h
   ·rename_i g' k' dp l hi
    simp only[Option.some.injEq,Prod.mk.injEq] at h
    obtain⟨rfl,rfl⟩:=h
    obtain⟨rfl,rfl,hsh,hidx⟩:=hvc
    cases hv with
    | eptr hlt hg hrel h1=>
     obtain⟨b,rest,hfp,rfl⟩:=hrel dp l hi
     have hcell : ∀ m,m<k→∃ v,w.cell? ⟨b,idx*k+m,none⟩=some v∧((l.getD idx z).cellAt m).one=true∧FZ (Lent S φ) w ((l.getD idx z).cellAt m) v:=by
      intro m hm
      obtain⟨hk,he,ho,hlim,hr⟩:=s.rel i _ hi
      rcases hr with⟨e,_⟩|⟨b',rest',arr,ty,e,hb,hsz,hrr⟩
      ·rw[hfp] at e;simp at e
      ·rw[hfp] at e
       simp at e
       obtain⟨rfl,rfl⟩:=e
       have hz:=qgR (φ:=φ) hsh hrr (fun b' hb'=>⟨i,by rw[hfp];simp[hb']⟩)
       have hmk:=Nat.mul_le_mul_right k hidx
       rw[Nat.succ_mul] at hmk
       have hjf:idx*k+m<(flat l).length:=by rw[flat_length he];omega
       have hcl:=he _ (getD_mem (d:=z) hidx)
       have hc:(l.getD idx z).cellAt m=(flat l).getD (idx*k+m) .nil:=by
        rw[qbm _ _ (by omega),qaF he hidx hm z]
       have:idx*k+m<arr.size:=by omega
       exact⟨arr.getD (idx*k+m) undef,by rw[cell_of_row w b _ arr ty (0,0) hb];simp[Array.getD,this],by rw[hc];exact ho _ (getD_mem hjf),by rw[hc];exact hz _ hjf⟩
     refine .ptr (fun j=>(w.cell? ⟨b,idx*k+off+j,none⟩).getD undef) (.inr ⟨i,by rw[hfp];simp⟩) ?_ ?_ ?_
     ·intro c hc
      obtain⟨m,hm,rfl⟩:=List.getElem_of_mem (List.mem_of_mem_drop hc)
      rw[qaf] at hm
      rw[qak _ _ _ .nil,qap _ _ _ _ hm,Nat.zero_add]
      obtain⟨v,_,h1,_⟩:=hcell m hm
      exact h1
     ·intro j hj
      simp only[List.length_drop,qaf] at hj
      obtain⟨v,hv,_⟩:=hcell (off+j) (by omega)
      rw[Nat.add_assoc,hv]
      rfl
     ·intro j hj
      simp only[List.length_drop,qaf] at hj
      rw[getD_drop,qap _ _ _ _ (by omega),Nat.zero_add,Nat.add_assoc]
      obtain⟨v,hv,_,hz⟩:=hcell (off+j) (by omega)
      rw[hv]
      exact hz
   ·simp at h
  ·
   rename_i g caps
   split at h
   ·rename_i vc' ds hvl
    simp only[Option.some.injEq,Prod.mk.injEq] at h
    obtain⟨rfl,rfl⟩:=h
    obtain⟨l1,l3⟩:=qcs (ok:=V S φ H w) (fun x v vc d h1 h2 h3=>ih h1 h2 h3) caps hvl hvc
    cases hv with
    | fn hl hj=>exact .fn (by omega) fun j hj'=>l3 j (by omega) _ (hj j (by omega))
   ·simp at h
  ·
   rename_i caps
   split at h
   ·rename_i vc' ds hvl
    simp only[Option.some.injEq,Prod.mk.injEq] at h
    obtain⟨rfl,rfl⟩:=h
    obtain⟨l1,l3⟩:=qcs (ok:=V S φ H w) (fun x v vc d h1 h2 h3=>ih h1 h2 h3) caps hvl hvc
    cases hv with
    | tup hl hj=>exact .tup (by omega) fun j hj'=>l3 j (by omega) _ (hj j (by omega))
   ·simp at h
end Go.VL
namespace Go.VL
variable {P:Program}{S:Nat→Prop}{φ : List (List Nat)}{H:List R}{w:World}{T:Nat→Option TI}{fr:Fr}{a:Act}{n:Nat}
inductive Kind where
 | own
 | fz
 | proc
def fnOf:I→Option (Nat×List I)
 | .d (.fn f caps)=>some (f,caps.map .d)
 | .fn f caps=>some (f,caps)
 | _=>none
def qar:Op→Option (Operand×List Operand)
 | .call { callee:=.value f,args,.. }=>some (f,args.toList)
 | _=>none
def qcT (H:List R):List I→Option (Prop×List D):=qbX (view H 3)
def qew:List I→Option (Prop×List D):=qbX (view [] 0)
def guardOf (ops:List Oper) (fr:Fr) (j:Nat) (want:Bool):Option (Prop×Bool):=
 match (ops[j]?).bind (·.dst) with
 | some t=>
  if t<fr.n then
  match fr.get t with
  | .d x=>some (x.isBool,if want then x.toBool else !x.toBool)
  | .cond e (.d x)=>some ((e=true→x.isBool),e&&(if want then x.toBool else !x.toBool))
  | _=>none
  else none
 | none=>none
theorem qct (s:Sim S φ H w) {w':World}(g:Grow w w') (S':Nat→Prop) (h1 : ∀ b,S b→S' b) (h2 : ∀ b,S' b→S b∨w.heap.size≤b) (h3 : ∀ b,S' b→b<w'.heap.size) :
  Sim S' φ H w'∧Tr H.length S φ H w S' φ H w'∧Ext S φ w S' φ w':=by
 have hk : ∀ b,Foot φ b→w'.heap[b]?=w.heap[b]?:=fun b hb=>g.keep b (s.lt b hb)
 have htr:Tr H.length S φ H w S' φ H w':=by
  refine⟨h1,fun b hb=>g.keep b (s.slt b hb),Nat.le_refl _,Nat.le_refl _,fun _ _=>Nat.le_refl _,?_,fun j cs' hj hl'=>⟨cs',hl',rfl⟩,fun j cs' hj hl'=>⟨cs',hl',rfl⟩,fun j x hj hl'=>⟨hl',rfl,fun b hb=>hk b ⟨j,hb⟩⟩⟩
  intro j g' k dp' l' hj hl'
  exact .inr ⟨dp',l',hl',rfl,Nat.le_refl _,fun b rest arr ty e1 e2=>⟨arr,ty,by rw[hk b ⟨j,by rw[e1];simp⟩];exact e2,Nat.le_refl _⟩⟩
 refine⟨⟨s.len,s.nd,s.dj,fun b hb=>Nat.lt_of_lt_of_le (s.lt b hb) g.size,?_,h3,fun i r hr=>(s.rel i r hr).tr htr fun b hb=>hk b ⟨i,hb⟩⟩,htr,?_⟩
 ·intro b hb hS
  rcases h2 b hS with h|h
  ·exact s.off b hb h
  ·have:=s.lt b hb;omega
 ·exact⟨g.os,g.tape,g.output,g.size,fun b hb _=>g.keep b hb,fun _ h=>.inl h,h1,fun b hb=>(h2 b hb).imp id .inr⟩
theorem qd8 {x:I}{v:Value}(hv:V S φ H w x v) {f:Nat}{caps:List I}(h:fnOf x=some (f,caps)) :
  ∃ vs:Array Value,v=.func (.func f) #[] vs∧caps.length=vs.size∧∀ j,j<caps.length→V S φ H w (caps.getD j .junk) (vs.getD j undef):=by
 unfold fnOf at h
 split at h
 ·rename_i g ds
  simp only[Option.some.injEq,Prod.mk.injEq] at h
  obtain⟨rfl,rfl⟩:=h
  have hz:=hv.fz
  cases hz with
  | @fn _ _ vs hl hj=>
   refine⟨vs,rfl,by simpa using hl,fun j hj'=>?_⟩
   simp only[List.length_map] at hj'
   have e:(ds.map I.d).getD j .junk=.d (ds.getD j .nil):=by simp[List.getD,hj']
   rw[e]
   exact .d (hj j hj')
 ·simp only[Option.some.injEq,Prod.mk.injEq] at h
  obtain⟨rfl,rfl⟩:=h
  cases hv with
  | @fn _ _ vs hl hj=>exact⟨vs,rfl,hl,hj⟩
 ·simp at h
theorem qd9 {args caps:List I}{va vcs:Array Value}(h1:args.length=va.size) (h2 : ∀ j,j<args.length→V S φ H w (args.getD j .junk) (va.getD j undef))
  (h3:caps.length=vcs.size) (h4 : ∀ j,j<caps.length→V S φ H w (caps.getD j .junk) (vcs.getD j undef)) :
  (va++vcs).size=(args++caps).length∧∀ j,j<(args++caps).length→V S φ H w ((args++caps).getD j .junk) ((va++vcs).getD j undef):=by
 refine⟨by simp[h1,h3],fun j hj=>?_⟩
 simp only[List.getD,Array.getD_eq_getD_getElem?] at h2 h4 ⊢
 by_cases h:j<args.length
 ·rw[List.getElem?_append_left h,Array.getElem?_append_left (by omega)]
  exact h2 j h
 ·simp only[List.length_append] at hj
  rw[List.getElem?_append_right (by omega),Array.getElem?_append_right (by omega),←h1]
  exact h4 _ (by omega)
theorem qce {f:I→Option (Prop×D)}{S':Nat→Prop}(hf : ∀ x v vc d,V S φ H w x v→f x=some (vc,d)→vc→FZ S' w d v) {args:List I}{vs:Array Value}(hl:vs.size=args.length)
  (hv : ∀ j,j<args.length→V S φ H w (args.getD j .junk) (vs.getD j undef)) {vc:Prop}{ds:List D}(h:qbX f args=some (vc,ds)) (hvc:vc):qfI S' w ds vs:=by
 obtain⟨l1,l2⟩:=qcs (ok:=V S φ H w) hf args h hvc
 exact⟨by omega,fun j hj=>l2 j (by omega) _ (hv j (by omega))⟩
theorem qhQ : ∀ (x:I) (v:Value) (vc:Prop) (d:D),V S φ H w x v→view [] 0 x=some (vc,d)→vc→FZ S w d v:=by
 intro x v vc d hv h hvc
 cases x <;> simp only[view,Option.some.injEq,Prod.mk.injEq,reduceCtorEq] at h
 obtain⟨_,rfl⟩:=h
 exact hv.fz
theorem qcu {o:Oper}{f:Operand}{args:List Operand}(ho:qar o.op=some (f,args)) {g:Nat}{vs:Array Value}(hg:a.eval f=.func (.func g) #[] vs) (he:Ent P g) (w:World) :
  (execOp a.eval o).run P w=.ok (.enter g ((args.map a.eval).toArray++vs)) w:=by
 obtain⟨dst,op,ty,pos,after,guard⟩:=o
 cases op with
 | call c=>
  obtain⟨callee,as,tys⟩:=c
  cases callee with
  | value f'=>
   simp only[qar,Option.some.injEq,Prod.mk.injEq] at ho
   obtain⟨rfl,rfl⟩:=ho
   have e:as.map a.eval=(as.toList.map a.eval).toArray:=by rw[←Array.toList_map,Array.toArray_toList]
   simp only[execOp,resolve,hg,Deferred.ofValue,invoke,Sem.run_bind,Sem.run_pure,Result.andThen_ok,e,Array.empty_append]
   exact he _ _
  | _=>simp[qar] at ho
 | _=>simp[qar] at ho
theorem qba {o:Oper}{Qr:Exit→Act→World→Prop}{K:Act→World→Prop}{g:Nat}{vs:Array Value}(hr:(execOp a.eval o).run P w=.ok (.enter g vs) w)
  (h:Calls P g vs w fun|.returned v,w'=>K (a.put o.dst v) w'|.panicked _,_=>False|.outgrown,_=>False):o.wp P a w K Qr:=by
 unfold Oper.wp
 rw[hr,Oper.upon_enter]
 refine h.mono ?_
 intro e w' he
 cases e with
 | returned v=>exact he
 | panicked c=>exact he.elim
 | outgrown=>exact he.elim
theorem qbK (hf:FrR S φ H w fr a) {ops:List Oper}{o:Oper}{j:Nat}{want:Bool}(hgd:o.guard=some (j,want)) {gc:Prop}{e:Bool}(h:guardOf ops fr j want=some (gc,e)) (hgc:gc) :
  Region.wanted o (yielded ops.toArray a.tmps)=e:=by
 have bool : ∀ {t:Nat}{x:D},(ops[j]?).bind (·.dst)=some t→t<fr.n→V S φ H w (.d x) (a.tmps.getD t undef)→x.isBool→yielded ops.toArray a.tmps j=some x.toBool:=by
  intro t x ht hlt hv hb
  obtain⟨_,hb⟩:=hv.fz.bool_inv hb
  have hsz:t<a.tmps.size:=by rw[hf.size];exact hlt
  have hget:a.tmps[t]?=some (.bool x.toBool):=by
   rw[←hb]
   simp[Array.getD,hsz]
  have ht':(ops.toArray[j]?).bind (·.dst)=some t:=by simpa using ht
  unfold yielded
  rw[ht']
  simp only[Option.bind_some,hget]
 unfold guardOf at h
 split at h
 ·rename_i t ht
  split at h
  ·rename_i hlt
   split at h
   ·rename_i x hx
    simp only[Option.some.injEq,Prod.mk.injEq] at h
    obtain⟨rfl,rfl⟩:=h
    have hv:=hf.val t
    rw[hx] at hv
    simp only[Region.wanted,hgd,bool ht hlt hv hgc]
    cases want <;> cases x.toBool <;> rfl
   ·rename_i e' x hx
    simp only[Option.some.injEq,Prod.mk.injEq] at h
    obtain⟨rfl,rfl⟩:=h
    have hv:=hf.val t
    rw[hx] at hv
    cases hv with
    | cond hv h0=>
     cases e' with
     | true=>
      simp only[Region.wanted,hgd,bool ht hlt (hv rfl) (hgc rfl)]
      cases want <;> cases x.toBool <;> rfl
     | false=>
      have hsz:t<a.tmps.size:=by rw[hf.size];exact hlt
      have hget:a.tmps[t]?=some undef:=by
       rw[←h0 rfl]
       simp[Array.getD,hsz]
      have ht':(ops.toArray[j]?).bind (·.dst)=some t:=by simpa using ht
      have hy:yielded ops.toArray a.tmps j=none:=by
       unfold yielded
       rw[ht']
       simp only[Option.bind_some,hget]
       rfl
      simp only[Region.wanted,hgd,hy]
      cases want <;> rfl
   ·simp at h
  ·simp at h
 ·simp at h
theorem FrR.skip (hf:FrR S φ H w fr a) (dst:Option Tmp) {e:Bool}(he:e=false) (x:I):FrR S φ H w (fr.put dst (.cond e x)) (a.put dst undef):=
 hf.put dst (.cond (by simp[he]) fun _=>rfl)
end Go.VL
namespace Go.VL
variable {P:Program}{S:Nat→Prop}{φ : List (List Nat)}{H:List R}{w:World}{T:Nat→Option TI}{fr:Fr}{a:Act}{n:Nat}
def Ghost (n:Nat) (fr:Fr) (H:List R) (fr':Fr) (H':List R):Prop:=
 ∀ S φ w a,n≤H.length→Sim S φ H w→FrR S φ H w fr a→∃ S' φ',Sim S' φ' H' w∧FrR S' φ' H' w fr' a∧Ext S φ w S' φ' w∧Tr n S φ H w S' φ' H' w
theorem Ghost.refl (n:Nat) (fr:Fr) (H:List R):Ghost n fr H fr H:=fun S φ w a hn s hf=>⟨S,φ,s,hf,Ext.refl ..,Tr.refl hn⟩
theorem Ghost.trans {fr fr' fr'':Fr}{H H' H'':List R}(g:Ghost n fr H fr' H') (g':Ghost n fr' H' fr'' H''):Ghost n fr H fr'' H'':=by
 intro S φ w a hn s hf
 obtain⟨S',φ',s',hf',he,ht⟩:=g S φ w a hn s hf
 obtain⟨S'',φ'',s'',hf'',he',ht'⟩:=g' S' φ' w a ht.len s' hf'
 exact⟨S'',φ'',s'',hf'',he.trans he',ht.trans ht'⟩
theorem qgS {c:Code}{Q:Post}{fr fr':Fr}{H H':List R}(g:Ghost n fr H fr' H') (h:iwp P n c Q fr' H'):iwp P n c Q fr H:=by
 intro S φ a w Qr hn s hf hq
 obtain⟨S',φ',s',hf',he,ht⟩:=g S φ w a hn s hf
 exact h S' φ' a w Qr ht.len s' hf' fun e a2 w2 S2 φ2 fr2 H2 b1 b2 b3 b4 b5=>hq e a2 w2 S2 φ2 fr2 H2 b1 b2 (he.trans b3) (ht.trans b4) b5
def qjj (n:Nat) (Q:Fr→List R→Prop) (fr:Fr) (H:List R):Prop:=∃ fr' H',Ghost n fr H fr' H'∧Q fr' H'
theorem qjk {c:Code}{Q:Post}{N:Fr→List R→Prop}(h:iwp P n c (qf0 (qjj n N) Q) fr H):iwp P n c (qf0 N Q) fr H:=by
 intro S φ a w Qr hn s hf hq
 refine h S φ a w Qr hn s hf ?_
 intro e a2 w2 S2 φ2 fr2 H2 b1 b2 b3 b4 b5
 cases e with
 | normal=>
  obtain⟨fr',H',g,hN⟩:=b5
  obtain⟨S',φ',s',hf',he,ht⟩:=g S2 φ2 w2 a2 b4.len b1 b2
  exact hq _ a2 w2 S' φ' fr' H' s' hf' (b3.trans he) (b4.trans ht) hN
 | exit id=>exact hq _ a2 w2 S2 φ2 fr2 H2 b1 b2 b3 b4 b5
 | goto l=>exact hq _ a2 w2 S2 φ2 fr2 H2 b1 b2 b3 b4 b5
 | ret=>exact hq _ a2 w2 S2 φ2 fr2 H2 b1 b2 b3 b4 b5
 | panic ch=>exact hq _ a2 w2 S2 φ2 fr2 H2 b1 b2 b3 b4 b5
 | outgrown=>exact hq _ a2 w2 S2 φ2 fr2 H2 b1 b2 b3 b4 b5
theorem qgT {c:Code}{Q:Post}(J:Nat→Fr→List R→Prop) (m:Nat) (h0:qjj n (J m) fr H)
  (hr : ∀ m fr H,J m fr H→iwp P n c (qf0 (qjj n (fun fr' H'=>∃ m',m'<m∧J m' fr' H')) Q) fr H):iwp P n (.loop c) Q fr H:=by
 obtain⟨fr',H',g,hJ⟩:=h0
 exact qgS g (qk0 J m hJ fun m fr H h=>qjk (hr m fr H h))
def keepL (l:List Nat) (fr:Fr):Fr:={ fr with m:=l.map fun t=>(t,fr.get t) }
theorem qjl (l:List Nat) (f:Nat→I) (t:Nat):look t (l.map fun t=>(t,f t))=if t∈l then f t else .junk:=by
 induction l with
 | nil=>rfl
 | cons s r ih=>
  simp only[List.map_cons,look,ih,List.mem_cons]
  by_cases h:s=t
  ·subst h;simp
  ·rw[if_neg h]
   by_cases h2:t∈r
   ·simp[h2]
   ·have : ¬ (t=s∨t∈r):=by rintro(h3|h3);exact h h3.symm;exact h2 h3
    simp[h2,Ne.symm h]
theorem Ghost.keep (l:List Nat) (fr:Fr) (H:List R):Ghost n fr H (keepL l fr) H:=by
 intro S φ w a hn s hf
 refine⟨S,φ,s,⟨hf.defers,hf.size,fun t=>?_⟩,Ext.refl ..,Tr.refl hn⟩
 show V S φ H w (look t (l.map fun t=>(t,fr.get t))) _
 rw[qjl]
 split
 ·exact hf.val t
 ·exact .junk
mutual
def I.idlt (m:Nat):I→Prop
 | .d _=>True
 | .agg cs=>qdw m cs
 | .sl i _ _ _ _=>i<m
 | .ptr i _=>i<m
 | .eptr i _ _ _ _ _=>i<m
 | .bor i _ _ _ _ _ _=>i<m
 | .bptr i _ _ _ _ _ _ _=>i<m
 | .map i=>i<m
 | .fn _ caps=>qdw m caps
 | .tup vs=>qdw m vs
 | .own i=>i<m
 | .cond _ x=>x.idlt m
 | .junk=>True
def qdw (m:Nat):List I→Prop
 | []=>True
 | x::r=>x.idlt m∧qdw m r
end
def qeZ (m:Nat):List (Nat×I)→Prop
 | []=>True
 | (_,x)::r=>x.idlt m∧qeZ m r
def qle (m:Nat):List (Nat×Nat×I)→Prop
 | []=>True
 | h::r=>h.2.2.idlt m∧qle m r
def DP.idlt (m:Nat):DP→Prop
 | .own (h::hs)=>qle m (h::hs)
 | _=>True
theorem DP.idlt_hs {m:Nat}{hs:List (Nat×Nat×I)}(h:(DP.own hs).idlt m):qle m hs:=by
 cases hs with
 | nil=>trivial
 | cons x r=>exact h
theorem qge {m k:Nat} : ∀ {hs:List (Nat×Nat×I)}{j:Nat}{x:I},qle m hs→qan k hs j=some x→x.idlt m
 | [],j,x,h,e=>by simp[qan] at e
 | (a,b,c)::r,j,x,h,e=>by
  simp only[qan] at e
  split at e
  ·simp only[Option.some.injEq] at e
   subst e
   exact h.1
  ·exact qge h.2 e
def R.idlt (m:Nat):R→Prop
 | .box cs=>qdw m cs
 | .row _ _ dp _=>dp.idlt m
 | _=>True
def qbL (m:Nat):List R→Prop
 | []=>True
 | x::r=>x.idlt m∧qbL m r
theorem qaT {m:Nat} : ∀ {cs:List I},qdw m cs→∀ j,j<cs.length→(cs.getD j .junk).idlt m
 | [],_,j,hj=>by simp at hj
 | x::r,h,0,_=>by simpa [List.getD] using h.1
 | x::r,h,j+1,hj=>by simpa [List.getD] using qaT h.2 j (by simpa using hj)
theorem qcU {m:Nat} : ∀ {H:List R},qbL m H→∀ (i:Nat) (r:R),H[i]?=some r→r.idlt m
 | [],_,i,r,h=>by simp at h
 | x::l,hb,0,r,h=>by simp at h;subst h;exact hb.1
 | x::l,hb,i+1,r,h=>qcU hb.2 i r (by simpa using h)
theorem qgU {m:Nat} : ∀ {l:List (Nat×I)},qeZ m l→∀ t,(look t l).idlt m
 | [],_,t=>trivial
 | (s,x)::r,h,t=>by
  simp only[look]
  split
  ·exact h.1
  ·exact qgU h.2 t
theorem qaD {α : Type}(l:List α) (m i:Nat) (hi:i<m):(l.take m)[i]?=l[i]?:=by simp[List.getElem?_take,hi]
theorem V.take {m:Nat}(hm:m≤H.length) (hφ : φ.length=H.length) {x:I}{v:Value}(h:V S φ H w x v) (hb:x.idlt m):V S (φ.take m) (H.take m) w x v:=by
 have hl:(H.take m).length=m:=by simp;omega
 have hf : ∀ i,i<m→(φ.take m).getD i [] = φ.getD i []:=fun i hi=>getD_take _ _ _ _ hi
 have hg : ∀ i,i<m→(H.take m).getD i (.dead 0)=H.getD i (.dead 0):=fun i hi=>getD_take _ _ _ _ hi
 induction h with
 | d h=>exact .d h
 | agg hl' h1 h ih=>exact .agg hl' h1 fun j hj=>ih j hj (qaT hb j hj)
 | sl hi hgen h h1=>
  simp only[I.idlt] at hb
  exact .sl (by omega) (by rw[hg _ hb];exact hgen) (fun dp l hl'=>by rw[hf _ hb];exact h dp l (by rw[qaD _ _ _ hb] at hl';exact hl')) h1
 | ptr hi h h1=>
  simp only[I.idlt] at hb
  exact .ptr (by omega) (fun cs hl'=>by rw[hf _ hb];exact h cs (by rw[qaD _ _ _ hb] at hl';exact hl')) h1
 | eptr hi hgen h h1=>
  simp only[I.idlt] at hb
  exact .eptr (by omega) (by rw[hg _ hb];exact hgen) (fun dp l hl'=>by rw[hf _ hb];exact h dp l (by rw[qaD _ _ _ hb] at hl';exact hl')) h1
 | map hi h h1=>
  simp only[I.idlt] at hb
  exact .map (by omega) (fun cs hl'=>by rw[hf _ hb];exact h cs (by rw[qaD _ _ _ hb] at hl';exact hl')) h1
 | fn hl' h ih=>exact .fn hl' fun j hj=>ih j hj (qaT hb j hj)
 | tup hl' h ih=>exact .tup hl' fun j hj=>ih j hj (qaT hb j hj)
 | own hi h=>
  simp only[I.idlt] at hb
  exact .own (by omega) (fun x hl'=>by rw[hf _ hb];exact h x (by rw[qaD _ _ _ hb] at hl';exact hl'))
 | cond h h0 ih=>exact .cond (fun e=>ih e hb) h0
 | junk=>exact .junk
theorem RRel.take {m:Nat}(hm:m≤H.length) (hφ : φ.length=H.length) {fp:List Nat}{r:R}(h:RRel S φ H w fp r) (hb:r.idlt m):RRel S (φ.take m) (H.take m) w fp r:=by
 cases r with
 | box cs=>
  obtain⟨b,arr,ty,h1,h2,h3,h4⟩:=h
  exact⟨b,arr,ty,h1,h2,h3,fun j hj=>⟨(h4 j hj).1,(h4 j hj).2.take hm hφ (qaT hb j hj)⟩⟩
 | row g k dp l=>
  obtain⟨h1,h2,h3,h4,h5⟩:=h
  refine⟨h1,h2,h3,h4,?_⟩
  rcases h5 with h5|⟨b,rest,arr,ty,e1,e2,e3,e4⟩
  ·exact .inl h5
  ·refine .inr ⟨b,rest,arr,ty,e1,e2,e3,?_⟩
   cases dp with
   | fz=>exact e4
   | own hs=>
    obtain⟨F,f1,f2,f3⟩:=e4
    refine⟨F,f1,f2,fun j hj=>?_⟩
    have hc:=f3 j hj
    generalize ho:qan k hs j=o at hc
    cases o with
    | none=>exact hc
    | some x=>exact⟨hc.1,hc.2.1,hc.2.2.1,hc.2.2.2.take hm hφ (qge (DP.idlt_hs hb) ho)⟩
 | map es=>exact h
 | val x=>trivial
 | dead g=>trivial
theorem Ghost.drop (m:Nat) {fr:Fr}{H:List R}(hn:n≤m) (hm:m≤H.length) (hf:qeZ m fr.m) (hH:qbL m (H.take m)):Ghost n fr H fr (H.take m):=by
 intro S φ w a hn' s hfr
 have hφ:=s.len
 have hget : ∀ i,(φ.take m).getD i []=if i<m then φ.getD i [] else []:=by
  intro i
  by_cases h:i<m
  ·rw[if_pos h,getD_take _ _ _ _ h]
  ·rw[if_neg h]
   simp[List.getD,List.getElem?_take,h]
 have hfoot : ∀ b,Foot (φ.take m) b→Foot φ b:=by
  rintro b ⟨i,hi⟩
  rw[hget] at hi
  split at hi
  ·exact⟨i,hi⟩
  ·simp at hi
 refine⟨S,φ.take m,⟨by simp[hφ],?_,?_,fun b hb=>s.lt b (hfoot b hb),fun b hb=>s.off b (hfoot b hb),s.slt,?_⟩,⟨hfr.defers,hfr.size,fun t=>(hfr.val t).take hm hφ (qgU hf t)⟩,
  ⟨rfl,rfl,rfl,Nat.le_refl _,fun _ _ _=>rfl,fun b hb=>.inl (hfoot b hb),fun _ h=>h,fun _ h=>.inl h⟩,?_⟩
 ·intro i
  rw[hget]
  split
  ·exact s.nd i
  ·simp
 ·intro i j b hb hb'
  rw[hget] at hb hb'
  split at hb
  ·split at hb'
   ·exact s.dj i j b hb hb'
   ·simp at hb'
  ·simp at hb
 ·intro i r hr
  have hlt:i<m:=by
   have:=(List.getElem?_eq_some_iff.1 hr).1
   simp at this
   omega
  rw[hget,if_pos hlt]
  have hb:=qcU hH i r hr
  rw[qaD _ _ _ hlt] at hr
  exact(s.rel i r hr).take hm hφ hb
 ·refine⟨fun _ h=>h,fun _ _=>rfl,hn',by simp;omega,fun i hi=>by rw[getD_take _ _ _ _ (by omega)];exact Nat.le_refl _,?_,?_,?_,?_⟩
  ·intro i g k dp' l' hi hl'
   rw[qaD _ _ _ (by omega)] at hl'
   exact .inr ⟨dp',l',hl',by rw[getD_take _ _ _ _ (by omega)],Nat.le_refl _,fun b rest arr ty e1 e2=>⟨arr,ty,e2,Nat.le_refl _⟩⟩
  ·intro i cs hi hl'
   rw[qaD _ _ _ (by omega)] at hl'
   exact⟨cs,hl',getD_take _ _ _ _ (by omega)⟩
  ·intro i cs hi hl'
   rw[qaD _ _ _ (by omega)] at hl'
   exact⟨cs,hl',getD_take _ _ _ _ (by omega)⟩
  ·intro i x hi hl'
   rw[qaD _ _ _ (by omega)] at hl'
   exact⟨hl',getD_take _ _ _ _ (by omega),fun _ _=>rfl⟩
theorem Ghost.own (t k:Nat) (dp:Bool) {fr:Fr}{H:List R}(ht:fr.get t=.d .nil) (hlt:t<fr.n) (hk:0<k):Ghost n fr H (fr.put (some t) (.sl H.length 0 k 0 0)) (H ++ [.row 0 k (.ofB dp) []]):=by
 intro S φ w a hn s hf
 obtain⟨φ',a1,a2,a3,a4⟩:=qf9 s (k:=k) (.ofB dp) hk
 refine⟨S,φ',a1,?_,a3,a2.weaken hn⟩
 have hv:=hf.val t
 rw[ht] at hv
 have hz:=hv.fz
 have e:a.tmps.getD t undef=.slice none 0 0:=by
  generalize a.tmps.getD t undef=v at hz
  cases hz
  rfl
 have:=(hf.tr a2).put (some t) a4
 have e2:a.put (some t) (.slice none 0 0)=a:=by
  simp only[Act.put]
  congr 1
  apply Array.ext_getElem?
  intro j
  rw[Array.getElem?_setIfInBounds]
  split
  ·subst_vars
   have hsz:=hf.size
   simp only[Array.getD_eq_getD_getElem?] at e
   split
   ·rename_i h
    simp[h] at e
    simp[h,e]
   ·rename_i h;simp[h]
  ·rfl
 rw[e2] at this
 exact this
theorem Ghost.ownBox (i j k:Nat) (dp:Bool) {fr:Fr}{H:List R}{cs:List I}(hi:H[i]?=some (.box cs)) (hj:cs.getD j .junk=.d .nil) (hlt:j<cs.length) (hk:0<k) :
  Ghost n fr H fr ((H ++ [R.row 0 k (.ofB dp) []]).set i (.box (cs.set j (.sl H.length 0 k 0 0)))):=by
 intro S φ w a hn s hf
 obtain⟨φ',a1,a2,a3,a4⟩:=qf9 s (k:=k) (.ofB dp) hk
 have hi':(H ++ [R.row 0 k (.ofB dp) []])[i]?=some (.box cs):=by
  rw[List.getElem?_append_left (List.getElem?_eq_some_iff.1 hi).1];exact hi
 obtain⟨b,arr,ty,hfp,hb,hsz,hv⟩:=a1.rel i _ hi'
 have hv':=(hv j hlt).2
 rw[hj] at hv'
 have e:arr.getD j undef=.slice none 0 0:=by
  have hz:=hv'.fz
  generalize arr.getD j undef=v at hz
  cases hz
  rfl
 obtain⟨φ2,b1,b2,b3⟩:=qi9 a1 hi' hfp hb (cs':=cs.set j (.sl H.length 0 k 0 0)) (arr':=arr) ⟨by simp[hsz],fun m hm=>by
  simp only[List.length_set] at hm
  refine⟨(hv m hm).1,?_⟩
  by_cases hmj:m=j
  ·subst hmj
   rw[e]
   have:(cs.set m (.sl H.length 0 k 0 0)).getD m .junk=.sl H.length 0 k 0 0:=by simp[List.getD,hlt]
   rw[this]
   exact a4
  ·have:(cs.set j (.sl H.length 0 k 0 0)).getD m .junk=cs.getD m .junk:=by simp[List.getD,List.getElem?_set,Ne.symm hmj]
   rw[this]
   exact(hv m hm).2⟩
 have hself:w.setRow b arr=w:=setRow_self w b arr ty (0,0) hb
 rw[hself] at b1 b2 b3
 refine⟨S,φ2,b1,(hf.tr a2).tr b2,a3.trans b3,?_⟩
 have hn2:n≤(H ++ [R.row 0 k (.ofB dp) []]).length:=by rw[List.length_append];omega
 exact(a2.weaken hn).trans (b2.weaken hn2)
end Go.VL

/- Contracts, plain definitions and lemmas. Conditions: none; lemmas. -/
import Derived.Test.YteikeianenfhaaaGreatC70
import Derived.Test.YteikeianenfhaaaGreatC97
set_option linter.unusedVariables false
set_option linter.unusedSimpArgs false
set_option maxHeartbeats 2000000
namespace Go.VL
def valOf (c:Circ) (st ins:List Bool) (v:Int):Bool:=(values c st ins).getD v.toNat false
theorem qd5 {c:Circ}{st ins:List Bool}{i n:Nat}(h:i<=n) {v:Nat}(hv:v<1+ins.length+st.length+i):(qcW c st ins n).getD v false=(qcW c st ins i).getD v false:=by
 obtain⟨k,rfl⟩ : ∃ k,n=i+k:=⟨n-i,by omega⟩;obtain⟨r,hr⟩:=qlw c st ins (i:=i) k;rw[hr,qae (by rw[qe1];exact hv)]
section vals
variable {c:Circ}{st ins:List Bool}
theorem qkJ:valOf c st ins 0=false:=by
 rw[valOf,values,qd5 (i:=0) (by omega) (by simp;omega)];rfl
theorem val_in (h2:(ins.length:Int)=c.inputs) {v:Int}(h0:1<=v) (hv:v<=c.inputs):valOf c st ins v=ins.getD (v-1).toNat false:=by
 rw[valOf,values,qd5 (i:=0) (by omega) (by omega),qgT];obtain⟨m,hm⟩ : ∃ m:Nat,v=(m:Int)+1:=⟨(v-1).toNat,by omega⟩;subst hm;rw[show((m:Int)+1).toNat=m+1 by omega,show((m:Int)+1-1).toNat=m by omega];show(ins++st).getD m false=_
 exact qae (by omega)
theorem qqO (h1:st.length=c.next.length) (h2:(ins.length:Int)=c.inputs) {i:Nat}(hi:i<c.next.length):valOf c st ins (c.inputs+1+(i:Int))=st.getD i false:=by
 rw[valOf,values,qd5 (i:=0) (by omega) (by omega),qgT];rw[show(c.inputs+1+(i:Int)).toNat=(ins.length+i)+1 by omega];show(ins++st).getD (ins.length+i) false=_
 simp[List.getD,List.getElem?_append_right]
theorem qte (hc:c.Valid) (h1:st.length=c.next.length) (h2:(ins.length:Int)=c.inputs) {i:Nat}(hi:i<c.gates.length) :
  valOf c st ins (c.first+(i:Int))=((valOf c st ins (qbN c i/2) != decide (qbN c i%2=1))&&(valOf c st ins (qbO c i/2) != decide (qbO c i%2=1))):=by
 have hf:c.first=1+(ins.length:Int)+st.length:=by rw[Circ.first];omega
 obtain⟨g1,g2⟩:=hc.g i hi;have q1:valOf c st ins (qbN c i/2)=(qcW c st ins i).getD (qbN c i/2).toNat false:=by
  unfold qaK at g1;rw[valOf,values,qd5 (i:=i) (by omega) (by unfold qbN;omega)]
 have q2:valOf c st ins (qbO c i/2)=(qcW c st ins i).getD (qbO c i/2).toNat false:=by
  unfold qaK at g2;rw[valOf,values,qd5 (i:=i) (by omega) (by unfold qbO;omega)]
 rw[q1,q2,valOf,values,qd5 (i:=i+1) (by omega) (by omega),qcW];have e:(c.first+(i:Int)).toNat=(qcW c st ins i).length:=by rw[qe1];omega
 rw[e,show ∀ (l:List Bool) (b:Bool),(l ++ [b]).getD l.length false=b from fun l b=>by simp[List.getD]];rfl
def encodes (c:Circ) (st ins:List Bool) (L:List Int) (x:Nat):Prop:=∀ z∈L,x.testBit (L.idxOf z)=valOf c st ins z
theorem qjP {L:List Int}{x:Nat}(he:encodes c st ins L x) {v:Int}{d:Bool}(hd:d=valOf c st ins v):qd1 L x v d=valOf c st ins v:=by
 unfold qd1;split
 ·exact he v (by assumption)
 ·exact hd
theorem cut_sem (hc:c.Valid) (h1:st.length=c.next.length) (h2:(ins.length:Int)=c.inputs) : ∀ i,i<=c.gates.length->∀ v,v<(qaM c i).length->∀ cut∈(qaM c i).getD v [],∀ (L:List Int) (x:Nat),(∀ z∈cut,z∈L)->encodes c st ins L x->qcu c L x (v:Int)=valOf c st ins (v:Int):=by
 have hf:=hc.first_bd;intro i;induction i with
 | zero=>
  intro _ v hv cut hcut L x hL he;rw[qbf hf.1] at hv;rw[qgj (by omega) (by omega)];cases v with
  | zero=>
   refine qjP he ?_;have:=qkJ (c:=c) (st:=st) (ins:=ins);exact this.symm
  | succ v=>
   have e:(qaM c 0).getD (v+1) []=[[(v:Int)+1]]:=by
    simp[qaM,List.getD,show v<c.first.toNat-1 by omega]
   rw[e] at hcut;obtain rfl:cut=[(v:Int)+1]:=by simpa using hcut
   have hm:=hL ((v:Int)+1) (by simp);unfold qd1;rw[if_pos (by rw[show((v+1:Nat):Int)=(v:Int)+1 by omega];exact hm)];exact he _ (by rw[show((v+1:Nat):Int)=(v:Int)+1 by omega];exact hm)
 | succ i ih=>
  intro hi v hv cut hcut L x hL he;have hl:=qbf (c:=c) hf.1 i;rw[qbf hf.1] at hv;by_cases h:v<c.first.toNat+i
  ·have e:(qaM c (i+1)).getD v []=(qaM c i).getD v []:=by rw[qaM];exact qae (by omega)
   rw[e] at hcut;exact ih (by omega) v (by omega) cut hcut L x hL he
  ·have hv2:v=c.first.toNat+i:=by omega
   subst hv2;rw[qdZ hf.1 (by omega:i<i+1)] at hcut;obtain⟨g1,g2⟩:=hc.g i (by omega);have ha:0<=qbN c i/2/\(qbN c i/2).toNat<c.first.toNat+i:=by unfold qbN;unfold qaK at g1;omega
   have hb:0<=qbO c i/2/\(qbO c i/2).toNat<c.first.toNat+i:=by unfold qbO;unfold qaK at g2;omega
   have ev:((c.first.toNat+i:Nat):Int)=c.first+(i:Int):=by omega
   rw[ev,qgZ hc (by omega)];rcases List.mem_append.1 hcut with h3|h3
   ·obtain⟨xa,ya,hxa,hya,rfl⟩ : ∃ xa ya,xa∈(qaM c i).getD (qbN c i/2).toNat []/\ya∈(qaM c i).getD (qbO c i/2).toNat []/\cut=qaS xa ya:=
     qgi (P:=fun cut=>∃ xa ya,xa∈(qaM c i).getD (qbN c i/2).toNat []/\ya∈(qaM c i).getD (qbO c i/2).toNat []/\cut=qaS xa ya) (fun x hx y hy _=>⟨x,y,hx,hy,rfl⟩) cut h3
    have ia:=ih (by omega) _ (by rw[hl];exact ha.2) xa hxa L x (fun z hz=>hL z ((qbl _ _).2 (.inl hz))) he;have ib:=ih (by omega) _ (by rw[hl];exact hb.2) ya hya L x (fun z hz=>hL z ((qbl _ _).2 (.inr hz))) he;rw[Int.toNat_of_nonneg ha.1] at ia;rw[Int.toNat_of_nonneg hb.1] at ib;refine qjP he ?_;rw[ia,ib,qte hc h1 h2 (by omega)]
   ·obtain rfl:cut=[c.first+(i:Int)]:=by simpa using h3
    have hm:=hL (c.first+(i:Int)) (by simp);unfold qd1;rw[if_pos hm];exact he _ hm
def qbk (f:Int->Bool):List Int->Nat
 | []=>0
 | z::r=>(if f z then 1 else 0)+2*qbk f r
theorem qfo {f:Int->Bool} : ∀ (L:List Int),qbk f L<2 ^ L.length
 | []=>by simp[qbk]
 | z::r=>by
  have:=qfo (f:=f) r;rw[qbk,yau,Nat.pow_succ];split <;> omega
theorem qlM {f:Int->Bool} : ∀ (L:List Int) (k:Nat),k<L.length->(qbk f L).testBit k=f (L.getD k 0)
 | [],k,h=>by simp at h
 | z::r,0,_=>by
  rw[qbk,Nat.testBit_zero];cases hz:f z <;> simp[hz] <;> omega
 | z::r,k+1,h=>by
  rw[qbk,Nat.testBit_succ,show((if f z=true then 1 else 0)+2*qbk f r)/2=qbk f r by split <;> omega];exact qlM r k (by simpa using h)
theorem qqP {L:List Int}:encodes c st ins L (qbk (valOf c st ins) L):=by
 intro z hz;have hk:L.idxOf z<L.length:=List.idxOf_lt_length_iff.2 hz;rw[qlM L _ hk];congr 1;simp[List.getD,hk]
theorem qqQ (hc:c.Valid) (h1:st.length=c.next.length) (h2:(ins.length:Int)=c.inputs) {i:Nat}(hi:i<c.gates.length) :
  (qd2 c (c.first+(i:Int)) ((qbY c).getD (c.first.toNat+i) []) (2 ^ ((qbY c).getD (c.first.toNat+i) []).length)).testBit (qbk (valOf c st ins) ((qbY c).getD (c.first.toNat+i) []))=valOf c st ins (c.first+(i:Int)):=by
 have hf:=hc.first_bd;have hm:=qlH hc hi;rw[qjL _ _ _ _ _ (qfo _)];have hl:=qbf (c:=c) hf.1 (i+1);have:=cut_sem hc h1 h2 (i+1) (by omega) (c.first.toNat+i) (by omega) _ (by rw[qdZ hf.1 (by omega:i<i+1)];exact yaC _ hm) _ _ (fun z hz=>hz) (qqP (c:=c) (st:=st) (ins:=ins) (L:=(qbY c).getD (c.first.toNat+i) []));rw[show((c.first.toNat+i:Nat):Int)=c.first+(i:Int) by omega] at this;exact this
end vals
noncomputable def qe4 (c:Circ) (i:Nat):Lut:=⟨c.first+(i:Int),(qbY c).getD (c.first.toNat+i) [],qlI c (c.first+(i:Int)) ((qbY c).getD (c.first.toNat+i) [])⟩
structure MapOk (c:Circ) (j:Nat) (need:List Bool) (new:List Lut):Prop where
 each : ∀ l∈new,∃ i,i<j/\l=qe4 c i
 asc:new.Pairwise fun a b=>a.var<b.var
 all : ∀ i,i<j->((∃ l∈new,l.var=c.first+(i:Int))↔need.getD (c.first.toNat+i) false=true∨∃ l∈new,c.first+(i:Int)∈l.leaves)
theorem qm2 {c:Circ}(hc:c.Valid) : ∀ (j:Nat),j<=c.gates.length->∀ (need:List Bool) (out:List Lut),need.length=c.vars.toNat->∃ new,mapD c j need out=new++out/\MapOk c j need new
 | 0,_,need,out,_=>⟨[],rfl,by simp,by simp,by omega⟩
 | j+1,hj,need,out,hn=>by
  have hf:=hc.first_bd;have hv:=hc.vars_bd;have hvv:c.vars=c.first+(c.gates.length:Int):=rfl
  have hb:=qet hc (i:=j) (by omega);simp only[mapD];split
  ·rename_i hnd;obtain⟨new,e,m⟩:=qm2 hc j (by omega) (qck need ((qbY c).getD (c.first.toNat+j) [])) (qe4 c j::out) (by rw[qcL];exact hn);refine⟨new ++ [qe4 c j],by rw[yaq];exact e,fun l hl=>?_,?_,fun i hi=>?_⟩
   ·rcases List.mem_append.1 hl with h|h
    ·obtain⟨i,h1,h2⟩:=m.each l h;exact⟨i,by omega,h2⟩
    ·obtain rfl:l=qe4 c j:=by simpa using h
     exact⟨j,by omega,rfl⟩
   ·rw[List.pairwise_append];refine⟨m.asc,by simp,fun a ha b hb2=>?_⟩;obtain rfl:b=qe4 c j:=by simpa using hb2
    obtain⟨i,h1,rfl⟩:=m.each a ha;show c.first+(i:Int)<c.first+(j:Int)
    omega
   ·have hleaf : ∀ i',i'<j->(c.first+(i':Int)∈(qe4 c j).leaves↔c.first+(i':Int)∈(qbY c).getD (c.first.toNat+j) []):=fun i' _=>Iff.rfl
    by_cases hij:i=j
    ·subst hij;constructor
     ·exact fun _=>.inl hnd
     ·exact fun _=>⟨qe4 c i,by simp,rfl⟩
    ·have hi2:i<j:=by omega
     have hset:=qd3 ((qbY c).getD (c.first.toNat+j) []) need (c.first.toNat+i) (fun v hv=>by have:=hb.2.2 v hv;omega);have hmi:=m.all i hi2;rw[hset,yaT,decide_eq_true_eq] at hmi;have hlt:c.first.toNat+i<need.length:=by omega
     have ev:((c.first.toNat+i:Nat):Int)=c.first+(i:Int):=by omega
     rw[ev] at hmi;constructor
     ·rintro⟨l,hl,hlv⟩;rcases List.mem_append.1 hl with h|h
      ·rcases hmi.1 ⟨l,h,hlv⟩ with(h2|⟨_,h2⟩)|⟨l2,h2,h3⟩
       ·exact .inl h2
       ·exact .inr ⟨qe4 c j,by simp,h2⟩
       ·exact .inr ⟨l2,yaC _ h2,h3⟩
      ·obtain rfl:l=qe4 c j:=by simpa using h
       have:c.first+(j:Int)=c.first+(i:Int):=hlv
       omega
     ·rintro(h|⟨l,hl,hlv⟩)
      ·obtain⟨l,h1,h2⟩:=hmi.2 (.inl (.inl h));exact⟨l,yaC _ h1,h2⟩
      ·rcases List.mem_append.1 hl with h|h
       ·obtain⟨l,h1,h2⟩:=hmi.2 (.inr ⟨l,h,hlv⟩);exact⟨l,yaC _ h1,h2⟩
       ·obtain rfl:l=qe4 c j:=by simpa using h
        obtain⟨l,h1,h2⟩:=hmi.2 (.inl (.inr ⟨hlt,hlv⟩));exact⟨l,yaC _ h1,h2⟩
  ·rename_i hnd;obtain⟨new,e,m⟩:=qm2 hc j (by omega) need out hn;refine⟨new,e,fun l hl=>?_,m.asc,fun i hi=>?_⟩
   ·obtain⟨i,h1,h2⟩:=m.each l hl;exact⟨i,by omega,h2⟩
   ·by_cases hij:i=j
    ·subst hij;constructor
     ·rintro⟨l,hl,hlv⟩;obtain⟨i2,h1,rfl⟩:=m.each l hl;have:c.first+(i2:Int)=c.first+(i:Int):=hlv
      omega
     ·rintro(h|⟨l,hl,hlv⟩)
      ·exact absurd h hnd
      ·obtain⟨i2,h1,rfl⟩:=m.each l hl;have:=(qet hc (i:=i2) (by omega)).2.2 _ hlv;omega
    ·exact m.all i (by omega)
theorem qlN (c:Circ):(qg0 c).length=c.vars.toNat:=by rw[qg0,qcL];simp
theorem qiR {c:Circ}(hc:c.Valid) : ∀ v∈qcO c,0<=v/\v<c.vars:=by
 intro v hv;obtain⟨l,hl,rfl⟩:=List.mem_map.1 hv;have:qaK l c.vars:=by
  rcases List.mem_append.1 hl with h|h
  ·exact hc.o l h
  ·exact hc.n l h
 unfold qaK at this;omega
theorem qqR {c:Circ}(hc:c.Valid) {v:Nat}(hv:(v:Int)<c.vars):(qg0 c).getD v false=decide ((v:Int)∈qcO c):=by
 rw[qg0,qd3 _ _ _ fun z hz=>(qiR hc z hz).1];have e:(List.replicate c.vars.toNat false).getD v false=false:=by
  rw[List.getD_eq_getElem?_getD,List.getElem?_replicate];split <;> rfl
 rw[e,Bool.false_or];exact decide_eq_decide.2 ⟨fun h=>h.2,fun h=>⟨by simp;omega,h⟩⟩
theorem qew {c:Circ}(hc:c.Valid):MapOk c c.gates.length (qg0 c) (qeu c):=by
 obtain⟨new,e,m⟩:=qm2 hc c.gates.length (yad _) (qg0 c) [] (qlN c);rw[yaL] at e;rw[qeu,e];exact m
theorem qtf {c:Circ}(hc:c.Valid) {i:Nat}(hi:i<c.gates.length):qe4 c i∈qeu c↔c.first+(i:Int)∈qcO c∨∃ l∈qeu c,c.first+(i:Int)∈l.leaves:=by
 have hf:=hc.first_bd;have m:=qew hc;have:=m.all i hi;have hvv:c.vars=c.first+(c.gates.length:Int):=rfl
 rw[qqR hc (by omega),decide_eq_true_eq,show((c.first.toNat+i:Nat):Int)=c.first+(i:Int) by omega] at this;rw[<-this];constructor
 ·exact fun h=>⟨_,h,rfl⟩
 ·rintro⟨l,hl,hv⟩;obtain⟨i2,h1,rfl⟩:=m.each l hl;have:c.first+(i2:Int)=c.first+(i:Int):=hv
  obtain rfl:i2=i:=by omega
  exact hl
theorem qlO {c:Circ}(hc:c.Valid):(qeu c).length<=c.gates.length:=by
 have m:=qew hc;have h1:((qeu c).map fun l=>(l.var-c.first).toNat).Nodup:=by
  rw[List.nodup_iff_pairwise_ne,List.pairwise_map];refine m.asc.imp_of_mem fun {a b} ha hb h=>?_
  obtain⟨i,-,rfl⟩:=m.each a ha;obtain⟨j,-,rfl⟩:=m.each b hb;have:c.first+(i:Int)<c.first+(j:Int):=h
  show(c.first+(i:Int)-c.first).toNat≠(c.first+(j:Int)-c.first).toNat
  omega
 have h2:((qeu c).map fun l=>(l.var-c.first).toNat) ⊆ List.range c.gates.length:=by
  intro x hx;obtain⟨l,hl,rfl⟩:=List.mem_map.1 hx;obtain⟨i,hi,rfl⟩:=m.each l hl;have:(qe4 c i).var=c.first+(i:Int):=rfl
  exact List.mem_range.2 (by omega)
 have:=h1.length_le_of_subset h2;simpa using this
theorem qbV {c:Circ}(hc:c.Valid):(qad c).length<=17:=by
 have:=qlO hc;have:=hc.ln;have:=hc.lg;simp only[qad,yae,yay,ybo];omega
end Go.VL

set_option maxRecDepth 20000
set_option linter.unusedVariables false
set_option linter.unusedSimpArgs false
namespace Go.Proofs
open Go Go.VL Tryz
abbrev dLu (l:Lut):D:=.agg [dI l.var,dIs l.leaves,dI l.table]
abbrev dLus (l:List Lut):D:=.lst 3 (l.map fun x=>dLu x)
def lu0:Lut:=⟨0,[],0⟩
theorem qcM {l:List Lut}{i:Nat}{z:D}(h:i<l.length):(l.map fun x=>dLu x).getD i z=dLu (l.getD i lu0):=getD_lt _ _ _ _ _ h
end Go.Proofs

set_option maxRecDepth 20000
set_option linter.unusedVariables false
set_option linter.unusedSimpArgs false
namespace Go.Proofs
open Go Go.VL
structure RevTo (l m:List Lut) (i:Nat):Prop where
 len:m.length=l.length
 get : ∀ p,p<l.length->m.getD p lu0=if p<i∨l.length<=p+i then l.getD (l.length-1-p) lu0 else l.getD p lu0
theorem RevTo.start (l:List Lut):RevTo l l 0:=⟨rfl,fun p hp=>by rw[if_neg (by omega)]⟩
theorem qlP {m:List Lut}{a p:Nat}{x:Lut}(h:a<m.length):(m.set a x).getD p lu0=if p=a then x else m.getD p lu0:=by
 by_cases e:p=a
 ·subst e;simp[List.getD,h]
 ·simp[List.getD,List.getElem?_set,show ¬ a=p by omega,e]
theorem RevTo.step {l m:List Lut}{i:Nat}(h:RevTo l m i) (hi:i+i+1<l.length):RevTo l ((m.set i (m.getD (l.length-1-i) lu0)).set (l.length-1-i) (m.getD i lu0)) (i+1):=by
 have hl:=h.len;refine⟨by simp[hl],fun p hp=>?_⟩;rw[qlP (by simp;omega),qlP (by omega)];have g1:=h.get p hp;have g2:=h.get i (by omega);have g3:=h.get (l.length-1-i) (by omega);rw[if_neg (by omega)] at g2 g3;rw[g1,g2,g3];by_cases e1:p=l.length-1-i
 ·subst e1;rw[if_pos rfl,if_pos (by omega),show l.length-1-(l.length-1-i)=i by omega]
 ·rw[if_neg e1];by_cases e2:p=i
  ·subst e2;rw[if_pos rfl,if_pos (by omega)]
  ·rw[if_neg e2];by_cases e3:p<i∨l.length<=p+i
   ·rw[if_pos e3,if_pos (by omega)]
   ·rw[if_neg e3,if_neg (by omega)]
theorem RevTo.done {l m:List Lut}{i:Nat}(h:RevTo l m i) (hi:l.length<=i+i+1):m=l.reverse:=by
 refine qfe lu0 (by simp[h.len]) fun p hp=>?_
 have hl:=h.len;have e:l.reverse.getD p lu0=l.getD (l.length-1-p) lu0:=by simp[List.getD,show p<l.length by omega,show l.length-1-p<l.length by omega]
 rw[e,h.get p (by omega)];split
 ·rfl
 ·rw[show l.length-1-p=p by omega]
theorem Tryz.c_ReverseL (g:Nat) (l:List Lut) (hl:l.length<=1000000):ICall prog 175 [.sl 0 g 3 0 l.length] [.row g 3 false (l.map fun x=>dLu x)] (fun _ H'=>H'=[.row g 3 false (l.reverse.map fun x=>dLu x)]):=by
 refine qau (E:=env 1) tok rfl 1000 func175 rfl rfl ntmps175 (by simp) ?_
 repeat' first|assumption|(simp (disch:=first|assumption|omega|(simp;done)|(simp;omega)) only[go_sem,seval,qcM])|(with_reducible first|apply And.intro|intro _)|((try rw[qaa]);omega)
 refine qay (E:=env 1) tok (σ:=Nat×List Lut) (fun s=>[(3,.d (dI ((l.length:Int)-1-(s.1:Int)))),(2,.d (dI s.1)),(0,.sl 0 g 3 0 l.length)]) (fun s=>[.row g 3 false (s.2.map fun x=>dLu x)])
  (fun s=>s.1<=l.length/\RevTo l s.2 s.1) (fun s=>l.length-s.1) [] 1000 1000 ?_ ?_ ?_
 ·simp only[go_sem,seval]
 ·simp only[go_sem,seval];exact⟨(0,l),⟨ybc _,RevTo.start l⟩,⟨by simp,rfl⟩,rfl⟩
 ·rintro⟨i,m⟩ ⟨hi,hm⟩;simp only at hi hm;have hml:=hm.len;by_cases hlt:i+i+1<l.length
  ·have ej:((l.length:Int)-1-(i:Int)).toNat=l.length-1-i:=by omega
   repeat' first|assumption|(simp (disch:=first|assumption|omega|(simp;done)|(simp;omega)) only[go_sem,seval,ej,qcM])|(with_reducible first|apply And.intro|intro _)|((try rw[qaa]);omega)
   refine qaP (n:=1) [13,15] (fsts [0,1,2,3,4,5,6,8,9,10,7,11,12] (.one 13 (.fst 14 (.one 15 .done)))) ?_
   repeat' first|assumption|(simp (disch:=first|assumption|omega|(simp;done)|(simp;omega)) only[go_sem,seval,ej,qcM])|(with_reducible first|apply And.intro|intro _)|((try rw[qaa]);omega)
   refine⟨(i+1,_),⟨by simp only;omega,hm.step hlt⟩,by simp only;omega,⟨by simp only;omega,rfl⟩,?_⟩;rw[List.map_set,List.map_set]
  ·repeat' first|assumption|(simp (disch:=first|assumption|omega|(simp;done)|(simp;omega)) only[go_sem,seval,qcM])|(with_reducible first|apply And.intro|intro _)|((try rw[qaa]);omega)
   exact qcz (by rw[hm.done (by omega)])
theorem Tryz.c_CloneJ (l:List Int) (hl:l.length<=1048576):Pure prog 173 [dIs l] (dIs l):=by
 refine qjv (T:=tyT) tok func173 rfl rfl (by simp[ntmps173]) ?_;rw[ntmps173];refine qkw (E:=env 0) (ks:=[]) (qjC (qux tok rfl rfl trivial (qqd (qkw (qkw (qjC (qux tok rfl rfl ?_ (qsV tok rfl rfl ?_ rfl fun b hb=>qsW tok 1000 ?_))))))))
 ·simp only[go_sem,seval]
 ·simp only[go_sem,seval]
 ·simp only[go_sem,seval];exact⟨hb,fun h=>by omega⟩
theorem qm3 {c:Circ}(hb : ∀ z∈qcO c,0<=z):qck (List.replicate c.vars.toNat false) (c.roots.map (· / 2))=qg0 c:=by
 have hm : ∀ z:Int,z∈c.roots.map (· / 2)↔z∈qcO c:=fun z=>by simp[Circ.roots,qcO,or_and_right,exists_or,or_comm]
 refine qfe false (by rw[qg0,qcL,qcL]) fun j hj=>?_
 rw[qg0,qd3 _ _ _ (fun v hv=>hb v ((hm v).1 hv)),qd3 _ _ _ hb];simp only[hm]
end Go.Proofs

/- Contracts, plain definitions and lemmas. Conditions: none; lemmas. -/
import Derived.Test.YteikeianenfhaaaGreatC61
import Derived.Test.YteikeianenfhaaaGreatC70
set_option linter.unusedVariables false
set_option linter.unusedSimpArgs false
set_option maxHeartbeats 2000000
namespace Go.VL
set_option linter.defProp false
variable {i v:Nat}{L:List Int}
def valOf (c:Circ) (st ins:List Bool) (v:Int):Bool:=(values c st ins).getD v.toNat false
def qet {c:Circ}{st ins:List Bool}{n:Nat}(h:i<=n) (hv:v<1+ins.length+st.length+i):(qdu c st ins n).getD v false=(qdu c st ins i).getD v false:=by
 obtain⟨k,rfl⟩ : ∃ k,n=i+k:=⟨n-i,by omega⟩;obtain⟨r,hr⟩:=qls c st ins (i:=i) k;rw[hr,qaq (by rw[qff];exact hv)]
section vals
variable {c:Circ}{st ins:List Bool}
def qkC:valOf c st ins 0=false:=by
 rw[valOf,values,qet (i:=0) (by omega) (by simp;omega)];rfl
def val_in (h2:(ins.length:Int)=c.inputs) {v:Int}(h0:1<=v) (hv:v<=c.inputs):valOf c st ins v=ins.getD (v-1).toNat false:=by
 rw[valOf,values,qet (i:=0) (by omega) (by omega),qg9];obtain⟨m,hm⟩ : ∃ m:Nat,v=(m:Int)+1:=⟨(v-1).toNat,by omega⟩;subst hm;rw[show((m:Int)+1).toNat=m+1 by omega,show((m:Int)+1-1).toNat=m by omega];show(ins++st).getD m false=_
 exact qaq (by omega)
def qpR (h1:st.length=c.next.length) (h2:(ins.length:Int)=c.inputs) (hi:i<c.next.length):valOf c st ins (c.inputs+1+(i:Int))=st.getD i false:=by
 rw[valOf,values,qet (i:=0) (by omega) (by omega),qg9];rw[show(c.inputs+1+(i:Int)).toNat=(ins.length+i)+1 by omega];show(ins++st).getD (ins.length+i) false=_
 simp[List.getD,List.getElem?_append_right]
def qrU (hc:c.Valid) (h1:st.length=c.next.length) (h2:(ins.length:Int)=c.inputs) (hi:i<c.gates.length) :
  valOf c st ins (c.first+(i:Int))=((valOf c st ins (qbi c i/2) != decide (qbi c i%2=1))&&(valOf c st ins (qbj c i/2) != decide (qbj c i%2=1))):=by
 have hf:c.first=1+(ins.length:Int)+st.length:=by rw[Circ.first];omega
 obtain⟨g1,g2⟩:=hc.g i hi;have q1:valOf c st ins (qbi c i/2)=(qdu c st ins i).getD (qbi c i/2).toNat false:=by
  unfold qaY at g1;rw[valOf,values,qet (i:=i) (by omega) (by unfold qbi;omega)]
 have q2:valOf c st ins (qbj c i/2)=(qdu c st ins i).getD (qbj c i/2).toNat false:=by
  unfold qaY at g2;rw[valOf,values,qet (i:=i) (by omega) (by unfold qbj;omega)]
 rw[q1,q2,valOf,values,qet (i:=i+1) (by omega) (by omega),qdu];have e:(c.first+(i:Int)).toNat=(qdu c st ins i).length:=by rw[qff];omega
 rw[e,show ∀ (l:List Bool) (b:Bool),(l ++ [b]).getD l.length false=b from fun l b=>by simp[List.getD]];rfl
def encodes (c:Circ) (st ins:List Bool) (L:List Int) (x:Nat):Prop:=∀ z∈L,x.testBit (L.idxOf z)=valOf c st ins z
def qjN {x:Nat}(he:encodes c st ins L x) {v:Int}{d:Bool}(hd:d=valOf c st ins v):qdS L x v d=valOf c st ins v:=by
 unfold qdS;split
 ·exact he v (by assumption)
 ·exact hd
def cut_sem (hc:c.Valid) (h1:st.length=c.next.length) (h2:(ins.length:Int)=c.inputs) : ∀ i,i<=c.gates.length->∀ v,v<(qaI c i).length->∀ cut∈(qaI c i).getD v [],∀ (L:List Int) (x:Nat),(∀ z∈cut,z∈L)->encodes c st ins L x->qco c L x (v:Int)=valOf c st ins (v:Int):=by
 have hf:=hc.first_bd;intro i;induction i with
 | zero=>
  intro _ v hv cut hcut L x hL he;rw[qa5 hf.1] at hv;rw[qfi (by omega) (by omega)];cases v with
  | zero=>
   refine qjN he ?_;have:=qkC (c:=c) (st:=st) (ins:=ins);exact this.symm
  | succ v=>
   have e:(qaI c 0).getD (v+1) []=[[(v:Int)+1]]:=by
    simp[qaI,List.getD,show v<c.first.toNat-1 by omega]
   rw[e] at hcut;obtain rfl:cut=[(v:Int)+1]:=by simpa using hcut
   have hm:=hL ((v:Int)+1) (by simp);unfold qdS;rw[if_pos (by rw[show((v+1:Nat):Int)=(v:Int)+1 by omega];exact hm)];exact he _ (by rw[show((v+1:Nat):Int)=(v:Int)+1 by omega];exact hm)
 | succ i ih=>
  intro hi v hv cut hcut L x hL he;have hl:=qa5 (c:=c) hf.1 i;rw[qa5 hf.1] at hv;by_cases h:v<c.first.toNat+i
  ·have e:(qaI c (i+1)).getD v []=(qaI c i).getD v []:=by rw[qaI];exact qaq (by omega)
   rw[e] at hcut;exact ih (by omega) v (by omega) cut hcut L x hL he
  ·have hv2:v=c.first.toNat+i:=by omega
   subst hv2;rw[qcZ hf.1 (by omega:i<i+1)] at hcut;obtain⟨g1,g2⟩:=hc.g i (by omega);have ha:0<=qbi c i/2/\(qbi c i/2).toNat<c.first.toNat+i:=by unfold qbi;unfold qaY at g1;omega
   have hb:0<=qbj c i/2/\(qbj c i/2).toNat<c.first.toNat+i:=by unfold qbj;unfold qaY at g2;omega
   have ev:((c.first.toNat+i:Nat):Int)=c.first+(i:Int):=by omega
   rw[ev,qfB hc (by omega)];rcases List.mem_append.1 hcut with h3|h3
   ·obtain⟨xa,ya,hxa,hya,rfl⟩ : ∃ xa ya,xa∈(qaI c i).getD (qbi c i/2).toNat []/\ya∈(qaI c i).getD (qbj c i/2).toNat []/\cut=qaH xa ya:=
     qfh (P:=fun cut=>∃ xa ya,xa∈(qaI c i).getD (qbi c i/2).toNat []/\ya∈(qaI c i).getD (qbj c i/2).toNat []/\cut=qaH xa ya) (fun x hx y hy _=>⟨x,y,hx,hy,rfl⟩) cut h3
    have ia:=ih (by omega) _ (by rw[hl];exact ha.2) xa hxa L x (fun z hz=>hL z ((qbo _ _).2 (.inl hz))) he;have ib:=ih (by omega) _ (by rw[hl];exact hb.2) ya hya L x (fun z hz=>hL z ((qbo _ _).2 (.inr hz))) he;rw[Int.toNat_of_nonneg ha.1] at ia;rw[Int.toNat_of_nonneg hb.1] at ib;refine qjN he ?_;rw[ia,ib,qrU hc h1 h2 (by omega)]
   ·obtain rfl:cut=[c.first+(i:Int)]:=by simpa using h3
    have hm:=hL (c.first+(i:Int)) (by simp);unfold qdS;rw[if_pos hm];exact he _ hm
def qbx (f:Int->Bool):List Int->Nat
 | []=>0
 | z::r=>(if f z then 1 else 0)+2*qbx f r
def qfC {f:Int->Bool} : ∀ (L:List Int),qbx f L<2 ^ L.length
 | []=>by simp[qbx]
 | z::r=>by
  have:=qfC (f:=f) r;rw[qbx,yaf,Nat.pow_succ];split <;> omega
def qlC {f:Int->Bool} : ∀ (L:List Int) (k:Nat),k<L.length->(qbx f L).testBit k=f (L.getD k 0)
 | [],k,h=>by simp at h
 | z::r,0,_=>by
  rw[qbx,Nat.testBit_zero];cases hz:f z <;> simp[hz] <;> omega
 | z::r,k+1,h=>by
  rw[qbx,Nat.testBit_succ,show((if f z=true then 1 else 0)+2*qbx f r)/2=qbx f r by split <;> omega];exact qlC r k (by simpa using h)
def qpS:encodes c st ins L (qbx (valOf c st ins) L):=by
 intro z hz;have hk:L.idxOf z<L.length:=List.idxOf_lt_length_iff.2 hz;rw[qlC L _ hk];congr 1;simp[List.getD,hk]
def qpT (hc:c.Valid) (h1:st.length=c.next.length) (h2:(ins.length:Int)=c.inputs) (hi:i<c.gates.length) :
  (qdg c (c.first+(i:Int)) ((qbm c).getD (c.first.toNat+i) []) (2 ^ ((qbm c).getD (c.first.toNat+i) []).length)).testBit (qbx (valOf c st ins) ((qbm c).getD (c.first.toNat+i) []))=valOf c st ins (c.first+(i:Int)):=by
 have hf:=hc.first_bd;have hm:=qly hc hi;rw[qjL _ _ _ _ _ (qfC _)];have hl:=qa5 (c:=c) hf.1 (i+1);have:=cut_sem hc h1 h2 (i+1) (by omega) (c.first.toNat+i) (by omega) _ (by rw[qcZ hf.1 (by omega:i<i+1)];exact yaI _ hm) _ _ (fun z hz=>hz) (qpS (c:=c) (st:=st) (ins:=ins) (L:=(qbm c).getD (c.first.toNat+i) []));rw[show((c.first.toNat+i:Nat):Int)=c.first+(i:Int) by omega] at this;exact this
end vals
noncomputable def qfm (c:Circ) (i:Nat):Lut:=⟨c.first+(i:Int),(qbm c).getD (c.first.toNat+i) [],qgx c (c.first+(i:Int)) ((qbm c).getD (c.first.toNat+i) [])⟩
structure MapOk (c:Circ) (j:Nat) (need:List Bool) (new:List Lut):Prop where
 each : ∀ l∈new,∃ i,i<j/\l=qfm c i
 asc:new.Pairwise fun a b=>a.var<b.var
 all : ∀ i,i<j->((∃ l∈new,l.var=c.first+(i:Int))↔need.getD (c.first.toNat+i) false=true∨∃ l∈new,c.first+(i:Int)∈l.leaves)
def qmF {c:Circ}(hc:c.Valid) : ∀ (j:Nat),j<=c.gates.length->∀ (need:List Bool) (out:List Lut),need.length=c.vars.toNat->∃ new,mapD c j need out=new++out/\MapOk c j need new
 | 0,_,need,out,_=>⟨[],rfl,by simp,by simp,by omega⟩
 | j+1,hj,need,out,hn=>by
  have hf:=hc.first_bd;have hv:=hc.vars_bd;have hvv:c.vars=c.first+(c.gates.length:Int):=rfl
  have hb:=qcI hc (i:=j) (by omega);simp only[mapD];split
  ·rename_i hnd;obtain⟨new,e,m⟩:=qmF hc j (by omega) (qbk need ((qbm c).getD (c.first.toNat+j) [])) (qfm c j::out) (by rw[qck];exact hn);refine⟨new ++ [qfm c j],by rw[yar];exact e,fun l hl=>?_,?_,fun i hi=>?_⟩
   ·rcases List.mem_append.1 hl with h|h
    ·obtain⟨i,h1,h2⟩:=m.each l h;exact⟨i,by omega,h2⟩
    ·obtain rfl:l=qfm c j:=by simpa using h
     exact⟨j,by omega,rfl⟩
   ·rw[List.pairwise_append];refine⟨m.asc,by simp,fun a ha b hb2=>?_⟩;obtain rfl:b=qfm c j:=by simpa using hb2
    obtain⟨i,h1,rfl⟩:=m.each a ha;show c.first+(i:Int)<c.first+(j:Int)
    omega
   ·have hleaf : ∀ i',i'<j->(c.first+(i':Int)∈(qfm c j).leaves↔c.first+(i':Int)∈(qbm c).getD (c.first.toNat+j) []):=fun i' _=>Iff.rfl
    by_cases hij:i=j
    ·subst hij;constructor
     ·exact fun _=>.inl hnd
     ·exact fun _=>⟨qfm c i,by simp,rfl⟩
    ·have hi2:i<j:=by omega
     have hset:=qer ((qbm c).getD (c.first.toNat+j) []) need (c.first.toNat+i) (fun v hv=>by have:=hb.2.2 v hv;omega);have hmi:=m.all i hi2;rw[hset,ybe,decide_eq_true_eq] at hmi;have hlt:c.first.toNat+i<need.length:=by omega
     have ev:((c.first.toNat+i:Nat):Int)=c.first+(i:Int):=by omega
     rw[ev] at hmi;constructor
     ·rintro⟨l,hl,hlv⟩;rcases List.mem_append.1 hl with h|h
      ·rcases hmi.1 ⟨l,h,hlv⟩ with(h2|⟨_,h2⟩)|⟨l2,h2,h3⟩
       ·exact .inl h2
       ·exact .inr ⟨qfm c j,by simp,h2⟩
       ·exact .inr ⟨l2,yaI _ h2,h3⟩
      ·obtain rfl:l=qfm c j:=by simpa using h
       have:c.first+(j:Int)=c.first+(i:Int):=hlv
       omega
     ·rintro(h|⟨l,hl,hlv⟩)
      ·obtain⟨l,h1,h2⟩:=hmi.2 (.inl (.inl h));exact⟨l,yaI _ h1,h2⟩
      ·rcases List.mem_append.1 hl with h|h
       ·obtain⟨l,h1,h2⟩:=hmi.2 (.inr ⟨l,h,hlv⟩);exact⟨l,yaI _ h1,h2⟩
       ·obtain rfl:l=qfm c j:=by simpa using h
        obtain⟨l,h1,h2⟩:=hmi.2 (.inl (.inr ⟨hlt,hlv⟩));exact⟨l,yaI _ h1,h2⟩
  ·rename_i hnd;obtain⟨new,e,m⟩:=qmF hc j (by omega) need out hn;refine⟨new,e,fun l hl=>?_,m.asc,fun i hi=>?_⟩
   ·obtain⟨i,h1,h2⟩:=m.each l hl;exact⟨i,by omega,h2⟩
   ·by_cases hij:i=j
    ·subst hij;constructor
     ·rintro⟨l,hl,hlv⟩;obtain⟨i2,h1,rfl⟩:=m.each l hl;have:c.first+(i2:Int)=c.first+(i:Int):=hlv
      omega
     ·rintro(h|⟨l,hl,hlv⟩)
      ·exact absurd h hnd
      ·obtain⟨i2,h1,rfl⟩:=m.each l hl;have:=(qcI hc (i:=i2) (by omega)).2.2 _ hlv;omega
    ·exact m.all i (by omega)
def qiT (c:Circ):(qfk c).length=c.vars.toNat:=by rw[qfk,qck];simp
def qf8 {c:Circ}(hc:c.Valid) : ∀ v∈qbl c,0<=v/\v<c.vars:=by
 intro v hv;obtain⟨l,hl,rfl⟩:=List.mem_map.1 hv;have:qaY l c.vars:=by
  rcases List.mem_append.1 hl with h|h
  ·exact hc.o l h
  ·exact hc.n l h
 unfold qaY at this;omega
def qpU {c:Circ}(hc:c.Valid) (hv:(v:Int)<c.vars):(qfk c).getD v false=decide ((v:Int)∈qbl c):=by
 rw[qfk,qer _ _ _ fun z hz=>(qf8 hc z hz).1];have e:(List.replicate c.vars.toNat false).getD v false=false:=by
  rw[List.getD_eq_getElem?_getD,List.getElem?_replicate];split <;> rfl
 rw[e,Bool.false_or];exact decide_eq_decide.2 ⟨fun h=>h.2,fun h=>⟨by simp;omega,h⟩⟩
def qdb {c:Circ}(hc:c.Valid):MapOk c c.gates.length (qfk c) (qdw c):=by
 obtain⟨new,e,m⟩:=qmF hc c.gates.length (yad _) (qfk c) [] (qiT c);rw[yaG] at e;rw[qdw,e];exact m
def qrV {c:Circ}(hc:c.Valid) (hi:i<c.gates.length):qfm c i∈qdw c↔c.first+(i:Int)∈qbl c∨∃ l∈qdw c,c.first+(i:Int)∈l.leaves:=by
 have hf:=hc.first_bd;have m:=qdb hc;have:=m.all i hi;have hvv:c.vars=c.first+(c.gates.length:Int):=rfl
 rw[qpU hc (by omega),decide_eq_true_eq,show((c.first.toNat+i:Nat):Int)=c.first+(i:Int) by omega] at this;rw[<-this];constructor
 ·exact fun h=>⟨_,h,rfl⟩
 ·rintro⟨l,hl,hv⟩;obtain⟨i2,h1,rfl⟩:=m.each l hl;have:c.first+(i2:Int)=c.first+(i:Int):=hv
  obtain rfl:i2=i:=by omega
  exact hl
def qiU {c:Circ}(hc:c.Valid):(qdw c).length<=c.gates.length:=by
 have m:=qdb hc;have h1:((qdw c).map fun l=>(l.var-c.first).toNat).Nodup:=by
  rw[List.nodup_iff_pairwise_ne,List.pairwise_map];refine m.asc.imp_of_mem fun {a b} ha hb h=>?_
  obtain⟨i,-,rfl⟩:=m.each a ha;obtain⟨j,-,rfl⟩:=m.each b hb;have:c.first+(i:Int)<c.first+(j:Int):=h
  show(c.first+(i:Int)-c.first).toNat≠(c.first+(j:Int)-c.first).toNat
  omega
 have h2:((qdw c).map fun l=>(l.var-c.first).toNat) ⊆ List.range c.gates.length:=by
  intro x hx;obtain⟨l,hl,rfl⟩:=List.mem_map.1 hx;obtain⟨i,hi,rfl⟩:=m.each l hl;have:(qfm c i).var=c.first+(i:Int):=rfl
  exact List.mem_range.2 (by omega)
 have:=h1.length_le_of_subset h2;simpa using this
def qby {c:Circ}(hc:c.Valid):(qae c).length<=17:=by
 have:=qiU hc;have:=hc.ln;have:=hc.lg;simp only[qae,yae,yaw,ybr];omega
end Go.VL

set_option maxRecDepth 20000
set_option linter.unusedVariables false
set_option linter.unusedSimpArgs false
namespace Go.Proofs
set_option linter.defProp false
open Go Go.VL Tryz
def Tryz.c_l5Table (c:Circ) (hc:c.Valid) (leaves:List Int) (hl:leaves.length<=3) (v:Int) (hv0:0<=v) (hv:v<c.vars):Pure prog 191 [dC c,dI v,dIs leaves] (dI (qgx c v leaves)):=by
 have hpw:=ybb (n:=2) (by omega) hl;have hI:(2:Int) ^ leaves.length=((2 ^ leaves.length:Nat):Int):=by simp
 have hfin:qgx c v leaves=((qdg c v leaves (2 ^ leaves.length):Nat):Int):=rfl;rw[hfin];generalize 2 ^ leaves.length=N at *
 refine qax func191 rfl ntmps191 fun ok=>?_
 simp only[go_sem,seval] at ok⊢
 repeat' first|assumption|(simp (disch:=first|assumption|omega|(simp;done)|(simp;omega)) only[yaa];try simp only[go_sem,seval])|(with_reducible first|apply And.intro|intro _)|((try rw[qaa]);omega)
 refine qaw (E:=env 0) tok (σ:=Nat) (fun x=>[(0,.d (dC c)),(1,.d (dI v)),(2,.d (dIs leaves)),(3,.ptr 0 0),(7,.d (dI (qdg c v leaves x:Nat))),(8,.d (dI x))]) (fun _=>[.box [.d (dI c.inputs),.d (dIs c.next),.d (dPs c.gates),.d (dIs c.outs)]]) (fun x=>x<=N) (fun x=>N-x) [] 1000 1000 ?_ ?_ ?_
 ·simp only[go_sem,seval]
 ·simp only[go_sem,seval];exact⟨0,by omega,rfl,rfl⟩
 ·intro x hx;have htl:=qfj c v leaves x;have htp:=ybb (n:=2) (by omega) (show x<=8 by omega);have hI2:(2:Int) ^ x=((2 ^ x:Nat):Int):=by simp
  have hts:qdg c v leaves (x+1)=qdg c v leaves x+(if qco c leaves x v then 2 ^ x else 0):=rfl;generalize 2 ^ x=M at *
  by_cases hlt:x<N
  ·have q:=c_l5Cone c hc leaves hl x (by omega) (v.toNat+1) v (by omega) hv0 hv;simp only[go_sem,seval,hI,hI2]
   repeat' first|assumption|(simp (disch:=first|assumption|omega|(simp;done)|(simp;omega)) only[yaa];try simp only[go_sem,seval,hI,hI2])|(with_reducible first|apply And.intro|intro _)|(refine qac q ?_;simp only[go_sem,seval,hI,hI2])|((try rw[qaa]);omega)
   ·rename_i h9;exact⟨x+1,by omega,by omega,by rw[hts,if_pos h9];omega,rfl⟩
   ·rename_i h9;exact⟨x+1,by omega,by omega,by rw[hts,if_neg (by rw[h9];simp)];omega,rfl⟩
  ·simp only[go_sem,seval,hI,hI2]
   repeat' first|assumption|(simp (disch:=first|assumption|omega|(simp;done)|(simp;omega)) only[yaa];try simp only[go_sem,seval,hI,hI2])|(with_reducible first|apply And.intro|intro _)|((try rw[qaa]);omega)
   rw[show x=N by omega]
abbrev dLu (l:Lut):D:=.agg [dI l.var,dIs l.leaves,dI l.table]
abbrev dLus (l:List Lut):D:=.lst 3 (l.map fun x=>dLu x)
def lu0:Lut:=⟨0,[],0⟩
def qaF {l:List Lut}{i:Nat}{z:D}(h:i<l.length):(l.map fun x=>dLu x).getD i z=dLu (l.getD i lu0):=getD_lt _ _ _ _ _ h
set_option maxHeartbeats 4000000 in
def Tryz.c_l5Map (c:Circ) (hc:c.Valid):PureF prog 137 [dC c] (dLus (qdw c)):=by
 have hf:=hc.first_bd;have hi0:=hc.i0;have hi1:=hc.i1;have hfst:=c_l1First c (by omega);have hcu:=c_l5Cuts c hc;have hbe:=c_l5Best c hc;have hlo:=hc.lo;have hln:=hc.ln;have hlg:=hc.lg;refine qcE (E:=envf 0) tok rfl 1000 func137 rfl rfl ntmps137 (by simp) fun ok=>?_
 simp only[go_sem,seval] at ok⊢;have hvr:(c.first+(c.gates.length:Int)).toNat=c.vars.toNat:=rfl;have hvv:c.vars=c.first+(c.gates.length:Int):=rfl
 have hrl:(c.outs++c.next).length=c.outs.length+c.next.length:=by simp
 have hrv:=qf8 hc;have hrd:qbl c=(c.outs++c.next).map (· / 2):=rfl;have hn0:qfk c=qbk (List.replicate c.vars.toNat false) (qbl c):=rfl;apply cutP
 ·intro key;refine qeO (E:=envf 0) tok Tryz.follows 1000 1000 [] (fsts [0,1] (.one 2 (.one 3 (fsts [4,5,6,7,8] .done)))) (by kernel_rfl) ?_;simp only[go_sem,seval]
  repeat' first|assumption|(simp (disch:=first|assumption|omega|(simp;done)|(simp;omega)) only[yaa];try simp only[go_sem,seval])|(with_reducible first|apply And.intro|intro _)|(refine qac hfst ?_;simp only[go_sem,seval])|(refine qbJ hcu ?_;simp only[go_sem,seval])|(refine qbJ hbe ?_;simp only[go_sem,seval])|((try rw[qaa]);omega)
  all_goals (
   refine qeO (E:=envf 0) tok Tryz.follows 1000 1000 [3,6] (fsts [1,4,2] (.two 0 (.two 3 (.one 5 (.one 6 (.fst 7 .done))) 5 (.one 3 (.one 6 (.fst 7 .done)))) 5 (.one 0 (.one 3 (.one 6 (.fst 7 .done)))))) (by kernel_rfl) ?_;simp only[go_sem,seval]
   repeat' first|assumption|(simp (disch:=first|assumption|omega|(simp;done)|(simp;omega)) only[yaa];try simp only[go_sem,seval])|(with_reducible first|apply And.intro|intro _)|(refine qac hfst ?_;simp only[go_sem,seval])|((try rw[qaa]);omega))
  all_goals (
   rw[hvr];refine iwp_fit (E:=envf 0) [(0,.d (dC c)),(1,.ptr 0 0),(3,.d (.lst 1 (qdh c (qbm c)))),(5,.d (dI c.first)),(6,.sl 1 0 1 0 c.vars.toNat),(7,.sl 2 2 1 0 (c.outs.length+c.next.length)),(8,.d (dI 0))]
    [.box [.d (dI c.inputs),.d (dIs c.next),.d (dPs c.gates),.d (dIs c.outs)],.row 0 1 true ((List.replicate c.vars.toNat false).map D.bool),.row 2 1 true ((c.outs++c.next).map (D.int .i64))] rfl ?_ ?_
   ·simp only[go_sem,seval];done
   ·exact key.get)
 generalize hroots:c.outs++c.next=roots at *
 refine qaf (E:=envf 0) tok (σ:=Nat) (fun i=>[(0,.d (dC c)),(1,.ptr 0 0),(3,.d (.lst 1 (qdh c (qbm c)))),(5,.d (dI c.first)),(6,.sl 1 0 1 0 c.vars.toNat),(7,.d (dIs roots)),(8,.d (dI i))])
  (fun i=>[.box [.d (dI c.inputs),.d (dIs c.next),.d (dPs c.gates),.d (dIs c.outs)],.row 0 1 true ((qbk (List.replicate c.vars.toNat false) ((qbl c).take i)).map D.bool)])
  (fun i=>i<=roots.length) (fun i=>roots.length-i) [] [] 1000 1000 ?_ ?_
 ·simp only[go_sem,seval];refine⟨0,by omega,?_⟩;simp[qbk,<-hrl]
 ·intro i hi;have hsl:=qck ((qbl c).take i) (List.replicate c.vars.toNat false);rw[yaK] at hsl;by_cases hlt:i<roots.length
  ·have hrg:(qbl c).getD i 0=roots.getD i 0/2:=by rw[hrd];simp[List.getD,hlt]
   have hbd:=hrv _ (qad (by rw[hrd];simpa using hlt):(qbl c).getD i 0∈qbl c);have hst:qbk (List.replicate c.vars.toNat false) ((qbl c).take (i+1))=(qbk (List.replicate c.vars.toNat false) ((qbl c).take i)).set (roots.getD i 0/2).toNat true:=by
    rw[<-hrg];exact qaA (f:=fun(n:List Bool) (v:Int)=>n.set v.toNat true) (b:=List.replicate c.vars.toNat false) (0:Int) (by rw[hrd];simpa using hlt)
   rw[hrg] at hbd;simp only[go_sem,seval]
   repeat' first|assumption|(simp (disch:=first|assumption|omega|(simp;done)|(simp;omega)) only[yaa];try simp only[go_sem,seval])|(with_reducible first|apply And.intro|intro _)|((try rw[qaa]);omega)
   exact⟨i+1,by omega,by omega,rfl,by rw[hst]⟩
  ·have hst:qbk (List.replicate c.vars.toNat false) ((qbl c).take i)=qfk c:=by rw[hn0,yaa (by rw[hrd];simp;omega)]
   rw[hst];simp only[go_sem,seval]
   repeat' first|assumption|(simp (disch:=first|assumption|omega|(simp;done)|(simp;omega)) only[yaa];try simp only[go_sem,seval])|(with_reducible first|apply And.intro|intro _)|((try rw[qaa]);omega)
   have hne0:=qiT c;have hlu:qdw c=mapD c c.gates.length (qfk c) []:=rfl;refine qaf (E:=envf 0) tok (σ:=Nat×List Bool×List Lut) (fun s=>[(0,.d (dC c)),(1,.ptr 0 0),(3,.d (.lst 1 (qdh c (qbm c)))),(5,.d (dI c.first)),(6,.sl 1 0 1 0 c.vars.toNat),(9,.d (dLus s.2.2)),(10,.d (dI (c.first+(s.1:Int)-1)))])
    (fun s=>[.box [.d (dI c.inputs),.d (dIs c.next),.d (dPs c.gates),.d (dIs c.outs)],.row 0 1 true (s.2.1.map D.bool)])
    (fun s=>s.1<=c.gates.length/\s.2.1.length=c.vars.toNat/\s.2.2.length+s.1<=c.gates.length/\mapD c s.1 s.2.1 s.2.2=qdw c) (fun s=>s.1) [] [] 1000 1000 ?_ ?_
   ·simp only[go_sem,seval];refine⟨(c.gates.length,qfk c,[]),⟨by simp,hne0,by simp,hlu.symm⟩,?_⟩;simp;omega
   ·rintro⟨j,need,out⟩ ⟨hj,hnl,hol,hinv⟩;simp only at hj hnl hol hinv;cases j with
    | zero=>
     simp only[go_sem,seval]
     repeat' first|assumption|(simp (disch:=first|assumption|omega|(simp;done)|(simp;omega)) only[yaa];try simp only[go_sem,seval])|(with_reducible first|apply And.intro|intro _)|((try rw[qaa]);omega)
     rw[<-hinv];rfl
    | succ m=>
     have hbo:=qcI hc (i:=m) (by omega);have hbl:=qlz c;have ev:(c.first+((m+1:Nat):Int)-1)=c.first+(m:Int):=by omega
     have ev2:(c.first+(m:Int)).toNat=c.first.toNat+m:=by omega
     have hbg : ∀ z,(qdh c (qbm c)).getD (c.first.toNat+m) z=dIs ((qbm c).getD (c.first.toNat+m) []):=fun z=>qlB (by omega) (by omega)
     have hstep:mapD c (m+1) need out=if need.getD (c.first.toNat+m) false=true then
       mapD c m (qbk need ((qbm c).getD (c.first.toNat+m) [])) (⟨c.first+(m:Int),(qbm c).getD (c.first.toNat+m) [],qgx c (c.first+(m:Int)) ((qbm c).getD (c.first.toNat+m) [])⟩::out)
      else mapD c m need out:=rfl
     have htb:=c_l5Table c hc ((qbm c).getD (c.first.toNat+m) []) hbo.2.1 (c.first+(m:Int)) (by omega) (by omega);have hbD:(qdh c (qbm c)).length=c.first.toNat+c.gates.length:=by rw[qdi (by omega)];exact hbl
     rw[ev];generalize hL:(qbm c).getD (c.first.toNat+m) []=L at *
     by_cases hnd:need.getD (c.first.toNat+m) false=true
     ·rw[if_pos hnd] at hstep;simp only[go_sem,seval,ev2,hnd,hbg]
      repeat' first|assumption|(simp (disch:=first|assumption|omega|(simp;done)|(simp;omega)) only[yaa];try simp only[go_sem,seval,ev2,hnd,hbg])|(with_reducible first|apply And.intro|intro _)|((try rw[qaa]);omega)
      refine qaf (E:=envf 0) tok (σ:=Nat) (fun k=>[(0,.d (dC c)),(1,.ptr 0 0),(3,.d (.lst 1 (qdh c (qbm c)))),(5,.d (dI c.first)),(6,.sl 1 0 1 0 c.vars.toNat),(9,.d (dLus out)),(10,.d (dI (c.first+(m:Int)))),(11,.d (dI k))])
       (fun k=>[.box [.d (dI c.inputs),.d (dIs c.next),.d (dPs c.gates),.d (dIs c.outs)],.row 0 1 true ((qbk need (L.take k)).map D.bool)])
       (fun k=>k<=L.length) (fun k=>L.length-k) [] [] 1000 1000 ?_ ?_
      ·simp only[go_sem,seval];exact⟨0,by omega,rfl,rfl⟩
      ·intro k hk;have hsl:=qck (L.take k) need;by_cases hkt:k<L.length
       ·have hst:qbk need (L.take (k+1))=(qbk need (L.take k)).set (L.getD k 0).toNat true:=qaA (f:=fun(n:List Bool) (v:Int)=>n.set v.toNat true) (b:=need) (0:Int) hkt;have hz:=hbo.2.2 _ (qad hkt:L.getD k 0∈L);simp only[go_sem,seval,ev2,hbg]
        repeat' first|assumption|(simp (disch:=first|assumption|omega|(simp;done)|(simp;omega)) only[yaa];try simp only[go_sem,seval,ev2,hbg])|(with_reducible first|apply And.intro|intro _)|((try rw[qaa]);omega)
        exact⟨k+1,by omega,by omega,rfl,hst.symm⟩
       ·have hst:qbk need (L.take k)=qbk need L:=by rw[yaa (by omega)]
        rw[hst];rw[hst] at hsl;simp only[go_sem,seval,ev2,hbg]
        repeat' first|assumption|(simp (disch:=first|assumption|omega|(simp;done)|(simp;omega)) only[yaa];try simp only[go_sem,seval,ev2,hbg])|(with_reducible first|apply And.intro|intro _)|((try rw[qaa]);omega)
        refine qeO (E:=envf 0) tok Tryz.follows 1000 1000 [6,17] (fsts [0,2,3,4,8,9,10,11,16,5] (.three 1 (.three 6 (.two 7 (.one 12 (.one 13 (.fst 14 (.one 15 (.one 17 (.fst 18 .done)))))) 12 (.one 7 (.one 13 (.fst 14 (.one 15 (.one 17 (.fst 18 .done))))))) 7 (.two 6 (.one 12 (.one 13 (.fst 14 (.one 15 (.one 17 (.fst 18 .done)))))) 12 (.one 6 (.one 13 (.fst 14 (.one 15 (.one 17 (.fst 18 .done))))))) 12 (.two 6 (.one 7 (.one 13 (.fst 14 (.one 15 (.one 17 (.fst 18 .done)))))) 7 (.one 6 (.one 13 (.fst 14 (.one 15 (.one 17 (.fst 18 .done)))))))) 7 (.two 1 (.two 6 (.one 12 (.one 13 (.fst 14 (.one 15 (.one 17 (.fst 18 .done)))))) 12 (.one 6 (.one 13 (.fst 14 (.one 15 (.one 17 (.fst 18 .done))))))) 12 (.one 1 (.one 6 (.one 13 (.fst 14 (.one 15 (.one 17 (.fst 18 .done)))))))) 12 (.two 1 (.two 6 (.one 7 (.one 13 (.fst 14 (.one 15 (.one 17 (.fst 18 .done)))))) 7 (.one 6 (.one 13 (.fst 14 (.one 15 (.one 17 (.fst 18 .done))))))) 7 (.one 1 (.one 6 (.one 13 (.fst 14 (.one 15 (.one 17 (.fst 18 .done)))))))))) (by kernel_rfl) ?_;simp only[go_sem,seval,ev2,hbg]
        repeat' first|assumption|(simp (disch:=first|assumption|omega|(simp;done)|(simp;omega)) only[yaa];try simp only[go_sem,seval,ev2,hbg])|(with_reducible first|apply And.intro|intro _)|(refine qac htb ?_;simp only[go_sem,seval,ev2,hbg])|((try rw[qaa]);omega)
        all_goals exact⟨(m,qbk need L,⟨c.first+(m:Int),L,qgx c (c.first+(m:Int)) L⟩::out),⟨by simp only;omega,hsl.trans hnl,by simp only[yaf];omega,by rw[<-hinv,hstep]⟩,by simp only;omega,⟨rfl,by simp only⟩,rfl⟩
     ·rw[if_neg hnd] at hstep;rw[Bool.not_eq_true] at hnd;simp only[go_sem,seval,ev2,hnd,hbg]
      repeat' first|assumption|(simp (disch:=first|assumption|omega|(simp;done)|(simp;omega)) only[yaa];try simp only[go_sem,seval,ev2,hnd,hbg])|(with_reducible first|apply And.intro|intro _)|((try rw[qaa]);omega)
      exact⟨(m,need,out),⟨by simp only;omega,hnl,by simp only;omega,by rw[<-hinv,hstep]⟩,by simp only;omega,⟨rfl,by simp only⟩,rfl⟩
end Go.Proofs

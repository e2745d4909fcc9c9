/- Contracts, plain definitions and lemmas. Conditions: none; lemmas. -/
import Derived.Test.YtagfdhingigaoaaP1
import Derived.Test.YtagfdhingigaoaaTy
import Derived.Test.YtagfdhingigaoaaVM8
import Derived.Test.YtagfdhingigaoaaProg
set_option maxRecDepth 20000
set_option linter.unusedVariables false
set_option linter.unusedSimpArgs false
namespace Go.Proofs
open Go Go.VL
theorem qpn {α : Type}{f : α→List Int}{n:Nat} : ∀ {l:List α},(∀ x∈l,(f x).length=n)→(l.flatMap f).length=n*l.length
 | [],_=>rfl
 | x::l,h=>by
  rw[List.flatMap_cons,List.length_append,h x (List.mem_cons_self ..),qpn fun y hy=>h y (List.mem_cons_of_mem _ hy),List.length_cons,Nat.mul_succ]
  omega
theorem qmZ {α : Type}{f : α→List Int}{n:Nat}(z : α) : ∀ {l:List α},(∀ x∈l,(f x).length=n)→∀ {i j:Nat},i<l.length→j<n→(l.flatMap f).getD (n*i+j) 0=(f (l.getD i z)).getD j 0
 | [],_,i,j,hi,_=>by simp at hi
 | x::l,h,0,j,_,hj=>by
  have hx:=h x (List.mem_cons_self ..)
  rw[List.flatMap_cons,Nat.mul_zero,Nat.zero_add,qaw (by omega)]
  rfl
 | x::l,h,i+1,j,hi,hj=>by
  have hx:=h x (List.mem_cons_self ..)
  have ih:=qmZ z (fun y hy=>h y (List.mem_cons_of_mem _ hy)) (i:=i) (j:=j) (by simpa using hi) hj
  rw[List.flatMap_cons,List.getD_eq_getElem?_getD,List.getElem?_append_right (by rw[hx,Nat.mul_succ];omega),hx,show n*(i+1)+j-n=n*i+j by rw[Nat.mul_succ];omega,←List.getD_eq_getElem?_getD,ih]
  rfl
theorem qoA {t:Tcfg}(h:t.select.length=3∧t.drive.length=8):(encT t).length=13:=by
 simp[encT,h.1,h.2]
theorem qjf {k:Kcfg}(hk:k.ok) : ∀ t∈k.tiles,(encT t).length=13:=fun t ht=>by
 obtain⟨i,hi,rfl⟩:=qbb tc0 ht
 exact qoA (Kcfg.ok_sizes hk (by have:=hk.1;omega))
theorem qkP {k:Kcfg}(hk:k.ok):(qcr k.tiles 25).length=325:=by
 unfold qcr
 rw[List.take_of_length_le (by have:=hk.1;omega),qpn (qjf hk),hk.1]
theorem qg3 {k:Kcfg}(hk:k.ok):encC k=(qcr k.tiles 25++qdm k.pads 3) ++ [sumC (qcr k.tiles 25++qdm k.pads 3)/256%256,sumC (qcr k.tiles 25++qdm k.pads 3)%256]:=by
 unfold encC;rw[hk.1,hk.2.1.1]
theorem qm0 {k:Kcfg}(hk:k.ok) {i j:Nat}(hi:i<25) (hj:j<13):(encC k).getD (13*i+j) 0=(encT (k.tiles.getD i tc0)).getD j 0:=by
 rw[qg3 hk,List.append_assoc,qaw (by rw[qkP hk];omega),qcr,List.take_of_length_le (by have:=hk.1;omega)]
 exact qmZ tc0 (qjf hk) (by have:=hk.1;omega) hj
theorem qkQ {k:Kcfg}(hk:k.ok) {o j:Nat}(ho:o<3) (hj:j<2):(encC k).getD (325+(2*o+j)) 0=[(k.pads.getD o (0,false)).1,b01 (k.pads.getD o (0,false)).2].getD j 0:=by
 have hl:=qkP hk
 have hp:=hk.2.1.1
 rw[qg3 hk,qaw (by rw[List.length_append,hl,qje (by omega)];omega),List.getD_eq_getElem?_getD,List.getElem?_append_right (by omega),hl,show 325+(2*o+j)-325=2*o+j by omega,←List.getD_eq_getElem?_getD,qdm,List.take_of_length_le (by omega)]
 exact qmZ (f:=fun p:Int×Bool=>[p.1,b01 p.2]) (0,false) (fun _ _=>rfl) (by omega) hj
def dec3 (l:List Int) (a:Nat):List Int:=[l.getD a 0,l.getD (a+1) 0,l.getD (a+2) 0]
def dec8 (l:List Int) (a:Nat):List Int:=[l.getD a 0,l.getD (a+1) 0,l.getD (a+2) 0,l.getD (a+3) 0,l.getD (a+4) 0,l.getD (a+5) 0,l.getD (a+6) 0,l.getD (a+7) 0]
theorem list3 {l:List Int}(h:l.length=3):l=dec3 l 0:=by
 match l,h with
 | [a,b,c],_=>rfl
theorem list8 {l:List Int}(h:l.length=8):l=dec8 l 0:=by
 match l,h with
 | [a,b,c,d,e,f,g,i],_=>rfl
theorem qm1 (b:Bool):decide (b01 b=1)=b:=by cases b <;> rfl
def decT (l:List Int) (i:Nat):Tcfg:=⟨l.getD (13*i) 0,dec3 l (13*i+1),decide (l.getD (13*i+4) 0=1),dec8 l (13*i+5)⟩
def decP (l:List Int) (o:Nat):Int×Bool:=(l.getD (325+2*o) 0,decide (l.getD (325+2*o+1) 0=1))
theorem qm2 {k:Kcfg}(hk:k.ok) {i:Nat}(hi:i<25):decT (encC k) i=k.tiles.getD i tc0:=by
 obtain⟨s1,s2⟩:=Kcfg.ok_sizes hk hi
 have h:=fun j (hj:j<13)=>qm0 hk hi hj
 generalize k.tiles.getD i tc0=t at *
 obtain⟨t1,t2,t3,t4⟩:=t
 simp only at s1 s2
 have e2:=list3 s1
 have e4:=list8 s2
 unfold decT dec3 dec8
 rw[show 13*i=13*i+0 from rfl]
 simp only[Nat.add_assoc,Nat.reduceAdd,Nat.add_zero]
 have h0:=h 0 (by omega)
 rw[Nat.add_zero] at h0
 rw[h0,h 1 (by omega),h 2 (by omega),h 3 (by omega),h 4 (by omega),h 5 (by omega),h 6 (by omega),h 7 (by omega),h 8 (by omega),h 9 (by omega),h 10 (by omega),h 11 (by omega),h 12 (by omega)]
 rw[e2,e4]
 unfold encT dec3 dec8
 simp only[List.cons_append,List.nil_append,List.getD_cons_zero,List.getD_cons_succ]
 rw[qm1]
theorem qm3 {k:Kcfg}(hk:k.ok) {o:Nat}(ho:o<3):decP (encC k) o=k.pads.getD o (0,false):=by
 have h0:=qkQ hk ho (j:=0) (by omega)
 have h1:=qkQ hk ho (j:=1) (by omega)
 unfold decP
 rw[Nat.add_assoc,h1,show 325+2*o=325+(2*o+0) from rfl,h0]
 simp only[List.getD_cons_zero,List.getD_cons_succ]
 rw[qm1]
theorem qoB {k m:Kcfg}(hk:k.ok) (hm:m.ok) (h:encC k=encC m):k=m:=by
 have h1:k.tiles=m.tiles:=qcP tc0 (by rw[hk.1,hm.1]) fun i hi=>by
  rw[hk.1] at hi
  rw[←qm2 hk hi,←qm2 hm hi,h]
 have h2:k.pads=m.pads:=qcP (0,false) (by rw[hk.2.1.1,hm.2.1.1]) fun i hi=>by
  rw[hk.2.1.1] at hi
  rw[←qm3 hk hi,←qm3 hm hi,h]
 cases k;cases m
 simp only at h1 h2
 rw[h1,h2]
theorem qm4 {k:Kcfg}(hk:k.ok) : ∀ x∈encC k,0≤x∧x≤255:=fun x hx=>by
 rw[qg3 hk] at hx
 rcases List.mem_append.1 hx with h|h
 ·rcases List.mem_append.1 h with h|h
  ·exact qkN hk x h
  ·exact qkO hk x h
 ·simp only[List.mem_cons,List.mem_nil_iff,or_false] at h
  rcases h with rfl|rfl <;> omega
end Go.Proofs

set_option maxRecDepth 20000
set_option linter.unusedVariables false
set_option linter.unusedSimpArgs false
namespace Go.Proofs
open Go Go.VL
@[go_sem] theorem xBin_str {T:Nat→Option TI}{H:List R}{op:BinOp}{a b:ByteArray}{sz bt:Nat}{z:D}:xBin T H op (.d (.raw (.string a))) (.d (.raw (.string b))) (some ⟨.string,sz,bt,z⟩)=xBT a b op:=rfl
theorem baL (bs:ByteArray) : ∀ (n i:Nat) (r:List UInt8),n=bs.size-i→ByteArray.toList.loop bs i r=r.reverse++bs.data.toList.drop i
 | n,i,r,h=>by
  unfold ByteArray.toList.loop
  split
  ·rename_i h1
   have h1':i<bs.data.size:=h1
   have h2:i<bs.data.toList.length:=by rw[Array.length_toList];exact h1'
   rw[baL bs (n-1) (i+1) _ (by omega),List.reverse_cons,List.append_assoc,List.drop_eq_getElem_cons h2]
   have e:bs.get! i=bs.data.toList[i]'h2:=by
    show bs.data[i]! = _
    rw[getElem!_pos bs.data i h1',Array.getElem_toList]
   rw[e]
   rfl
  ·rename_i h1
   have h1' : ¬ i<bs.data.size:=h1
   rw[List.drop_eq_nil_of_le (by rw[Array.length_toList];omega),List.append_nil]
theorem qm5 (bs:ByteArray):bs.toList=bs.data.toList:=by
 show ByteArray.toList.loop bs 0 []=_
 rw[baL bs _ 0 [] rfl];simp
theorem qkR : ∀ (l:List Int) (r:ByteArray),(l.foldl (fun r n=>r.push (UInt8.ofNat n.toNat)) r).data.toList=r.data.toList++l.map fun n=>UInt8.ofNat n.toNat
 | [],r=>by simp
 | x::l,r=>by rw[List.foldl_cons,qkR l,ByteArray.data_push,Array.toList_push,List.append_assoc];rfl
theorem qjg (l:List Int):(bsOf l).toList=l.map fun n=>UInt8.ofNat n.toNat:=by rw[qm5,bsOf,qkR];rfl
theorem qpo : ∀ {l m:List Int},(∀ x∈l,0≤x∧x≤255)→(∀ x∈m,0≤x∧x≤255)→(l.map fun n=>UInt8.ofNat n.toNat)=(m.map fun n=>UInt8.ofNat n.toNat)→l=m
 | [],[],_,_,_=>rfl
 | [],y::m,_,_,h=>by simp at h
 | x::l,[],_,_,h=>by simp at h
 | x::l,y::m,hl,hm,h=>by
  rw[List.map_cons,List.map_cons,List.cons.injEq] at h
  have h1:=hl x (List.mem_cons_self ..)
  have h2:=hm y (List.mem_cons_self ..)
  have h3:=congrArg UInt8.toNat h.1
  rw[UInt8.toNat_ofNat',UInt8.toNat_ofNat'] at h3
  rw[qpo (fun z hz=>hl z (List.mem_cons_of_mem _ hz)) (fun z hz=>hm z (List.mem_cons_of_mem _ hz)) h.2,show x=y by omega]
theorem str_eq {l m:List Int}(hl : ∀ x∈l,0≤x∧x≤255) (hm : ∀ x∈m,0≤x∧x≤255):((bsOf l).toList == (bsOf m).toList)=decide (l=m):=by
 rw[qjg,qjg]
 by_cases h:l=m
 ·subst h;simp
 ·rw[decide_eq_false h,beq_eq_false_iff_ne]
  exact fun h2=>h (qpo hl hm h2)
end Go.Proofs

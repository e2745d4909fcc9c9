/- Contracts, plain definitions and lemmas. Conditions: none; lemmas. -/
import Derived.Test.YteikeianenfhaaaGreatC77
import Derived.Test.YteikeianenfhaaaGreatC60
import Derived.Test.YteikeianenfhaaaGreatK5
import Derived.Test.YteikeianenfhaaaGreatC10
set_option maxRecDepth 20000
set_option linter.unusedSimpArgs false
set_option linter.unusedVariables false
set_option maxHeartbeats 2000000
namespace Go.Proofs
open Go Go.VL Tryz
def b01 (b:Bool):Int:=if b then 1 else 0
def encT (t:Tcfg):List Int:=t.table::(t.select++(b01 t.reg::t.drive))
def qc9 (l:List Tcfg) (n:Nat):List Int:=(l.take n).flatMap encT
def qd9 (l:List (Int×Bool)) (n:Nat):List Int:=(l.take n).flatMap fun p=>[p.1,b01 p.2]
def sumC (l:List Int):Int:=l.foldl (fun s b=>(s*257+b+1)%65521) 1
def encC (k:Kcfg):List Int:=
 let out:=qc9 k.tiles k.tiles.length++qd9 k.pads k.pads.length
 out ++ [sumC out/256%256,sumC out%256]
theorem Tryz.c_flag (b:Bool):Pure prog 156 [dB b] (.int .u8 (b01 b)):=by
 refine qav func156 rfl ntmps156 fun ok=>?_
 simp only[go_sem,seval] at ok⊢;cases b <;> simp[b01]
theorem qrj (l:List Int) (n:Nat):0<=sumC (l.take n)/\sumC (l.take n)<65521:=by
 induction n with
 | zero=>simp[sumC]
 | succ n ih=>
  by_cases h:n<l.length
  ·have e:sumC (l.take (n+1))=(sumC (l.take n)*257+l[n]+1)%65521:=by
    rw[yal h,sumC,yaQ];rfl
   rw[e];exact⟨Int.emod_nonneg _ (by decide),Int.emod_lt_of_pos _ (by decide)⟩
  ·rw[yaa (by omega)] at ih ⊢;exact ih
theorem qrk (l:List Int) {n:Nat}(h:n<l.length):sumC (l.take (n+1))=(sumC (l.take n)*257+l.getD n 0+1)%65521:=by
 rw[yal h,sumC,yaQ];simp[List.getD,h,sumC]
theorem Tryz.c_checksum (l:List Int) (hl : ∀ x∈l,0<=x/\x<=255) (hn:l.length<=1000000):Pure prog 157 [dUs l] (dI (sumC l)):=by
 refine qav func157 rfl ntmps157 fun ok=>?_
 simp only[go_sem,seval] at ok⊢
 repeat' first|assumption|(simp (disch:=first|assumption|omega|(simp;done)|(simp;omega)) only[yaa,qaj];try simp only[go_sem,seval])|(with_reducible first|apply And.intro|intro _)|((try rw[qaa]);omega)
 refine qay (E:=env 0) tok (σ:=Nat) (fun i=>[(3,.d (dI (sumC (l.take i)))),(6,.d (dUs l)),(7,.d (dI l.length)),(8,.d (dI i))]) (fun _=>[]) (fun i=>i<=l.length) (fun i=>l.length-i) [] 1000 1000 ?_ ?_ ?_
 ·simp only[go_sem,seval]
 ·simp only[go_sem,seval];exact⟨0,by omega,rfl,rfl⟩
 ·intro i hi;have hs:=qrj l i;by_cases hlt:i<l.length
  ·have hb:=hl _ (qac hlt:l.getD i 0∈l);have hss:=qrk l hlt;generalize sumC (l.take i)=s at *
   generalize hb9:l.getD i 0=b at *
   simp only[go_sem,seval,hb9]
   repeat' first|assumption|(simp (disch:=first|assumption|omega|(simp;done)|(simp;omega)) only[yaa,qaj];try simp only[go_sem,seval,hb9])|(with_reducible first|apply And.intro|intro _)|((try rw[qaa]);omega)
   all_goals first|(rw[qaa];omega)|skip
   refine⟨i+1,by omega,by omega,?_,rfl⟩;rw[hss]
  ·obtain rfl:i=l.length:=by omega
   simp only[go_sem,seval]
   repeat' first|assumption|(simp (disch:=first|assumption|omega|(simp;done)|(simp;omega)) only[yaa,qaj];try simp only[go_sem,seval])|(with_reducible first|apply And.intro|intro _)|((try rw[qaa]);omega)
theorem qjc {l:List Tcfg}(h : ∀ j,j<l.length->(l.getD j tc0).select.length=3/\(l.getD j tc0).drive.length=8) : ∀ n,(qc9 l n).length<=13*n
 | 0=>by simp[qc9]
 | n+1=>by
  have ih:=qjc h n;by_cases hn:n<l.length
  ·have:=h n hn;have e:l.getD n tc0=l[n]:=by simp[List.getD,hn]
   unfold qc9 at *
   rw[yal hn,List.flatMap_append,yae];rw[e] at this;simp only[yaG,List.flatMap_nil,yaL,encT,yau,yae];omega
  ·unfold qc9 at *
   rw[yaa (by omega)] at ih ⊢;omega
theorem qo5 {l:List Tcfg}{n:Nat}(h:n<l.length):qc9 l (n+1)=qc9 l n++encT (l.getD n tc0):=by
 unfold qc9;rw[yal h,List.flatMap_append];simp[List.getD,h]
theorem qj4 {l:List (Int×Bool)}{n:Nat}(h:n<l.length):qd9 l (n+1)=qd9 l n ++ [(l.getD n (0,false)).1,b01 (l.getD n (0,false)).2]:=by
 unfold qd9;rw[yal h,List.flatMap_append];simp[List.getD,h]
theorem take_snoc {l:List Int}{j:Nat}(h:j<l.length):l.take (j+1)=l.take j ++ [l.getD j 0]:=by
 rw[yal h];simp[List.getD,h]
theorem qjd {l:List (Int×Bool)}{n:Nat}(h:n<=l.length):(qd9 l n).length=2*n:=by
 induction n with
 | zero=>simp[qd9]
 | succ n ih=>
  rw[qj4 (by omega),yae,ih (by omega)];simp;omega
theorem quJ (b:Bool):0<=b01 b/\b01 b<=1:=by cases b <;> simp[b01]
theorem qoa {k:Kcfg}(hk:k.ok) : ∀ x∈qc9 k.tiles 25,0<=x/\x<=255:=by
 intro x hx;obtain⟨t,ht,hx⟩:=List.mem_flatMap.1 hx;obtain⟨i,hi,rfl⟩:=qaE tc0 (yat ht);have hto:=Tcfg.ok_iff.1 (hk.2.2 i hi);generalize k.tiles.getD i tc0=t at *
 obtain⟨⟨a1,a2⟩,_,_,h3,h4⟩:=hto;unfold encT at hx;rcases List.mem_cons.1 hx with rfl|hx
 ·omega
 rcases List.mem_append.1 hx with hx|hx
 ·obtain⟨j,hj,rfl⟩:=qaE (0:Int) hx;have:=h3 j hj;simp only[qbX,yaT,yam,decide_eq_true_eq] at this;omega
 rcases List.mem_cons.1 hx with rfl|hx
 ·have:=quJ t.reg;omega
 ·obtain⟨j,hj,rfl⟩:=qaE (0:Int) hx;have:=h4 j hj;simp only[qaL,decide_eq_true_eq] at this;omega
theorem qob {k:Kcfg}(hk:k.ok) : ∀ x∈qd9 k.pads 3,0<=x/\x<=255:=by
 intro x hx;obtain⟨p,hp,hx⟩:=List.mem_flatMap.1 hx;obtain⟨i,hi,rfl⟩:=qaE (0,false) (yat hp);have:=hk.2.1.2 i hi;generalize k.pads.getD i (0,false)=p at *
 simp only[qbX,yaT,yam,decide_eq_true_eq] at this;have h2:=quJ p.2;simp at hx;rcases hx with rfl|rfl <;> omega
theorem Tryz.c_EncodeConfig (k:Kcfg):Pure prog 89 [dK k] (dUs (if k.ok then encC k else [])):=by
 have hc:=c_ConfigValid k;refine qav func89 rfl ntmps89 fun ok=>?_
 simp only[go_sem,seval] at ok⊢
 repeat' first|assumption|(simp (disch:=first|assumption|omega|(simp;done)|(simp;omega)) only[yaa,qaj];try simp only[go_sem,seval])|(with_reducible first|apply And.intro|intro _)|(refine qab hc ?_;simp only[go_sem,seval])|((try rw[qaa]);omega)
 ·rename_i h;rw[if_neg (by simpa using h)];rfl
 rename_i h;have hk:k.ok:=by simpa using h
 have hla:k.tiles.length=25:=hk.1;rw[if_pos hk];refine qao (E:=env 0) tok (σ:=Nat) (fun i=>[(1,.ptr 0 0),(3,.sl 1 (qc9 k.tiles i).length 1 0 (qc9 k.tiles i).length),(17,.d (dTcs k.tiles)),(18,.d (dI k.tiles.length)),(19,.d (dI i))])
  (fun i=>[.box [.d (dTcs k.tiles),.d (dQs k.pads)],.row (qc9 k.tiles i).length 1 true ((qc9 k.tiles i).map (D.int .u8))]) (fun i=>i<=25) (fun i=>25-i) [] [(3,1,true)] 1000 1000 ?_ ?_
 ·simp only[go_sem,seval];exact⟨0,by omega,by simp[qc9]⟩
 ·intro i hi;by_cases hlt:i<25
  ·have hqs:=qo5 (l:=k.tiles) (n:=i) (by omega);have hql:=qjc (l:=k.tiles) (fun j hj=>Kcfg.ok_sizes hk (by omega)) i;have hto:=Tcfg.ok_iff.1 (hk.2.2 i (by omega));have gx:=qaB (z:=D.agg [D.int .i64 0,.nil,.bool false,.nil]) (show i<k.tiles.length by omega);have hfl:=c_flag (k.tiles.getD i tc0).reg;generalize qc9 k.tiles i=q at *
   generalize k.tiles.getD i tc0=t at *
   obtain⟨t1,t2,t3,t4⟩:=t;obtain⟨⟨ht1,ht2⟩,hs1,hs2,hs3,hs4⟩:=hto;simp only at ht1 ht2 hs1 hs2 hs3 hs4 hfl;have hm1:t1%256=t1:=by omega
   simp only[go_sem,seval,gx,hla,hm1]
   repeat' first|assumption|(simp (disch:=first|assumption|omega|(simp;done)|(simp;omega)) only[yaa,qaj];try simp only[go_sem,seval,gx,hla,hm1])|(with_reducible first|apply And.intro|intro _)|((try rw[qaa]);omega)
   refine qao (E:=env 0) tok (σ:=Nat) (fun j=>[(1,.ptr 0 0),(3,.sl 1 (q++t1::t2.take j).length 1 0 (q++t1::t2.take j).length),(5,.ptr 2 0),(17,.d (dTcs k.tiles)),(18,.d (dI 25)),(19,.d (dI i)),(30,.d (dIs t2)),(31,.d (dI t2.length)),(32,.d (dI j))])
    (fun j=>[.box [.d (dTcs k.tiles),.d (dQs k.pads)],.row (q++t1::t2.take j).length 1 true ((q++t1::t2.take j).map (D.int .u8)),.box [.d (dI t1),.d (dIs t2),.d (dB t3),.d (dIs t4)]]) (fun j=>j<=3) (fun j=>3-j) [] [] 1000 1000 ?_ ?_
   ·simp only[go_sem,seval];exact⟨0,by omega,by simp⟩
   ·intro j hj;by_cases hlj:j<3
    ·have htk:=take_snoc (l:=t2) (j:=j) (by omega);have hsj:=hs3 j (by omega);simp only[qbX,yaT,yam,decide_eq_true_eq] at hsj;generalize hv9:t2.getD j 0=v at *
     have hm9:v%256=v:=by omega
     simp only[go_sem,seval,hv9,hs1,hm9]
     repeat' first|assumption|(simp (disch:=first|assumption|omega|(simp;done)|(simp;omega)) only[yaa,qaj];try simp only[go_sem,seval,hv9,hs1,hm9])|(with_reducible first|apply And.intro|intro _)|((try rw[qaa]);omega)
     ·have:(t2.take j).length<=3:=by rw[yaB];omega
      omega
     ·have e1:(t2.take j).length=j:=by rw[yaB];omega
      have e2:(t2.take (j+1)).length=j+1:=by rw[yaB];omega
      refine⟨j+1,by omega,by omega,⟨by rw[e1,e2];omega,rfl⟩,by rw[e1,e2];omega,?_⟩;rw[htk];simp
    ·obtain rfl:j=3:=by omega
     simp only[go_sem,seval,hs1]
     repeat' first|assumption|(simp (disch:=first|assumption|omega|(simp;done)|(simp;omega)) only[yaa,qaj];try simp only[go_sem,seval,hs1])|(with_reducible first|apply And.intro|intro _)|(refine qab hfl ?_;simp only[go_sem,seval,hs1])|((try rw[qaa]);omega)
     refine qao (E:=env 0) tok (σ:=Nat) (fun j=>[(1,.ptr 0 0),(3,.sl 1 (q.length+5+j) 1 0 (q.length+5+j)),(17,.d (dTcs k.tiles)),(18,.d (dI 25)),(19,.d (dI i)),(49,.d (dIs t4)),(50,.d (dI t4.length)),(51,.d (dI j))])
      (fun j=>[.box [.d (dTcs k.tiles),.d (dQs k.pads)],.row (q.length+5+j) 1 true ((q++t1::t2 ++ [b01 t3]++t4.take j).map (D.int .u8))]) (fun j=>j<=8) (fun j=>8-j) [] [] 1000 1000 ?_ ?_
     ·simp only[go_sem,seval];exact⟨0,by omega,by simp⟩
     ·intro j hj;by_cases hlj:j<8
      ·have htk:=take_snoc (l:=t4) (j:=j) (by omega);have hsj:=hs4 j (by omega);simp only[qaL,decide_eq_true_eq] at hsj;generalize hv9:t4.getD j 0=v at *
       have htl:(t4.take j).length=j:=by rw[yaB];omega
       have hm9:v%256=v:=by omega
       simp only[go_sem,seval,hv9,hs2,hs1,htl,hm9]
       repeat' first|assumption|(simp (disch:=first|assumption|omega|(simp;done)|(simp;omega)) only[yaa,qaj];try simp only[go_sem,seval,hv9,hs2,hs1,htl,hm9])|(with_reducible first|apply And.intro|intro _)|((try rw[qaa]);omega)
       ·refine⟨j+1,by omega,by omega,⟨by omega,rfl⟩,by omega,?_⟩;rw[htk];simp
      ·obtain rfl:j=8:=by omega
       have htl:t4.take 8=t4:=yaa (by omega);simp only[go_sem,seval,hs2,htl]
       repeat' first|assumption|(simp (disch:=first|assumption|omega|(simp;done)|(simp;omega)) only[yaa,qaj];try simp only[go_sem,seval,hs2,htl])|(with_reducible first|apply And.intro|intro _)|((try rw[qaa]);omega)
       refine⟨i+1,by omega,by omega,⟨?_,rfl⟩,?_,?_⟩
       ·rw[hqs];simp[encT];omega
       ·rw[hqs];simp[encT];omega
       ·rw[hqs];simp[encT]
  ·obtain rfl:i=25:=by omega
   have hql:=qjc (l:=k.tiles) (fun j hj=>Kcfg.ok_sizes hk (by omega)) 25;have hpl:=hk.2.1.1;have hqb:=qoa hk;have hcd:encC k=(qc9 k.tiles 25++qd9 k.pads 3) ++ [sumC (qc9 k.tiles 25++qd9 k.pads 3)/256%256,sumC (qc9 k.tiles 25++qd9 k.pads 3)%256]:=by
    unfold encC;rw[hla,hpl]
   have hpt:=fun j (hj:j<3)=>hk.2.1.2 j (by omega)
   generalize qc9 k.tiles 25=q at *
   simp only[go_sem,seval]
   repeat' first|assumption|(simp (disch:=first|assumption|omega|(simp;done)|(simp;omega)) only[yaa,qaj];try simp only[go_sem,seval])|(with_reducible first|apply And.intro|intro _)|((try rw[qaa]);omega)
   refine qao (E:=env 0) tok (σ:=Nat) (fun j=>[(3,.sl 1 (q.length+j) 1 0 (q.length+2*j)),(63,.d (dQs k.pads)),(64,.d (dI k.pads.length)),(65,.d (dI j))])
    (fun j=>[.box [.d (dTcs k.tiles),.d (dQs k.pads)],.row (q.length+j) 1 true ((q++qd9 k.pads j).map (D.int .u8))]) (fun j=>j<=3) (fun j=>3-j) [] [] 1000 1000 ?_ ?_
   ·simp only[go_sem,seval];exact⟨0,by omega,by simp[qd9]⟩
   ·intro j hj;have hel:=qjd (l:=k.pads) (n:=j) (by omega);by_cases hlj:j<3
    ·have hes:=qj4 (l:=k.pads) (n:=j) (by omega);have gy:=qaq (z:=D.agg [D.int .i64 0,.bool false]) (show j<k.pads.length by omega);have hsj:=hpt j hlj;have hfl:=c_flag (k.pads.getD j (0,false)).2;generalize k.pads.getD j (0,false)=p at *
     obtain⟨p1,p2⟩:=p;simp only[qbX,yaT,yam,decide_eq_true_eq] at hsj;have hm9:p1%256=p1:=by omega
     simp only[go_sem,seval,gy,hpl,hel,hm9]
     repeat' first|assumption|(simp (disch:=first|assumption|omega|(simp;done)|(simp;omega)) only[yaa,qaj];try simp only[go_sem,seval,gy,hpl,hel,hm9])|(with_reducible first|apply And.intro|intro _)|((try rw[qaa]);omega)
     refine qaP (n:=0) [8] (fsts [0,1,4,2,3,5] (.one 6 (.one 7 (.one 8 (.fst 9 .done))))) ?_;simp only[go_sem,seval,gy,hpl,hel,hm9]
     repeat' first|assumption|(simp (disch:=first|assumption|omega|(simp;done)|(simp;omega)) only[yaa,qaj];try simp only[go_sem,seval,gy,hpl,hel,hm9])|(with_reducible first|apply And.intro|intro _)|(refine qab hfl ?_;simp only[go_sem,seval,gy,hpl,hel,hm9])|((try rw[qaa]);omega)
     exact⟨j+1,by omega,by omega,⟨⟨by omega,by omega⟩,rfl⟩,by omega,by rw[hes];simp⟩
    ·obtain rfl:j=3:=by omega
     have hbd : ∀ x∈q++qd9 k.pads 3,0<=x/\x<=255:=fun x hx=>by
      rcases List.mem_append.1 hx with h|h
      ·exact hqb x h
      ·exact qob hk x h
     have hck:=c_checksum (q++qd9 k.pads 3) hbd (by simp[hel];omega);have hsb:=qrj (q++qd9 k.pads 3) (q++qd9 k.pads 3).length;rw[yav] at hsb;simp only[go_sem,seval,hpl,hel]
     repeat' first|assumption|(simp (disch:=first|assumption|omega|(simp;done)|(simp;omega)) only[yaa,qaj];try simp only[go_sem,seval,hpl,hel])|(with_reducible first|apply And.intro|intro _)|(refine qab hck ?_;simp only[go_sem,seval,hpl,hel])|((try rw[qaa]);omega)
     rw[hcd];simp

theorem quK {α : Type}{f : α->List Int}{n:Nat} : ∀ {l:List α},(∀ x∈l,(f x).length=n)->(l.flatMap f).length=n*l.length
 | [],_=>rfl
 | x::l,h=>by
  rw[yaG,yae,h x (yaw ..),quK fun y hy=>h y (yai _ hy),yau,Nat.mul_succ];omega
theorem qrl {α : Type}{f : α->List Int}{n:Nat}(z : α) : ∀ {l:List α},(∀ x∈l,(f x).length=n)->∀ {i j:Nat},i<l.length->j<n->(l.flatMap f).getD (n*i+j) 0=(f (l.getD i z)).getD j 0
 | [],_,i,j,hi,_=>by simp at hi
 | x::l,h,0,j,_,hj=>by
  have hx:=h x (yaw ..);rw[yaG,Nat.mul_zero,yaV,qae (by omega)];rfl
 | x::l,h,i+1,j,hi,hj=>by
  have hx:=h x (yaw ..);have ih:=qrl z (fun y hy=>h y (yai _ hy)) (i:=i) (j:=j) (by simpa using hi) hj;rw[yaG,List.getD_eq_getElem?_getD,List.getElem?_append_right (by rw[hx,Nat.mul_succ];omega),hx,show n*(i+1)+j-n=n*i+j by rw[Nat.mul_succ];omega,<-List.getD_eq_getElem?_getD,ih];rfl
theorem qtD {t:Tcfg}(h:t.select.length=3/\t.drive.length=8):(encT t).length=13:=by
 simp[encT,h.1,h.2]
theorem qmi {k:Kcfg}(hk:k.ok) : ∀ t∈k.tiles,(encT t).length=13:=fun t ht=>by
 obtain⟨i,hi,rfl⟩:=qaE tc0 ht;exact qtD (Kcfg.ok_sizes hk (by have:=hk.1;omega))
theorem qkT {k:Kcfg}(hk:k.ok):(qc9 k.tiles 25).length=325:=by
 unfold qc9;rw[yaa (by have:=hk.1;omega),quK (qmi hk),hk.1]
theorem qgB {k:Kcfg}(hk:k.ok):encC k=(qc9 k.tiles 25++qd9 k.pads 3) ++ [sumC (qc9 k.tiles 25++qd9 k.pads 3)/256%256,sumC (qc9 k.tiles 25++qd9 k.pads 3)%256]:=by
 unfold encC;rw[hk.1,hk.2.1.1]
theorem qtE {k:Kcfg}(hk:k.ok):(encC k).length=333:=by
 rw[qgB hk,yae,yae,qkT hk,qjd (by have:=hk.2.1.1;omega)];rfl
theorem qrm {k:Kcfg}(hk:k.ok) {i j:Nat}(hi:i<25) (hj:j<13):(encC k).getD (13*i+j) 0=(encT (k.tiles.getD i tc0)).getD j 0:=by
 rw[qgB hk,yaq,qae (by rw[qkT hk];omega),qc9,yaa (by have:=hk.1;omega)];exact qrl tc0 (qmi hk) (by have:=hk.1;omega) hj
theorem qoc {k:Kcfg}(hk:k.ok) {o j:Nat}(ho:o<3) (hj:j<2):(encC k).getD (325+(2*o+j)) 0=[(k.pads.getD o (0,false)).1,b01 (k.pads.getD o (0,false)).2].getD j 0:=by
 have hl:=qkT hk;have hp:=hk.2.1.1;rw[qgB hk,qae (by rw[yae,hl,qjd (by omega)];omega),List.getD_eq_getElem?_getD,List.getElem?_append_right (by omega),hl,show 325+(2*o+j)-325=2*o+j by omega,<-List.getD_eq_getElem?_getD,qd9,yaa (by omega)];exact qrl (f:=fun p:Int×Bool=>[p.1,b01 p.2]) (0,false) (fun _ _=>rfl) (by omega) hj
def dec3 (l:List Int) (a:Nat):List Int:=[l.getD a 0,l.getD (a+1) 0,l.getD (a+2) 0]
def dec8 (l:List Int) (a:Nat):List Int:=[l.getD a 0,l.getD (a+1) 0,l.getD (a+2) 0,l.getD (a+3) 0,l.getD (a+4) 0,l.getD (a+5) 0,l.getD (a+6) 0,l.getD (a+7) 0]
theorem list3 {l:List Int}(h:l.length=3):l=dec3 l 0:=by
 match l,h with
 | [a,b,c],_=>rfl
theorem list8 {l:List Int}(h:l.length=8):l=dec8 l 0:=by
 match l,h with
 | [a,b,c,d,e,f,g,i],_=>rfl
theorem qrn (b:Bool):decide (b01 b=1)=b:=by cases b <;> rfl
def decT (l:List Int) (i:Nat):Tcfg:=⟨l.getD (13*i) 0,dec3 l (13*i+1),decide (l.getD (13*i+4) 0=1),dec8 l (13*i+5)⟩
def decP (l:List Int) (o:Nat):Int×Bool:=(l.getD (325+2*o) 0,decide (l.getD (325+2*o+1) 0=1))
theorem decT_eq {k:Kcfg}(hk:k.ok) {i:Nat}(hi:i<25):decT (encC k) i=k.tiles.getD i tc0:=by
 obtain⟨s1,s2⟩:=Kcfg.ok_sizes hk hi;have h:=fun j (hj:j<13)=>qrm hk hi hj
 generalize k.tiles.getD i tc0=t at *
 obtain⟨t1,t2,t3,t4⟩:=t;simp only at s1 s2;have e2:=list3 s1;have e4:=list8 s2;unfold decT dec3 dec8;rw[show 13*i=13*i+0 from rfl];simp only[yaF,Nat.reduceAdd,yaP];have h0:=h 0 (by omega);rw[yaP] at h0;rw[h0,h 1 (by omega),h 2 (by omega),h 3 (by omega),h 4 (by omega),h 5 (by omega),h 6 (by omega),h 7 (by omega),h 8 (by omega),h 9 (by omega),h 10 (by omega),h 11 (by omega),h 12 (by omega)];rw[e2,e4];unfold encT dec3 dec8;simp only[ybk,List.nil_append,List.getD_cons_zero,List.getD_cons_succ];rw[qrn]
theorem decP_eq {k:Kcfg}(hk:k.ok) {o:Nat}(ho:o<3):decP (encC k) o=k.pads.getD o (0,false):=by
 have h0:=qoc hk ho (j:=0) (by omega);have h1:=qoc hk ho (j:=1) (by omega);unfold decP;rw[yaF,h1,show 325+2*o=325+(2*o+0) from rfl,h0];simp only[List.getD_cons_zero,List.getD_cons_succ];rw[qrn]
theorem encC_bd {k:Kcfg}(hk:k.ok) : ∀ x∈encC k,0<=x/\x<=255:=fun x hx=>by
 rw[qgB hk] at hx;rcases List.mem_append.1 hx with h|h
 ·rcases List.mem_append.1 h with h|h
  ·exact qoa hk x h
  ·exact qob hk x h
 ·simp only[yaA,List.mem_nil_iff,or_false] at h;rcases h with rfl|rfl <;> omega

noncomputable def qnf (c:Circ):Option (List Int):=open Classical in if c.Valid then(qbF (optC c) []).map encC else none
theorem qo6 {c:Circ}{list:List (Int×Int)}{k:Kcfg}(h:qbF c list=some k):k.ok:=by
 obtain⟨-,-,rs,R,-,rfl⟩:=qhw h;exact R.ok
theorem Tryz.c_Compile (c:Circ):Pure prog 26 [dC c] (.tup [dUs ((qnf c).getD []),dB (qnf c).isSome]):=by
 classical
 have hcv:=c_CircuitValid c;have ho:=c_Opt c;by_cases hv:c.Valid
 ·rw[decide_eq_true hv] at hcv;rw[if_pos hv] at ho;have hR:=c_Configure (optC c);have e:qnf c=(qbF (optC c) []).map encC:=if_pos hv;rw[e];cases hA:qbF (optC c) [] with
  | none=>
   rw[hA] at hR;rw[yah];refine qb8 (E:=env 0) tok rfl 1000 func26 rfl rfl ntmps26 (by simp) fun ok=>?_
   simp only[go_sem,seval,-List.reduceReplicate] at ok;simp only[go_sem,seval,-List.reduceReplicate]
   repeat' first|assumption|(simp (disch:=first|assumption|omega|(simp;done)|(simp;omega)) only[];try simp only[go_sem,seval,-List.reduceReplicate])|(with_reducible first|apply And.intro|intro _)|(refine qab ho ?_;simp only[go_sem,seval,-List.reduceReplicate])|(refine qab hR ?_;simp only[go_sem,seval,-List.reduceReplicate])|(refine qaR (x:=.nil) (fun h=>by cases h) ?_;simp only[go_sem,seval,-List.reduceReplicate])|((try rw[qaa]);omega)
   all_goals first|rfl|simp[wk2,wkL,wk1,kz]
  | some k=>
   rw[hA] at hR;have hE:=c_EncodeConfig k;rw[if_pos (qo6 hA)] at hE;rw[yaj];refine qb8 (E:=env 0) tok rfl 1000 func26 rfl rfl ntmps26 (by simp) fun ok=>?_
   simp only[go_sem,seval,-List.reduceReplicate] at ok;simp only[go_sem,seval,-List.reduceReplicate]
   repeat' first|assumption|(simp (disch:=first|assumption|omega|(simp;done)|(simp;omega)) only[];try simp only[go_sem,seval,-List.reduceReplicate])|(with_reducible first|apply And.intro|intro _)|(refine qab ho ?_;simp only[go_sem,seval,-List.reduceReplicate])|(refine qab hR ?_;simp only[go_sem,seval,-List.reduceReplicate])|(refine qaR (fun _=>hcv) ?_;simp only[go_sem,seval,-List.reduceReplicate])|(refine qbr hE ?_;simp only[go_sem,seval,-List.reduceReplicate])|((try rw[qaa]);omega)
   all_goals first|rfl|simp[wk2,wkL,wk1,kz]
 ·rw[decide_eq_false hv] at hcv;rw[if_neg hv] at ho;have hR:=c_Configure Circ.zero;generalize (qbF Circ.zero []).isSome=b at *
  generalize (qbF Circ.zero []).getD kz=k at *
  have e:qnf c=none:=if_neg hv;rw[e];cases b with
  | false=>
   refine qb8 (E:=env 0) tok rfl 1000 func26 rfl rfl ntmps26 (by simp) fun ok=>?_
   simp only[go_sem,seval,-List.reduceReplicate] at ok;simp only[go_sem,seval,-List.reduceReplicate]
   repeat' first|assumption|(simp (disch:=first|assumption|omega|(simp;done)|(simp;omega)) only[];try simp only[go_sem,seval,-List.reduceReplicate])|(with_reducible first|apply And.intro|intro _)|(refine qab ho ?_;simp only[go_sem,seval,-List.reduceReplicate])|(refine qab hR ?_;simp only[go_sem,seval,-List.reduceReplicate])|(refine qaR (x:=.nil) (fun h=>by cases h) ?_;simp only[go_sem,seval,-List.reduceReplicate])|((try rw[qaa]);omega)
   all_goals first|rfl|simp[wk2,wkL,wk1,kz]
  | true=>
   refine qb8 (E:=env 0) tok rfl 1000 func26 rfl rfl ntmps26 (by simp) fun ok=>?_
   simp only[go_sem,seval,-List.reduceReplicate] at ok;simp only[go_sem,seval,-List.reduceReplicate]
   repeat' first|assumption|(simp (disch:=first|assumption|omega|(simp;done)|(simp;omega)) only[];try simp only[go_sem,seval,-List.reduceReplicate])|(with_reducible first|apply And.intro|intro _)|(refine qab ho ?_;simp only[go_sem,seval,-List.reduceReplicate])|(refine qab hR ?_;simp only[go_sem,seval,-List.reduceReplicate])|(refine qaR (fun _=>hcv) ?_;simp only[go_sem,seval,-List.reduceReplicate])|((try rw[qaa]);omega)
   all_goals first|rfl|simp[wk2,wkL,wk1,kz]
end Go.Proofs

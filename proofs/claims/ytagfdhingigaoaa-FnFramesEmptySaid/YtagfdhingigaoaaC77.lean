/- Contracts, plain definitions and lemmas. Conditions: none; lemmas. -/
import Derived.Test.YtagfdhingigaoaaC52
import Derived.Test.YtagfdhingigaoaaC76
set_option maxRecDepth 20000
set_option linter.unusedVariables false
set_option linter.unusedSimpArgs false
namespace Go.Proofs
open Go Go.VL
theorem qjc {α : Type}{f : α→D}{k n:Nat}{l:List α}{x c:D}{off:Nat}(h:l.length=n):putC k (l.map f ++ [x]) n off c=l.map f ++ [putE (decide (k=1)) k x off c]:=by subst h;exact qmC
def k0:Kcfg:=⟨[],[]⟩
theorem getD_k {l:List Kcfg}{i:Nat}{z:D}(h:i<l.length):(l.map fun x=>dK x).getD i z=dK (l.getD i k0):=getD_lt _ _ _ _ _ h
def qcd:Tcfg:=⟨0,[15,15,15],false,[0,0,0,0,0,0,0,0]⟩
def er (fs:List (Int×Tcfg)):List (Int×Tcfg):=fs.map fun f=>(f.1,qcd)
def qpl (t:List Tcfg) (p:List (Int×Bool)) (fs:List (Int×Tcfg)) (n:Nat):List Kcfg:=(List.range n).map fun j=>⟨qd5 t (fs.take (j+1)),p⟩
def steps (a:Kcfg) (fs:List (Int×Tcfg)):List Kcfg:=qpl a.tiles a.pads (er fs) fs.length++qpl (qd5 a.tiles (er fs)) a.pads fs fs.length
theorem Try.c_sEmptyConfig:Pure Try.prog 25 [] (dK ⟨List.replicate 25 qcd,List.replicate 3 (15,false)⟩):=by
 refine qat (E:=Try.env 0) Try.tok rfl 1000 Try.func25 rfl rfl Try.ntmps25 (by simp) fun ok=>?_
 simp only[go_sem,seval] at ok
 simp only[go_sem,seval,Try.results25]
 repeat' first|assumption|(simp (disch:=first|assumption|omega|(simp;done)|(simp;omega)) only[List.take_of_length_le];try simp only[go_sem,seval,Try.results25])|(with_reducible first|apply And.intro|intro _)|(refine qac ?_;simp only[go_sem,seval,Try.results25])|exact lexT|((try rw[qaa]);omega)
 refine qas (E:=Try.env 0) Try.tok (σ:=Nat) (fun i=>[(0,.ptr 0 0),(1,.ptr 1 0),(2,.d (dI i))])
  (fun i=>[.box [.d .nil,.d .nil],.box [.sl 2 i 4 0 i,.d .nil],.row i 4 true ((List.replicate i qcd).map fun x=>dTc x)]) (fun i=>i≤25) (fun i=>25-i) [(1,0,4,true)] [] 1000 1000 ?_ ?_
 ·simp only[go_sem,seval]
  exact⟨0,by omega,by simp⟩
 ·intro i hi
  by_cases hlt:i<25
  ·simp only[go_sem,seval,Try.results25]
   repeat' first|assumption|(simp (disch:=first|assumption|omega|(simp;done)|(simp;omega)) only[List.take_of_length_le];try simp only[go_sem,seval,Try.results25])|(with_reducible first|apply And.intro|intro _)|(refine qac ?_;simp only[go_sem,seval,Try.results25])|exact lexT|((try rw[qaa]);omega)
   refine qas (E:=Try.env 0) Try.tok (σ:=Nat) (fun n=>[(0,.ptr 0 0),(1,.ptr 1 0),(2,.d (dI i)),(3,.ptr 4 0),(4,.d (dI n))])
    (fun n=>[.box [.d .nil,.d .nil],.box [.sl 2 i 4 0 i,.d .nil],.row i 4 true ((List.replicate i qcd).map fun x=>dTc x),.row 0 1 true ((List.replicate 8 (0:Int)).map (D.int .i64)),.box [.d (dI 0),.sl 5 n 1 0 n,.d (dB false),.sl 3 0 1 0 8],.row n 1 true ((List.replicate n (15:Int)).map (D.int .i64))]) (fun n=>n≤3) (fun n=>3-n) [(4,1,1,true)] [] 1000 1000 ?_ ?_
   ·simp only[go_sem,seval]
    exact⟨0,by omega,by simp⟩
   ·intro n hn
    by_cases hnt:n<3
    ·simp only[go_sem,seval,Try.results25]
     repeat' first|assumption|(simp (disch:=first|assumption|omega|(simp;done)|(simp;omega)) only[List.take_of_length_le];try simp only[go_sem,seval,Try.results25])|(with_reducible first|apply And.intro|intro _)|(refine qac ?_;simp only[go_sem,seval,Try.results25])|exact lexT|((try rw[qaa]);omega)
     exact⟨n+1,by omega,by omega,rfl,rfl,rfl,by rw[List.replicate_succ']⟩
    ·obtain rfl:n=3:=by omega
     simp only[go_sem,seval,Try.results25]
     repeat' first|assumption|(simp (disch:=first|assumption|omega|(simp;done)|(simp;omega)) only[List.take_of_length_le];try simp only[go_sem,seval,Try.results25])|(with_reducible first|apply And.intro|intro _)|(refine qac ?_;simp only[go_sem,seval,Try.results25])|exact lexT|((try rw[qaa]);omega)
     ·simp[qjO]
     ·refine⟨i+1,by omega,by omega,rfl,rfl,rfl,?_⟩
      rw[qjc (by simp),qjc (by simp),show List.replicate (i+1) qcd=List.replicate i qcd ++ [qcd] from List.replicate_succ',List.map_append]
      rfl
  ·obtain rfl:i=25:=by omega
   simp only[go_sem,seval,Try.results25]
   repeat' first|assumption|(simp (disch:=first|assumption|omega|(simp;done)|(simp;omega)) only[List.take_of_length_le];try simp only[go_sem,seval,Try.results25])|(with_reducible first|apply And.intro|intro _)|(refine qac ?_;simp only[go_sem,seval,Try.results25])|exact lexT|((try rw[qaa]);omega)
   refine qas (E:=Try.env 0) Try.tok (σ:=Nat) (fun n=>[(0,.ptr 0 0),(1,.ptr 1 0),(5,.d (dI n))])
    (fun n=>[.box [.d .nil,.d .nil],.box [.sl 2 25 4 0 25,.sl 3 n 2 0 n],.row 25 4 true ((List.replicate 25 qcd).map fun x=>dTc x),.row n 2 true ((List.replicate n ((15:Int),false)).map fun x=>dQ x)]) (fun n=>n≤3) (fun n=>3-n) [(1,1,2,true)] [] 1000 1000 ?_ ?_
   ·simp only[go_sem,seval]
    exact⟨0,by omega,by simp⟩
   ·intro n hn
    by_cases hnt:n<3
    ·simp only[go_sem,seval,Try.results25]
     repeat' first|assumption|(simp (disch:=first|assumption|omega|(simp;done)|(simp;omega)) only[List.take_of_length_le];try simp only[go_sem,seval,Try.results25])|(with_reducible first|apply And.intro|intro _)|(refine qac ?_;simp only[go_sem,seval,Try.results25])|exact lexT|((try rw[qaa]);omega)
     refine⟨n+1,by omega,by omega,rfl,rfl,rfl,?_⟩
     rw[List.replicate_succ',List.map_append]
     rfl
    ·obtain rfl:n=3:=by omega
     simp only[go_sem,seval,Try.results25]
     repeat' first|assumption|(simp (disch:=first|assumption|omega|(simp;done)|(simp;omega)) only[List.take_of_length_le];try simp only[go_sem,seval,Try.results25])|(with_reducible first|apply And.intro|intro _)|(refine qac ?_;simp only[go_sem,seval,Try.results25])|exact lexT|((try rw[qaa]);omega)
end Go.Proofs

set_option maxRecDepth 20000
set_option linter.unusedVariables false
set_option linter.unusedSimpArgs false
namespace Go.Proofs
open Go Go.VL
def srcC (c:Circ) (net:Int) (h:Int×Int):Int:=
 if h.2<0 then(if net≤c.inputs then 6 else 1)
 else if nb h.1 2=h.2 then 2 else if nb h.1 3=h.2 then 3 else if nb h.1 4=h.2 then 4 else if nb h.1 5=h.2 then 5 else 0
theorem Try.c_l9Source (c:Circ) (hc : -1000≤c.inputs∧c.inputs≤1000) (net:Int) (h:Int×Int) (hh:0≤h.1∧h.1≤24):Pure Try.prog 52 [dC c,dI net,dP h] (dI (srcC c net h)):=by
 refine qat (E:=Try.env 0) Try.tok rfl 1000 Try.func52 rfl rfl Try.ntmps52 (by simp) fun ok=>?_
 simp only[go_sem,seval] at ok
 simp only[go_sem,seval,Try.results52]
 repeat' first|assumption|(simp (disch:=first|assumption|omega|(simp;done)|(simp;omega)) only[qaC];try simp only[go_sem,seval,Try.results52])|(with_reducible first|apply And.intro|intro _)|(refine qac ?_;simp only[go_sem,seval,Try.results52])|exact lexT|((try rw[qaa]);omega)
 ·rw[srcC,if_pos (by omega),if_pos (by omega)]
 ·rw[srcC,if_pos (by omega),if_neg (by omega)]
 ·have hs:srcC c net h=if nb h.1 2=h.2 then 2 else if nb h.1 3=h.2 then 3 else if nb h.1 4=h.2 then 4 else if nb h.1 5=h.2 then 5 else 0:=by rw[srcC,if_neg (by omega)]
  have hn : ∀ d,Pure Try.prog 32 [dI h.1,dI d] (dI (nb h.1 d)):=fun d=>Try.c_l9Neighbour h.1 d hh
  refine qaH (E:=Try.env 0) Try.tok (σ:=Nat) (fun k=>[(2,.d (dP h)),(5,.ptr 1 0),(7,.d (dI k))]) (fun _=>[.box [.d (dI c.inputs),.d (dIs c.next),.d (dPs c.gates),.d (dIs c.outs)],.box [.d (dI h.1),.d (dI h.2)]])
   (fun k=>2≤k∧k≤6∧∀ j:Nat,2≤j→j<k→nb h.1 j≠h.2) (fun k=>6-k) [] 1000 1000 ?_ ?_ ?_
  ·simp only[go_sem,seval]
  ·simp only[go_sem,seval]
   exact⟨2,⟨by omega,by omega,fun j h1 h2=>by omega⟩,rfl⟩
  ·rintro k ⟨hk2,hk6,hk⟩
   by_cases hlt:k<6
   ·have hb : -1≤nb h.1 k∧nb h.1 k≤24:=by
     unfold nb nbUp qhF qfq qhG
     repeat' split
     all_goals omega
    simp only[go_sem,seval,Try.results52]
    repeat' first|assumption|(simp (disch:=first|assumption|omega|(simp;done)|(simp;omega)) only[qaC];try simp only[go_sem,seval,Try.results52])|(with_reducible first|apply And.intro|intro _)|(refine qbP (fun _=>⟨hn k,by show InK .i64 _;rw[qaa];omega⟩) ?_;simp only[go_sem,seval,Try.results52])|(refine qac ?_;simp only[go_sem,seval,Try.results52])|exact lexT|((try rw[qaa]);omega)
    ·rename_i h9
     rw[hs]
     have a2:2<k→nb h.1 2≠h.2:=fun h7=>hk 2 (by omega) h7
     have a3:3<k→nb h.1 3≠h.2:=fun h7=>hk 3 (by omega) h7
     have a4:4<k→nb h.1 4≠h.2:=fun h7=>hk 4 (by omega) h7
     have a5:5<k→nb h.1 5≠h.2:=fun h7=>hk 5 (by omega) h7
     obtain rfl|rfl|rfl|rfl:k=2∨k=3∨k=4∨k=5:=by omega
     ·have h2:nb h.1 2=h.2:=h9
      rw[if_pos h2];rfl
     ·have h3:nb h.1 3=h.2:=h9
      rw[if_neg (a2 (by omega)),if_pos h3];rfl
     ·have h4:nb h.1 4=h.2:=h9
      rw[if_neg (a2 (by omega)),if_neg (a3 (by omega)),if_pos h4];rfl
     ·have h5:nb h.1 5=h.2:=h9
      rw[if_neg (a2 (by omega)),if_neg (a3 (by omega)),if_neg (a4 (by omega)),if_pos h5];rfl
    ·rename_i h9
     refine⟨k+1,⟨by omega,by omega,fun j h1 h2=>?_⟩,by omega,rfl⟩
     by_cases hj:j=k
     ·subst hj;exact h9
     ·exact hk j h1 (by omega)
   ·obtain rfl:k=6:=by omega
    simp only[go_sem,seval,Try.results52]
    repeat' first|assumption|(simp (disch:=first|assumption|omega|(simp;done)|(simp;omega)) only[qaC];try simp only[go_sem,seval,Try.results52])|(with_reducible first|apply And.intro|intro _)|(refine qac ?_;simp only[go_sem,seval,Try.results52])|exact lexT|((try rw[qaa]);omega)
    have a2:nb h.1 2≠h.2:=hk 2 (by omega) (by omega)
    have a3:nb h.1 3≠h.2:=hk 3 (by omega) (by omega)
    have a4:nb h.1 4≠h.2:=hk 4 (by omega) (by omega)
    have a5:nb h.1 5≠h.2:=hk 5 (by omega) (by omega)
    rw[hs,if_neg a2,if_neg a3,if_neg a4,if_neg a5]
def trkN (vars:Nat) (rs:List Rt) (k:Nat):List Int:=(rs.take k).foldl (fun l r=>l.set r.net.toNat r.track) (List.replicate vars 15)
def qdB (vars:Nat) (rs:List Rt):List Int:=trkN vars rs rs.length
theorem qkJ {vars:Nat}{rs:List Rt}{k:Nat}:(trkN vars rs k).length=vars:=by
 unfold trkN
 generalize rs.take k=l
 have : ∀ (l:List Rt) (q:List Int),(l.foldl (fun l r=>l.set r.net.toNat r.track) q).length=q.length:=by
  intro l
  induction l with
  | nil=>intro q;rfl
  | cons a l ih=>intro q;rw[List.foldl_cons,ih,List.length_set]
 rw[this,List.length_replicate]
theorem qmT {vars:Nat}{rs:List Rt}{k:Nat}(hk:k<rs.length):trkN vars rs (k+1)=(trkN vars rs k).set (rs.getD k rt0).net.toNat (rs.getD k rt0).track:=
 qaR (f:=fun(l:List Int) (r:Rt)=>l.set r.net.toNat r.track) (b:=List.replicate vars 15) rt0 hk
theorem Try.c_l9Tracks (vars:Nat) (hv:vars≤100) (rs:List Rt) (hr : ∀ r∈rs,0≤r.net∧r.net<vars):Pure Try.prog 51 [dI vars,dRts rs] (dIs (qdB vars rs)):=by
 refine qat (E:=Try.env 0) Try.tok rfl 1000 Try.func51 rfl rfl Try.ntmps51 (by simp) fun ok=>?_
 simp only[go_sem,seval] at ok
 simp only[go_sem,seval,Try.results51]
 repeat' first|assumption|(simp (disch:=first|assumption|omega|(simp;done)|(simp;omega)) only[qaC];try simp only[go_sem,seval,Try.results51])|(with_reducible first|apply And.intro|intro _)|(refine qac ?_;simp only[go_sem,seval,Try.results51])|exact lexT|((try rw[qaa]);omega)
 refine qaH (E:=Try.env 0) Try.tok (σ:=Nat) (fun k=>[(0,.d (dI vars)),(1,.d (dRts rs)),(5,.sl 0 k 1 0 k),(6,.d (dI k))]) (fun k=>[.row k 1 true ((List.replicate k 15).map (D.int .i64))]) (fun k=>k≤vars) (fun k=>vars-k) [] 1000 1000 ?_ ?_ ?_
 ·simp only[go_sem,seval]
 ·simp only[go_sem,seval]
  exact⟨0,by omega,by simp,by simp,rfl⟩
 ·intro k hk
  by_cases hlt:k<vars
  ·simp only[go_sem,seval,Try.results51]
   repeat' first|assumption|(simp (disch:=first|assumption|omega|(simp;done)|(simp;omega)) only[qaC];try simp only[go_sem,seval,Try.results51])|(with_reducible first|apply And.intro|intro _)|(refine qac ?_;simp only[go_sem,seval,Try.results51])|exact lexT|((try rw[qaa]);omega)
   exact⟨k+1,by omega,by omega,rfl,rfl,List.replicate_succ'.symm⟩
  ·obtain rfl:k=vars:=by omega
   simp only[go_sem,seval,Try.results51]
   repeat' first|assumption|(simp (disch:=first|assumption|omega|(simp;done)|(simp;omega)) only[qaC];try simp only[go_sem,seval,Try.results51])|(with_reducible first|apply And.intro|intro _)|(refine qac ?_;simp only[go_sem,seval,Try.results51])|exact lexT|((try rw[qaa]);omega)
   have e0:List.replicate k 15=trkN k rs 0:=rfl
   rw[e0]
   refine qaH (E:=Try.env 0) Try.tok (σ:=Nat) (fun i=>[(1,.d (dRts rs)),(5,.sl 0 k 1 0 k),(7,.d (dI i))]) (fun i=>[.row k 1 true ((trkN k rs i).map (D.int .i64))]) (fun i=>i≤rs.length) (fun i=>rs.length-i) [] 1000 1000 ?_ ?_ ?_
   ·simp only[go_sem,seval]
   ·simp only[go_sem,seval]
    exact⟨0,by omega,by simp,rfl⟩
   ·intro i hi
    have htl:=@qkJ k rs i
    by_cases hlt:i<rs.length
    ·have hst:=@qmT k rs i hlt
     have hrr:=hr _ (qan hlt:rs.getD i rt0∈rs)
     generalize hr9:rs.getD i rt0=r at *
     generalize trkN k rs i=q at *
     simp only[go_sem,seval,Try.results51,hr9]
     repeat' first|assumption|(simp (disch:=first|assumption|omega|(simp;done)|(simp;omega)) only[qaC];try simp only[go_sem,seval,Try.results51,hr9])|(with_reducible first|apply And.intro|intro _)|(refine qac ?_;simp only[go_sem,seval,Try.results51,hr9])|exact lexT|((try rw[qaa]);omega)
     refine qau (E:=Try.env 0) Try.tok Try.follows 1000 1000 [12] (fsts [0,1,2,3,4,6,7,8,9,5,10,11] (.one 12 .done)) (by kernel_rfl) ?_
     simp only[go_sem,seval,Try.results51,hr9,htl]
     repeat' first|assumption|(simp (disch:=first|assumption|omega|(simp;done)|(simp;omega)) only[qaC];try simp only[go_sem,seval,Try.results51,hr9,htl])|(with_reducible first|apply And.intro|intro _)|(refine qac ?_;simp only[go_sem,seval,Try.results51,hr9,htl])|exact lexT|((try rw[qaa]);omega)
     exact⟨i+1,by omega,by omega,rfl,hst.symm⟩
    ·obtain rfl:i=rs.length:=by omega
     rw[qdB]
     simp only[go_sem,seval,Try.results51]
     repeat' first|assumption|(simp (disch:=first|assumption|omega|(simp;done)|(simp;omega)) only[qaC];try simp only[go_sem,seval,Try.results51])|(with_reducible first|apply And.intro|intro _)|(refine qac ?_;simp only[go_sem,seval,Try.results51])|exact lexT|((try rw[qaa]);omega)
end Go.Proofs

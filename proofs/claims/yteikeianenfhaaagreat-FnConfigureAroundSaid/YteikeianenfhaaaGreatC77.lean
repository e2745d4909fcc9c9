/- Contracts: the reference configures a circuit. Conditions: none; lemmas. -/
import Derived.Test.YteikeianenfhaaaGreatC46
import Derived.Test.YteikeianenfhaaaGreatC53
set_option maxRecDepth 20000
set_option linter.unusedVariables false
set_option linter.unusedSimpArgs false
set_option maxHeartbeats 2000000
namespace Go.Proofs
set_option linter.defProp false
open Go Go.VL Tryz
def srcC (c:Circ) (net:Int) (h:Int×Int):Int:=
 if h.2<0 then(if net<=c.inputs then 6 else 1)
 else if nb h.1 2=h.2 then 2 else if nb h.1 3=h.2 then 3 else if nb h.1 4=h.2 then 4 else if nb h.1 5=h.2 then 5 else 0
def Tryz.c_l9Source (c:Circ) (hc : -1000<=c.inputs/\c.inputs<=1000) (net:Int) (h:Int×Int) (hh:0<=h.1/\h.1<=24):Pure prog 144 [dC c,dI net,dP h] (dI (srcC c net h)):=by
 refine qax func144 rfl ntmps144 fun ok=>?_
 simp only[go_sem,seval] at ok
 repeat' first|assumption|(simp (disch:=first|assumption|omega|(simp;done)|(simp;omega)) only[go_sem,seval,qar])|(with_reducible first|apply And.intro|intro _)|exact lexT|((try rw[qaa]);omega)
 ·rw[srcC,if_pos (by omega),if_pos (by omega)]
 ·rw[srcC,if_pos (by omega),if_neg (by omega)]
 ·have hs:srcC c net h=if nb h.1 2=h.2 then 2 else if nb h.1 3=h.2 then 3 else if nb h.1 4=h.2 then 4 else if nb h.1 5=h.2 then 5 else 0:=by rw[srcC,if_neg (by omega)]
  have hn : ∀ d,Pure prog 196 [dI h.1,dI d] (dI (nb h.1 d)):=fun d=>c_l9Neighbour h.1 d hh
  refine qaw (E:=env 0) tok (σ:=Nat) (fun k=>[(2,.d (dP h)),(5,.ptr 1 0),(7,.d (dI k))]) (fun _=>[.box [.d (dI c.inputs),.d (dIs c.next),.d (dPs c.gates),.d (dIs c.outs)],.box [.d (dI h.1),.d (dI h.2)]])
   (fun k=>2<=k/\k<=6/\∀ j:Nat,2<=j->j<k->nb h.1 j≠h.2) (fun k=>6-k) [] 1000 1000 ?_ ?_ ?_
  ·simp only[go_sem,seval]
  ·simp only[go_sem,seval];exact⟨2,⟨by omega,by omega,fun j h1 h2=>by omega⟩,rfl⟩
  ·rintro k ⟨hk2,hk6,hk⟩;by_cases hlt:k<6
   ·have hb : -1<=nb h.1 k/\nb h.1 k<=24:=by
     unfold nb nbUp qd2 qcN qd3
     repeat' split
     all_goals omega
    repeat' first|assumption|(simp (disch:=first|assumption|omega|(simp;done)|(simp;omega)) only[go_sem,seval,qar])|(with_reducible first|apply And.intro|intro _)|(refine qcD (fun _=>⟨hn k,by show InK .i64 _;rw[qaa];omega⟩) ?_)|exact lexT|((try rw[qaa]);omega)
    ·rename_i h9;rw[hs];have a2:2<k->nb h.1 2≠h.2:=fun h7=>hk 2 (by omega) h7
     have a3:3<k->nb h.1 3≠h.2:=fun h7=>hk 3 (by omega) h7
     have a4:4<k->nb h.1 4≠h.2:=fun h7=>hk 4 (by omega) h7
     have a5:5<k->nb h.1 5≠h.2:=fun h7=>hk 5 (by omega) h7
     obtain rfl|rfl|rfl|rfl:k=2∨k=3∨k=4∨k=5:=by omega
     ·have h2:nb h.1 2=h.2:=h9;rw[if_pos h2];rfl
     ·have h3:nb h.1 3=h.2:=h9;rw[if_neg (a2 (by omega)),if_pos h3];rfl
     ·have h4:nb h.1 4=h.2:=h9;rw[if_neg (a2 (by omega)),if_neg (a3 (by omega)),if_pos h4];rfl
     ·have h5:nb h.1 5=h.2:=h9;rw[if_neg (a2 (by omega)),if_neg (a3 (by omega)),if_neg (a4 (by omega)),if_pos h5];rfl
    ·rename_i h9;refine⟨k+1,⟨by omega,by omega,fun j h1 h2=>?_⟩,by omega,rfl⟩;by_cases hj:j=k
     ·subst hj;exact h9
     ·exact hk j h1 (by omega)
   ·obtain rfl:k=6:=by omega
    repeat' first|assumption|(simp (disch:=first|assumption|omega|(simp;done)|(simp;omega)) only[go_sem,seval,qar])|(with_reducible first|apply And.intro|intro _)|exact lexT|((try rw[qaa]);omega)
    have a2:nb h.1 2≠h.2:=hk 2 (by omega) (by omega);have a3:nb h.1 3≠h.2:=hk 3 (by omega) (by omega);have a4:nb h.1 4≠h.2:=hk 4 (by omega) (by omega);have a5:nb h.1 5≠h.2:=hk 5 (by omega) (by omega);rw[hs,if_neg a2,if_neg a3,if_neg a4,if_neg a5]
def trkN (vars:Nat) (rs:List Rt) (k:Nat):List Int:=(rs.take k).foldl (fun l r=>l.set r.net.toNat r.track) (List.replicate vars 15)
def qaP (vars:Nat) (rs:List Rt):List Int:=trkN vars rs rs.length
def qny {vars:Nat}{rs:List Rt}{k:Nat}:(trkN vars rs k).length=vars:=by
 unfold trkN;generalize rs.take k=l;have : ∀ (l:List Rt) (q:List Int),(l.foldl (fun l r=>l.set r.net.toNat r.track) q).length=q.length:=by
  intro l;induction l with
  | nil=>intro q;rfl
  | cons a l ih=>intro q;rw[yao,ih,yas]
 rw[this,yaK]
def qp0 {vars:Nat}{rs:List Rt}{k:Nat}(hk:k<rs.length):trkN vars rs (k+1)=(trkN vars rs k).set (rs.getD k rt0).net.toNat (rs.getD k rt0).track:=
 qaA (f:=fun(l:List Int) (r:Rt)=>l.set r.net.toNat r.track) (b:=List.replicate vars 15) rt0 hk
def Tryz.c_l9Tracks (vars:Nat) (hv:vars<=100) (rs:List Rt) (hr : ∀ r∈rs,0<=r.net/\r.net<vars):Pure prog 143 [dI vars,dRts rs] (dIs (qaP vars rs)):=by
 refine qax func143 rfl ntmps143 fun ok=>?_
 simp only[go_sem,seval] at ok
 repeat' first|assumption|(simp (disch:=first|assumption|omega|(simp;done)|(simp;omega)) only[go_sem,seval,qar])|(with_reducible first|apply And.intro|intro _)|exact lexT|((try rw[qaa]);omega)
 refine qaw (E:=env 0) tok (σ:=Nat) (fun k=>[(0,.d (dI vars)),(1,.d (dRts rs)),(5,.sl 0 k 1 0 k),(6,.d (dI k))]) (fun k=>[.row k 1 true ((List.replicate k 15).map (D.int .i64))]) (fun k=>k<=vars) (fun k=>vars-k) [] 1000 1000 ?_ ?_ ?_
 ·simp only[go_sem,seval]
 ·simp only[go_sem,seval];exact⟨0,by omega,by simp,by simp,rfl⟩
 ·intro k hk;by_cases hlt:k<vars
  ·repeat' first|assumption|(simp (disch:=first|assumption|omega|(simp;done)|(simp;omega)) only[go_sem,seval,qar])|(with_reducible first|apply And.intro|intro _)|exact lexT|((try rw[qaa]);omega)
   exact⟨k+1,by omega,by omega,rfl,rfl,List.replicate_succ'.symm⟩
  ·obtain rfl:k=vars:=by omega
   repeat' first|assumption|(simp (disch:=first|assumption|omega|(simp;done)|(simp;omega)) only[go_sem,seval,qar])|(with_reducible first|apply And.intro|intro _)|exact lexT|((try rw[qaa]);omega)
   have e0:List.replicate k 15=trkN k rs 0:=rfl;rw[e0];refine qaw (E:=env 0) tok (σ:=Nat) (fun i=>[(1,.d (dRts rs)),(5,.sl 0 k 1 0 k),(7,.d (dI i))]) (fun i=>[.row k 1 true ((trkN k rs i).map (D.int .i64))]) (fun i=>i<=rs.length) (fun i=>rs.length-i) [] 1000 1000 ?_ ?_ ?_
   ·simp only[go_sem,seval]
   ·simp only[go_sem,seval];exact⟨0,by omega,by simp,rfl⟩
   ·intro i hi;have htl:=@qny k rs i;by_cases hlt:i<rs.length
    ·have hst:=@qp0 k rs i hlt;have hrr:=hr _ (qad hlt:rs.getD i rt0∈rs);generalize hr9:rs.getD i rt0=r at *
     generalize trkN k rs i=q at *
     repeat' first|assumption|(simp (disch:=first|assumption|omega|(simp;done)|(simp;omega)) only[go_sem,seval,hr9,qar])|(with_reducible first|apply And.intro|intro _)|exact lexT|((try rw[qaa]);omega)
     refine qaL (n:=0) [12] (fsts [0,1,2,3,4,6,7,8,9,5,10,11] (.one 12 .done)) ?_
     repeat' first|assumption|(simp (disch:=first|assumption|omega|(simp;done)|(simp;omega)) only[go_sem,seval,hr9,htl,qar])|(with_reducible first|apply And.intro|intro _)|exact lexT|((try rw[qaa]);omega)
     exact⟨i+1,by omega,by omega,rfl,hst.symm⟩
    ·obtain rfl:i=rs.length:=by omega
     rw[qaP]
     repeat' first|assumption|(simp (disch:=first|assumption|omega|(simp;done)|(simp;omega)) only[go_sem,seval,qar])|(with_reducible first|apply And.intro|intro _)|exact lexT|((try rw[qaa]);omega)
end Go.Proofs

/- Contracts: one configuration changed into another one. Conditions: none; lemmas. -/
import Derived.Test.YtbnocdngcmimaaaC52
set_option maxRecDepth 20000
set_option linter.unusedVariables false
set_option linter.unusedSimpArgs false
namespace Go.Proofs
open Go Go.VL
abbrev dKs (l:List Kcfg):D:=.lst 2 (l.map fun x=>dK x)
theorem qkg {α : Type}{f : α→D}{k n:Nat}{l:List α}{x c:D}{off:Nat}(h:l.length=n):putC k (l.map f ++ [x]) n off c=l.map f ++ [putE (decide (k=1)) k x off c]:=by subst h;exact qnF
def k0:Kcfg:=⟨[],[]⟩
theorem qkh {l:List Kcfg}{i:Nat}{z:D}(h:i<l.length):(l.map fun x=>dK x).getD i z=dK (l.getD i k0):=getD_lt _ _ _ _ _ h
def emptyT:Tcfg:=⟨0,[15,15,15],false,[0,0,0,0,0,0,0,0]⟩
theorem qn0 {t:Int}(h:0≤t):emptyT.ok t=true:=by
 rw[Tcfg.ok_iff]
 refine⟨by decide,rfl,rfl,?_,?_⟩
 ·exact(qcy qco emptyT.select 0).1 (by decide)
 ·intro j hj
  have hj8:j<8:=hj
  have e:emptyT.drive.getD j 0=0:=by
   match j,hj8 with
   | 0,_|1,_|2,_|3,_|4,_|5,_|6,_|7,_=>rfl
  rw[e];simp[qaU]
def er (fs:List (Int×Tcfg)):List (Int×Tcfg):=fs.map fun f=>(f.1,emptyT)
theorem qlN (fs:List (Int×Tcfg)):(er fs).length=fs.length:=by simp[er]
def qbf (t:List Tcfg) (p:List (Int×Bool)) (fs:List (Int×Tcfg)) (n:Nat):List Kcfg:=(List.range n).map fun j=>⟨qax t (fs.take (j+1)),p⟩
theorem qdq (t:List Tcfg) (p:List (Int×Bool)) (fs:List (Int×Tcfg)) (n:Nat):qbf t p fs (n+1)=qbf t p fs n ++ [⟨qax t (fs.take (n+1)),p⟩]:=by simp[qbf,List.range_succ]
theorem qbz (t:List Tcfg) (p:List (Int×Bool)) (fs:List (Int×Tcfg)) (n:Nat):(qbf t p fs n).length=n:=by simp[qbf]
def steps (a:Kcfg) (fs:List (Int×Tcfg)):List Kcfg:=qbf a.tiles a.pads (er fs) fs.length++qbf (qax a.tiles (er fs)) a.pads fs fs.length
theorem qdR (a:Kcfg) (fs:List (Int×Tcfg)):(steps a fs).length=2*fs.length:=by simp[steps,qbz];omega
def qcC (l:List Kcfg) (p:List (Int×Bool)):List Kcfg:=l.set (l.length-1) ⟨(l.getD (l.length-1) k0).tiles,p⟩
noncomputable def qbg (a b:Kcfg):List Kcfg:=if a.ok∧b.ok then qcC (if qaP a b 25=[] then [a] else steps a (qaP a b 25)) b.pads else []
theorem qeX {a b:Kcfg}(h:b.ok) {n:Nat}(hn:n≤25) : ∀ p∈qaP a b n,frOk p=true:=by
 intro p hp
 obtain⟨i,hi,rfl⟩:=qhW hp
 have:=h.2.2 i (by have:=h.1;omega)
 exact qcl.2 ⟨⟨by simp only;omega,by simp only;omega⟩,this⟩
theorem qkZ {fs:List (Int×Tcfg)}(h : ∀ p∈fs,frOk p=true) : ∀ p∈er fs,frOk p=true:=by
 intro p hp
 obtain⟨q,hq,rfl⟩:=List.mem_map.1 hp
 have:=qcl.1 (h q hq)
 exact qcl.2 ⟨this.1,qn0 this.1.1⟩
theorem qcN {a:Kcfg}(h:a.ok) {fs:List (Int×Tcfg)}(hf : ∀ p∈fs,frOk p=true):(⟨qax a.tiles fs,a.pads⟩:Kcfg).ok:=
 ⟨by show(qax a.tiles fs).length=25;rw[qaI];exact h.1,h.2.1,qhY fs h.2.2 hf⟩
theorem qbO {α : Type}{l:List α}{n:Nat}{P : α→Prop}(h : ∀ x∈l,P x) : ∀ x∈l.take n,P x:=fun x hx=>h x (List.mem_of_mem_take hx)
theorem Try.c_emptyTile:Pure Try.prog 85 [] (dTc emptyT):=by
 refine qap (E:=Try.env 0) Try.tok rfl 1000 Try.func85 rfl rfl Try.ntmps85 (by simp) fun ok=>?_
 simp only[go_sem,seval] at ok
 simp only[go_sem,seval,Try.results85]
 repeat' first|assumption|(simp (disch:=first|assumption|omega|(simp;done)|(simp;omega)) only[qab,qad,List.take_of_length_le,qac,qah,qai,qak,qaa];try simp only[go_sem,seval,Try.results85])|(with_reducible refine And.intro ?_ ?_)|(with_reducible intro _)|(refine @Exists.intro I _ (I.d D.nil) ?_;simp only[go_sem,seval,Try.results85])|((with_reducible (show Region.lexB _ _=true));kernel_rfl)|((try rw[qae]);omega)
 all_goals rfl
theorem Try.c_sEmptyConfig:Pure Try.prog 84 [] (dK ⟨List.replicate 25 emptyT,List.replicate 3 (15,false)⟩):=by
 refine qap (E:=Try.env 0) Try.tok rfl 1000 Try.func84 rfl rfl Try.ntmps84 (by simp) fun ok=>?_
 simp only[go_sem,seval] at ok
 simp only[go_sem,seval,Try.results84]
 repeat' first|assumption|(simp (disch:=first|assumption|omega|(simp;done)|(simp;omega)) only[qab,qad,List.take_of_length_le,qac,qah,qai,qak,qaa];try simp only[go_sem,seval,Try.results84])|(with_reducible refine And.intro ?_ ?_)|(with_reducible intro _)|(refine @Exists.intro I _ (I.d D.nil) ?_;simp only[go_sem,seval,Try.results84])|((with_reducible (show Region.lexB _ _=true));kernel_rfl)|((try rw[qae]);omega)
 refine qaw (E:=Try.env 0) Try.tok (σ:=Nat) (fun i=>[(0,.ptr 0 0),(1,.ptr 1 0),(2,.d (dI i))])
  (fun i=>[.box [.d .nil,.d .nil],.box [.sl 2 i 4 0 i,.d .nil],.row i 4 true ((List.replicate i emptyT).map fun x=>dTc x)]) (fun i=>i≤25) (fun i=>25-i) [(1,0,4,true)] [] 1000 1000 ?_ ?_
 ·simp only[go_sem,seval]
  exact⟨0,by omega,by simp⟩
 ·intro i hi
  by_cases hlt:i<25
  ·simp only[go_sem,seval,Try.results84]
   repeat' first|assumption|(simp (disch:=first|assumption|omega|(simp;done)|(simp;omega)) only[qab,qad,List.take_of_length_le,qac,qah,qai,qak,qaa];try simp only[go_sem,seval,Try.results84])|(with_reducible refine And.intro ?_ ?_)|(with_reducible intro _)|(refine @Exists.intro I _ (I.d D.nil) ?_;simp only[go_sem,seval,Try.results84])|((with_reducible (show Region.lexB _ _=true));kernel_rfl)|((try rw[qae]);omega)
   refine qaw (E:=Try.env 0) Try.tok (σ:=Nat) (fun n=>[(0,.ptr 0 0),(1,.ptr 1 0),(2,.d (dI i)),(3,.ptr 4 0),(4,.d (dI n))])
    (fun n=>[.box [.d .nil,.d .nil],.box [.sl 2 i 4 0 i,.d .nil],.row i 4 true ((List.replicate i emptyT).map fun x=>dTc x),.row 0 1 true ((List.replicate 8 (0:Int)).map (D.int .i64)),.box [.d (dI 0),.sl 5 n 1 0 n,.d (dB false),.sl 3 0 1 0 8],.row n 1 true ((List.replicate n (15:Int)).map (D.int .i64))]) (fun n=>n≤3) (fun n=>3-n) [(4,1,1,true)] [] 1000 1000 ?_ ?_
   ·simp only[go_sem,seval]
    exact⟨0,by omega,by simp⟩
   ·intro n hn
    by_cases hnt:n<3
    ·simp only[go_sem,seval,Try.results84]
     repeat' first|assumption|(simp (disch:=first|assumption|omega|(simp;done)|(simp;omega)) only[qab,qad,List.take_of_length_le,qac,qah,qai,qak,qaa];try simp only[go_sem,seval,Try.results84])|(with_reducible refine And.intro ?_ ?_)|(with_reducible intro _)|(refine @Exists.intro I _ (I.d D.nil) ?_;simp only[go_sem,seval,Try.results84])|((with_reducible (show Region.lexB _ _=true));kernel_rfl)|((try rw[qae]);omega)
     exact⟨n+1,by omega,by omega,rfl,rfl,rfl,by rw[List.replicate_succ']⟩
    ·obtain rfl:n=3:=by omega
     simp only[go_sem,seval,Try.results84]
     repeat' first|assumption|(simp (disch:=first|assumption|omega|(simp;done)|(simp;omega)) only[qab,qad,List.take_of_length_le,qac,qah,qai,qak,qaa];try simp only[go_sem,seval,Try.results84])|(with_reducible refine And.intro ?_ ?_)|(with_reducible intro _)|(refine @Exists.intro I _ (I.d D.nil) ?_;simp only[go_sem,seval,Try.results84])|((with_reducible (show Region.lexB _ _=true));kernel_rfl)|((try rw[qae]);omega)
     ·simp[qkN]
     ·refine⟨i+1,by omega,by omega,rfl,rfl,rfl,?_⟩
      rw[qkg (by simp),qkg (by simp),show List.replicate (i+1) emptyT=List.replicate i emptyT ++ [emptyT] from List.replicate_succ',List.map_append]
      rfl
  ·obtain rfl:i=25:=by omega
   simp only[go_sem,seval,Try.results84]
   repeat' first|assumption|(simp (disch:=first|assumption|omega|(simp;done)|(simp;omega)) only[qab,qad,List.take_of_length_le,qac,qah,qai,qak,qaa];try simp only[go_sem,seval,Try.results84])|(with_reducible refine And.intro ?_ ?_)|(with_reducible intro _)|(refine @Exists.intro I _ (I.d D.nil) ?_;simp only[go_sem,seval,Try.results84])|((with_reducible (show Region.lexB _ _=true));kernel_rfl)|((try rw[qae]);omega)
   refine qaw (E:=Try.env 0) Try.tok (σ:=Nat) (fun n=>[(0,.ptr 0 0),(1,.ptr 1 0),(5,.d (dI n))])
    (fun n=>[.box [.d .nil,.d .nil],.box [.sl 2 25 4 0 25,.sl 3 n 2 0 n],.row 25 4 true ((List.replicate 25 emptyT).map fun x=>dTc x),.row n 2 true ((List.replicate n ((15:Int),false)).map fun x=>dQ x)]) (fun n=>n≤3) (fun n=>3-n) [(1,1,2,true)] [] 1000 1000 ?_ ?_
   ·simp only[go_sem,seval]
    exact⟨0,by omega,by simp⟩
   ·intro n hn
    by_cases hnt:n<3
    ·simp only[go_sem,seval,Try.results84]
     repeat' first|assumption|(simp (disch:=first|assumption|omega|(simp;done)|(simp;omega)) only[qab,qad,List.take_of_length_le,qac,qah,qai,qak,qaa];try simp only[go_sem,seval,Try.results84])|(with_reducible refine And.intro ?_ ?_)|(with_reducible intro _)|(refine @Exists.intro I _ (I.d D.nil) ?_;simp only[go_sem,seval,Try.results84])|((with_reducible (show Region.lexB _ _=true));kernel_rfl)|((try rw[qae]);omega)
     refine⟨n+1,by omega,by omega,rfl,rfl,rfl,?_⟩
     rw[List.replicate_succ',List.map_append]
     rfl
    ·obtain rfl:n=3:=by omega
     simp only[go_sem,seval,Try.results84]
     repeat' first|assumption|(simp (disch:=first|assumption|omega|(simp;done)|(simp;omega)) only[qab,qad,List.take_of_length_le,qac,qah,qai,qak,qaa];try simp only[go_sem,seval,Try.results84])|(with_reducible refine And.intro ?_ ?_)|(with_reducible intro _)|(refine @Exists.intro I _ (I.d D.nil) ?_;simp only[go_sem,seval,Try.results84])|((with_reducible (show Region.lexB _ _=true));kernel_rfl)|((try rw[qae]);omega)
theorem Try.c_SwitchConfig (a b:Kcfg):Pure Try.prog 40 [dK a,dK b] (dKs (qbg a b)):=by
 have ha:=Try.c_ConfigValid a
 have hb:=Try.c_ConfigValid b
 have hd:=Try.c_DiffFrames a b
 unfold qbg
 by_cases h:a.ok∧b.ok
 ·rw[decide_eq_true h.1] at ha
  rw[decide_eq_true h.2] at hb
  rw[qbL,if_pos h] at hd
  have hcp:=Try.c_copyConfig a (Kcfg.ok_small h.1)
  refine qdM (E:=Try.env 0) Try.tok rfl 1000 Try.func40 rfl rfl Try.ntmps40 (by simp) fun ok=>?_
  simp only[go_sem,seval] at ok
  simp only[go_sem,seval,Try.results40]
  repeat' first|assumption|(simp (disch:=first|assumption|omega|(simp;done)|(simp;omega)) only[qab,qad,List.take_of_length_le,qac,qah,qai,qak,qaa];try simp only[go_sem,seval,Try.results40])|(with_reducible refine And.intro ?_ ?_)|(with_reducible intro _)|(refine qaj ha ?_;simp only[go_sem,seval,Try.results40])|(refine qaC (fun _=>hb) ?_;simp only[go_sem,seval,Try.results40])|(refine qaj hd ?_;simp only[go_sem,seval,Try.results40])|(refine qaM hcp ?_;simp only[go_sem,seval,Try.results40])|(refine @Exists.intro I _ (I.d D.nil) ?_;simp only[go_sem,seval,Try.results40])|((with_reducible (show Region.lexB _ _=true));kernel_rfl)|((try rw[qae]);omega)
  rw[if_pos h]
  have hfl:=qdp a b 25
  have hfo:=qeX (a:=a) h.2 (Nat.le_refl 25)
  generalize qaP a b 25=fs at *
  have hla:a.tiles.length=25:=h.1.1
  have hfe:=qkZ hfo
  refine qpw 2 rfl rfl ?_
  simp only[go_sem,seval]
  refine qaw (E:=Try.env 0) Try.tok (σ:=Nat) (fun i=>[(3,.ptr 1 0),(4,.d .nil),(5,.d (dFrs fs)),(6,.ptr 4 0),(7,.sl 5 i 2 0 i),(25,.d (dFrs fs)),(26,.d (dI fs.length)),(27,.d (dI i))])
   (fun i=>[.dead 0,.box [.d (dTcs b.tiles),.d (dQs b.pads)],.row 0 4 false ((qax a.tiles ((er fs).take i)).map fun x=>dTc x),.row 0 2 true (a.pads.map fun x=>dQ x),.box [.sl 2 0 4 0 a.tiles.length,.sl 3 0 2 0 a.pads.length],.row i 2 true ((qbf a.tiles a.pads (er fs) i).map fun x=>dK x)])
   (fun i=>i≤fs.length) (fun i=>fs.length-i) [] [(7,2,true)] 1000 1000 ?_ ?_
  ·simp only[go_sem,seval]
   exact⟨0,by omega,by simp[qax,qbf]⟩
  ·intro i hi
   by_cases hlt:i<fs.length
   ·have hsn:=qcL a.tiles (er fs) (i:=i) (by rw[qlN];exact hlt)
    have hbl:=qaI ((er fs).take i) a.tiles
    have f1:=(qcl.1 (hfo _ (qao hlt:fs.getD i (0,tc0)∈fs))).1
    have hok:=qcN h.1 (qbO (n:=i+1) hfe)
    have he:(er fs).getD i (0,tc0)=((fs.getD i (0,tc0)).1,emptyT):=by simp[er,List.getD,hlt]
    rw[he] at hsn
    generalize hd9:fs.getD i (0,tc0)=d at *
    simp only[go_sem,seval,Try.results40]
    repeat' first|assumption|(simp (disch:=first|assumption|omega|(simp;done)|(simp;omega)) only[qab,qad,List.take_of_length_le,qac,qah,qai,qak,qaa];try simp only[go_sem,seval,Try.results40,hd9])|(with_reducible refine And.intro ?_ ?_)|(with_reducible intro _)|(refine @Exists.intro I _ (I.d D.nil) ?_;simp only[go_sem,seval,Try.results40,hd9])|((with_reducible (show Region.lexB _ _=true));kernel_rfl)|((try rw[qae]);omega)
    refine qbN (E:=Try.env 0) Try.tok Try.follows 1000 1000 [6] (.fst 0 (.fst 2 (.fst 1 (.fst 3 (.one 4 (.fst 5 (.one 6 (.done)))))))) (by kernel_rfl) ?_
    simp only[go_sem,seval,Try.results40,hd9]
    repeat' first|assumption|(simp (disch:=first|assumption|omega|(simp;done)|(simp;omega)) only[qab,qad,List.take_of_length_le,qac,qah,qai,qak,qaa];try simp only[go_sem,seval,Try.results40,hd9])|(with_reducible refine And.intro ?_ ?_)|(with_reducible intro _)|(refine qaj Try.c_emptyTile ?_;simp only[go_sem,seval,Try.results40,hd9])|(refine @Exists.intro I _ (I.d D.nil) ?_;simp only[go_sem,seval,Try.results40,hd9])|((with_reducible (show Region.lexB _ _=true));kernel_rfl)|((try rw[qae]);omega)
    have hst:(((qax a.tiles ((er fs).take i)).map fun x=>dTc x).set d.1.toNat (dTc emptyT))=(qax a.tiles ((er fs).take (i+1))).map fun x=>dTc x:=by rw[hsn,List.map_set]
    rw[hst]
    refine qaM (Try.c_copyConfig _ (Kcfg.ok_small hok)) ?_
    simp only[go_sem,seval,Try.results40]
    repeat' first|assumption|(simp (disch:=first|assumption|omega|(simp;done)|(simp;omega)) only[qab,qad,List.take_of_length_le,qac,qah,qai,qak,qaa];try simp only[go_sem,seval,Try.results40])|(with_reducible refine And.intro ?_ ?_)|(with_reducible intro _)|(refine @Exists.intro I _ (I.d D.nil) ?_;simp only[go_sem,seval,Try.results40])|((with_reducible (show Region.lexB _ _=true));kernel_rfl)|((try rw[qae]);omega)
    ·rw[qbz]
    ·refine⟨i+1,by omega,by omega,rfl,rfl,rfl,?_⟩
     rw[qdq,List.map_append]
     rfl
   ·obtain rfl:i=fs.length:=by omega
    rw[show(er fs).take fs.length=er fs from List.take_of_length_le (by rw[qlN];omega)]
    have hbl:=qaI (er fs) a.tiles
    have hok0:=qcN h.1 hfe
    generalize ht0:qax a.tiles (er fs)=t0 at *
    have hl0:=qbz a.tiles a.pads (er fs) fs.length
    generalize hs0:qbf a.tiles a.pads (er fs) fs.length=s0 at *
    simp only[go_sem,seval,Try.results40]
    repeat' first|assumption|(simp (disch:=first|assumption|omega|(simp;done)|(simp;omega)) only[qab,qad,List.take_of_length_le,qac,qah,qai,qak,qaa];try simp only[go_sem,seval,Try.results40])|(with_reducible refine And.intro ?_ ?_)|(with_reducible intro _)|(refine @Exists.intro I _ (I.d D.nil) ?_;simp only[go_sem,seval,Try.results40])|((with_reducible (show Region.lexB _ _=true));kernel_rfl)|((try rw[qae]);omega)
    refine qaw (E:=Try.env 0) Try.tok (σ:=Nat) (fun j=>[(3,.ptr 1 0),(6,.ptr 4 0),(7,.sl 5 (fs.length+j) 2 0 (fs.length+j)),(43,.d (dFrs fs)),(44,.d (dI fs.length)),(45,.d (dI j))])
     (fun j=>[.dead 0,.box [.d (dTcs b.tiles),.d (dQs b.pads)],.row 0 4 false ((qax t0 (fs.take j)).map fun x=>dTc x),.row 0 2 true (a.pads.map fun x=>dQ x),.box [.sl 2 0 4 0 a.tiles.length,.sl 3 0 2 0 a.pads.length],.row (fs.length+j) 2 true ((s0++qbf t0 a.pads fs j).map fun x=>dK x)])
     (fun j=>j≤fs.length) (fun j=>fs.length-j) [] [] 1000 1000 ?_ ?_
    ·simp only[go_sem,seval]
     exact⟨0,by omega,by simp[qax,qbf]⟩
    ·intro j hj
     have hbl2:=qaI (fs.take j) t0
     by_cases hjt:j<fs.length
     ·have hsn:=qcL t0 fs hjt
      have f1:=(qcl.1 (hfo _ (qao hjt:fs.getD j (0,tc0)∈fs))).1
      have hok:=qcN (a:=⟨t0,a.pads⟩) hok0 (qbO (n:=j+1) hfo)
      have hst:(((qax t0 (fs.take j)).map fun x=>dTc x).set (fs.getD j (0,tc0)).1.toNat (dTc (fs.getD j (0,tc0)).2))=(qax t0 (fs.take (j+1))).map fun x=>dTc x:=by rw[hsn,List.map_set]
      generalize hd9:fs.getD j (0,tc0)=d at *
      have hql:(s0++qbf t0 a.pads fs j).length=fs.length+j:=by simp[hl0,qbz]
      have hqs:s0++qbf t0 a.pads fs (j+1)=(s0++qbf t0 a.pads fs j) ++ [⟨qax t0 (fs.take (j+1)),a.pads⟩]:=by rw[qdq,List.append_assoc]
      generalize s0++qbf t0 a.pads fs j=q at *
      simp only[go_sem,seval,Try.results40]
      repeat' first|assumption|(simp (disch:=first|assumption|omega|(simp;done)|(simp;omega)) only[qab,qad,List.take_of_length_le,qac,qah,qai,qak,qaa];try simp only[go_sem,seval,Try.results40,hd9])|(with_reducible refine And.intro ?_ ?_)|(with_reducible intro _)|(refine @Exists.intro I _ (I.d D.nil) ?_;simp only[go_sem,seval,Try.results40,hd9])|((with_reducible (show Region.lexB _ _=true));kernel_rfl)|((try rw[qae]);omega)
      rw[hst]
      refine qaM (Try.c_copyConfig ⟨qax t0 (fs.take (j+1)),a.pads⟩ (Kcfg.ok_small hok)) ?_
      simp only[go_sem,seval,Try.results40]
      repeat' first|assumption|(simp (disch:=first|assumption|omega|(simp;done)|(simp;omega)) only[qab,qad,List.take_of_length_le,qac,qah,qai,qak,qaa];try simp only[go_sem,seval,Try.results40])|(with_reducible refine And.intro ?_ ?_)|(with_reducible intro _)|(refine @Exists.intro I _ (I.d D.nil) ?_;simp only[go_sem,seval,Try.results40])|((with_reducible (show Region.lexB _ _=true));kernel_rfl)|((try rw[qae]);omega)
      refine⟨j+1,by omega,by omega,⟨by omega,by omega⟩,rfl,by omega,?_⟩
      rw[hqs,List.map_append]
      rfl
     ·obtain rfl:j=fs.length:=by omega
      have hok:(⟨qax t0 fs,a.pads⟩:Kcfg).ok:=qcN (a:=⟨t0,a.pads⟩) hok0 hfo
      have hbl3:=qaI fs t0
      have tk:List.take a.tiles.length ((qax t0 fs).map fun x=>dTc x)=(qax t0 fs).map fun x=>dTc x:=List.take_of_length_le (by simp;omega)
      have hl1:=qbz t0 a.pads fs fs.length
      have hlb:b.pads.length=3:=h.2.2.1.1
      have hcb:=Try.c_CloneQ b.pads (by omega)
      by_cases hfs:fs=[]
      ·subst hfs
       simp only[List.length_nil,Nat.add_zero,if_true] at *
       simp only[go_sem,seval,Try.results40]
       repeat' first|assumption|(simp (disch:=first|assumption|omega|(simp;done)|(simp;omega)) only[qab,qad,List.take_of_length_le,qac,qah,qai,qak,qaa];try simp only[go_sem,seval,Try.results40,tk])|(with_reducible refine And.intro ?_ ?_)|(with_reducible intro _)|(refine @Exists.intro I _ (I.d D.nil) ?_;simp only[go_sem,seval,Try.results40,tk])|((with_reducible (show Region.lexB _ _=true));kernel_rfl)|((try rw[qae]);omega)
       have es0:s0=[]:=by rw[←hs0];rfl
       have et0:t0=a.tiles:=by rw[←ht0];rfl
       subst es0
       rw[et0,show([]:List Kcfg)++qbf a.tiles a.pads [] 0=[] from rfl]
       refine qaM (Try.c_copyConfig a (Kcfg.ok_small h.1)) ?_
       simp only[go_sem,seval,Try.results40]
       repeat' first|assumption|(simp (disch:=first|assumption|omega|(simp;done)|(simp;omega)) only[qab,qad,List.take_of_length_le,qac,qah,qai,qak,qaa];try simp only[go_sem,seval,Try.results40,tk])|(with_reducible refine And.intro ?_ ?_)|(with_reducible intro _)|(refine qmn hcb ?_;simp only[go_sem,seval,Try.results40,tk])|(refine @Exists.intro I _ (I.d D.nil) ?_;simp only[go_sem,seval,Try.results40,tk])|((with_reducible (show Region.lexB _ _=true));kernel_rfl)|((try rw[qae]);omega)
       all_goals first|rfl|exact Nat.one_pos
      ·rw[if_neg hfs]
       have hpos:0<fs.length:=List.length_pos_iff.2 hfs
       simp only[go_sem,seval,Try.results40]
       repeat' first|assumption|(simp (disch:=first|assumption|omega|(simp;done)|(simp;omega)) only[qab,qad,List.take_of_length_le,qac,qah,qai,qak,qaa];try simp only[go_sem,seval,Try.results40,tk])|(with_reducible refine And.intro ?_ ?_)|(with_reducible intro _)|(refine @Exists.intro I _ (I.d D.nil) ?_;simp only[go_sem,seval,Try.results40,tk])|((with_reducible (show Region.lexB _ _=true));kernel_rfl)|((try rw[qae]);omega)
       refine qaM hcb ?_
       simp only[go_sem,seval,Try.results40]
       repeat' first|assumption|(simp (disch:=first|assumption|omega|(simp;done)|(simp;omega)) only[qab,qad,List.take_of_length_le,qac,qah,qai,qak,qaa];try simp only[go_sem,seval,Try.results40])|(with_reducible refine And.intro ?_ ?_)|(with_reducible intro _)|(refine @Exists.intro I _ (I.d D.nil) ?_;simp only[go_sem,seval,Try.results40])|((with_reducible (show Region.lexB _ _=true));kernel_rfl)|((try rw[qae]);omega)
       have hls:=qdR a fs
       have hst2:s0++qbf t0 a.pads fs fs.length=steps a fs:=by rw[steps,←hs0,←ht0]
       rw[hst2,show((fs.length+fs.length:Nat)-1:Int).toNat=(steps a fs).length-1 by omega,qcC,List.map_set,qkh (by omega)]
       rfl
 ·rw[if_neg h]
  refine qap (E:=Try.env 0) Try.tok rfl 1000 Try.func40 rfl rfl Try.ntmps40 (by simp) fun ok=>?_
  simp only[go_sem,seval] at ok
  simp only[go_sem,seval,Try.results40]
  repeat' first|assumption|(simp (disch:=first|assumption|omega|(simp;done)|(simp;omega)) only[qab,qad,List.take_of_length_le,qac,qah,qai,qak,qaa];try simp only[go_sem,seval,Try.results40])|(with_reducible refine And.intro ?_ ?_)|(with_reducible intro _)|(refine qaj ha ?_;simp only[go_sem,seval,Try.results40])|(refine qaC (fun _=>hb) ?_;simp only[go_sem,seval,Try.results40])|(refine @Exists.intro I _ (I.d D.nil) ?_;simp only[go_sem,seval,Try.results40])|((with_reducible (show Region.lexB _ _=true));kernel_rfl)|((try rw[qae]);omega)
  rename_i h1
  exact absurd h1 h
theorem Try.c_sSwitchConfig (a b:Kcfg):PureF Try.prog 39 [dK a,dK b] (dKs (qbg a b)):=by
 have ha:=Try.c_sConfigValid a
 have hb:=Try.c_sConfigValid b
 have hd:=Try.c_sDiffFrames a b
 unfold qbg
 by_cases h:a.ok∧b.ok
 ·rw[decide_eq_true h.1] at ha
  rw[decide_eq_true h.2] at hb
  rw[qbL,if_pos h] at hd
  rw[if_pos h]
  have hcp:=Try.c_l23Copy a (Kcfg.ok_small h.1)
  have hfl:=qdp a b 25
  have hfo:=qeX (a:=a) h.2 (Nat.le_refl 25)
  generalize qaP a b 25=fs at *
  have hla:a.tiles.length=25:=h.1.1
  have hfe:=qkZ hfo
  refine Pure.fz ?_
  refine qdM (E:=Try.env 0) Try.tok rfl 1000 Try.func39 rfl rfl Try.ntmps39 (by simp) fun ok=>?_
  simp only[go_sem,seval] at ok
  simp only[go_sem,seval,Try.results39]
  repeat' first|assumption|(simp (disch:=first|assumption|omega|(simp;done)|(simp;omega)) only[qab,qad,List.take_of_length_le,qac,qah,qai,qak,qaa];try simp only[go_sem,seval,Try.results39])|(with_reducible refine And.intro ?_ ?_)|(with_reducible intro _)|(refine qaj ha ?_;simp only[go_sem,seval,Try.results39])|(refine qaC (fun _=>hb) ?_;simp only[go_sem,seval,Try.results39])|(refine qci hd ?_;simp only[go_sem,seval,Try.results39])|(refine qaM hcp ?_;simp only[go_sem,seval,Try.results39])|(refine qaj Try.c_sEmptyConfig ?_;simp only[go_sem,seval,Try.results39])|(refine @Exists.intro I _ (I.d D.nil) ?_;simp only[go_sem,seval,Try.results39])|((with_reducible (show Region.lexB _ _=true));kernel_rfl)|((try rw[qae]);omega)
  refine qaw (E:=Try.env 0) Try.tok (σ:=Nat) (fun i=>[(3,.ptr 1 0),(4,.d .nil),(5,.sl 2 i 2 0 i),(6,.d (dFrs fs)),(7,.ptr 5 0),(8,.ptr 6 0),(9,.d (dI i))])
   (fun i=>[.dead 0,.box [.d (dTcs b.tiles),.d (dQs b.pads)],.row i 2 true ((qbf a.tiles a.pads (er fs) i).map fun x=>dK x),.row 0 4 true ((qax a.tiles ((er fs).take i)).map fun x=>dTc x),.row 0 2 true (a.pads.map fun x=>dQ x),.box [.sl 3 0 4 0 a.tiles.length,.sl 4 0 2 0 a.pads.length],.box [.d (dTcs (List.replicate 25 emptyT)),.d (dQs (List.replicate 3 (15,false)))]])
   (fun i=>i≤fs.length) (fun i=>fs.length-i) [] [] 1000 1000 ?_ ?_
  ·simp only[go_sem,seval]
   exact⟨0,by omega,by simp[qax,qbf]⟩
  ·intro i hi
   by_cases hlt:i<fs.length
   ·have hsn:=qcL a.tiles (er fs) (i:=i) (by rw[qlN];exact hlt)
    have hbl:=qaI ((er fs).take i) a.tiles
    have f1:=(qcl.1 (hfo _ (qao hlt:fs.getD i (0,tc0)∈fs))).1
    have hok:=qcN h.1 (qbO (n:=i+1) hfe)
    have he:(er fs).getD i (0,tc0)=((fs.getD i (0,tc0)).1,emptyT):=by simp[er,List.getD,hlt]
    have he0:(List.replicate 25 emptyT).getD 0 tc0=emptyT:=rfl
    have hct:=Try.c_l23Tile emptyT (by decide) (by decide)
    rw[he] at hsn
    generalize hd9:fs.getD i (0,tc0)=d at *
    simp only[go_sem,seval,Try.results39]
    repeat' first|assumption|(simp (disch:=first|assumption|omega|(simp;done)|(simp;omega)) only[qab,qad,List.take_of_length_le,qac,qah,qai,qak,qaa];try simp only[go_sem,seval,Try.results39,hd9])|(with_reducible refine And.intro ?_ ?_)|(with_reducible intro _)|(refine @Exists.intro I _ (I.d D.nil) ?_;simp only[go_sem,seval,Try.results39,hd9])|((with_reducible (show Region.lexB _ _=true));kernel_rfl)|((try rw[qae]);omega)
    refine qit (E:=Try.env 0) Try.tok Try.follows 1000 1000 [13] (.fst 0 (.fst 2 (.fst 3 (.fst 4 (.fst 5 (.fst 7 (.fst 1 (.fst 6 (.fst 8 (.fst 9 (.fst 10 (.one 11 (.fst 12 (.one 13 (.done))))))))))))))) (by kernel_rfl) ?_
    simp only[go_sem,seval,Try.results39,hd9]
    repeat' first|assumption|(simp (disch:=first|assumption|omega|(simp;done)|(simp;omega)) only[qab,qad,List.take_of_length_le,qac,qah,qai,qak,qaa];try simp only[go_sem,seval,Try.results39,hd9,he0])|(with_reducible refine And.intro ?_ ?_)|(with_reducible intro _)|(refine qaM hct ?_;simp only[go_sem,seval,Try.results39,hd9,he0])|(refine @Exists.intro I _ (I.d D.nil) ?_;simp only[go_sem,seval,Try.results39,hd9,he0])|((with_reducible (show Region.lexB _ _=true));kernel_rfl)|((try rw[qae]);omega)
    have hst:(((qax a.tiles ((er fs).take i)).map fun x=>dTc x).set d.1.toNat (dTc emptyT))=(qax a.tiles ((er fs).take (i+1))).map fun x=>dTc x:=by rw[hsn,List.map_set]
    rw[hst]
    refine qaM (Try.c_l23Copy ⟨qax a.tiles ((er fs).take (i+1)),a.pads⟩ (Kcfg.ok_small hok)) ?_
    simp only[go_sem,seval,Try.results39]
    repeat' first|assumption|(simp (disch:=first|assumption|omega|(simp;done)|(simp;omega)) only[qab,qad,List.take_of_length_le,qac,qah,qai,qak,qaa];try simp only[go_sem,seval,Try.results39])|(with_reducible refine And.intro ?_ ?_)|(with_reducible intro _)|(refine @Exists.intro I _ (I.d D.nil) ?_;simp only[go_sem,seval,Try.results39])|((with_reducible (show Region.lexB _ _=true));kernel_rfl)|((try rw[qae]);omega)
    ·rw[qbz]
    ·refine⟨i+1,by omega,by omega,?_⟩
     repeat' apply And.intro
     all_goals first|rfl|omega|(rw[qdq,List.map_append];rfl)
   ·obtain rfl:i=fs.length:=by omega
    rw[show(er fs).take fs.length=er fs from List.take_of_length_le (by rw[qlN];omega)]
    have hbl:=qaI (er fs) a.tiles
    have hok0:=qcN h.1 hfe
    generalize ht0:qax a.tiles (er fs)=t0 at *
    have hl0:=qbz a.tiles a.pads (er fs) fs.length
    generalize hs0:qbf a.tiles a.pads (er fs) fs.length=s0 at *
    simp only[go_sem,seval,Try.results39]
    repeat' first|assumption|(simp (disch:=first|assumption|omega|(simp;done)|(simp;omega)) only[qab,qad,List.take_of_length_le,qac,qah,qai,qak,qaa];try simp only[go_sem,seval,Try.results39])|(with_reducible refine And.intro ?_ ?_)|(with_reducible intro _)|(refine @Exists.intro I _ (I.d D.nil) ?_;simp only[go_sem,seval,Try.results39])|((with_reducible (show Region.lexB _ _=true));kernel_rfl)|((try rw[qae]);omega)
    refine qaw (E:=Try.env 0) Try.tok (σ:=Nat) (fun j=>[(3,.ptr 1 0),(5,.sl 2 (fs.length+j) 2 0 (fs.length+j)),(6,.d (dFrs fs)),(7,.ptr 5 0),(10,.d (dI j))])
     (fun j=>[.dead 0,.box [.d (dTcs b.tiles),.d (dQs b.pads)],.row (fs.length+j) 2 true ((s0++qbf t0 a.pads fs j).map fun x=>dK x),.row 0 4 true ((qax t0 (fs.take j)).map fun x=>dTc x),.row 0 2 true (a.pads.map fun x=>dQ x),.box [.sl 3 0 4 0 a.tiles.length,.sl 4 0 2 0 a.pads.length]])
     (fun j=>j≤fs.length) (fun j=>fs.length-j) [] [] 1000 1000 ?_ ?_
    ·simp only[go_sem,seval]
     exact⟨0,by omega,by simp[qax,qbf]⟩
    ·intro j hj
     have hbl2:=qaI (fs.take j) t0
     by_cases hjt:j<fs.length
     ·have hsn:=qcL t0 fs hjt
      have hfd:=hfo _ (qao hjt:fs.getD j (0,tc0)∈fs)
      have f1:=(qcl.1 hfd).1
      obtain⟨s1,s2⟩:=qgf hfd
      have hct:=Try.c_l23Tile (fs.getD j (0,tc0)).2 (by omega) (by omega)
      have hok:=qcN (a:=⟨t0,a.pads⟩) hok0 (qbO (n:=j+1) hfo)
      have hst:(((qax t0 (fs.take j)).map fun x=>dTc x).set (fs.getD j (0,tc0)).1.toNat (dTc (fs.getD j (0,tc0)).2))=(qax t0 (fs.take (j+1))).map fun x=>dTc x:=by rw[hsn,List.map_set]
      generalize hd9:fs.getD j (0,tc0)=d at *
      have hql:(s0++qbf t0 a.pads fs j).length=fs.length+j:=by simp[hl0,qbz]
      have hqs:s0++qbf t0 a.pads fs (j+1)=(s0++qbf t0 a.pads fs j) ++ [⟨qax t0 (fs.take (j+1)),a.pads⟩]:=by rw[qdq,List.append_assoc]
      generalize s0++qbf t0 a.pads fs j=q at *
      simp only[go_sem,seval,Try.results39]
      repeat' first|assumption|(simp (disch:=first|assumption|omega|(simp;done)|(simp;omega)) only[qab,qad,List.take_of_length_le,qac,qah,qai,qak,qaa];try simp only[go_sem,seval,Try.results39,hd9])|(with_reducible refine And.intro ?_ ?_)|(with_reducible intro _)|(refine @Exists.intro I _ (I.d D.nil) ?_;simp only[go_sem,seval,Try.results39,hd9])|((with_reducible (show Region.lexB _ _=true));kernel_rfl)|((try rw[qae]);omega)
      refine qit (E:=Try.env 0) Try.tok Try.follows 1000 1000 [14] (.fst 0 (.fst 2 (.fst 3 (.fst 4 (.fst 5 (.fst 7 (.fst 8 (.fst 9 (.fst 10 (.fst 1 (.fst 6 (.fst 11 (.one 12 (.fst 13 (.one 14 (.done)))))))))))))))) (by kernel_rfl) ?_
      simp only[go_sem,seval,Try.results39,hd9]
      repeat' first|assumption|(simp (disch:=first|assumption|omega|(simp;done)|(simp;omega)) only[qab,qad,List.take_of_length_le,qac,qah,qai,qak,qaa];try simp only[go_sem,seval,Try.results39,hd9])|(with_reducible refine And.intro ?_ ?_)|(with_reducible intro _)|(refine qaM hct ?_;simp only[go_sem,seval,Try.results39,hd9])|(refine @Exists.intro I _ (I.d D.nil) ?_;simp only[go_sem,seval,Try.results39,hd9])|((with_reducible (show Region.lexB _ _=true));kernel_rfl)|((try rw[qae]);omega)
      rw[hst]
      refine qaM (Try.c_l23Copy ⟨qax t0 (fs.take (j+1)),a.pads⟩ (Kcfg.ok_small hok)) ?_
      simp only[go_sem,seval,Try.results39]
      repeat' first|assumption|(simp (disch:=first|assumption|omega|(simp;done)|(simp;omega)) only[qab,qad,List.take_of_length_le,qac,qah,qai,qak,qaa];try simp only[go_sem,seval,Try.results39])|(with_reducible refine And.intro ?_ ?_)|(with_reducible intro _)|(refine @Exists.intro I _ (I.d D.nil) ?_;simp only[go_sem,seval,Try.results39])|((with_reducible (show Region.lexB _ _=true));kernel_rfl)|((try rw[qae]);omega)
      refine⟨j+1,by omega,by omega,?_⟩
      repeat' apply And.intro
      all_goals first|rfl|omega|(rw[hqs,List.map_append];rfl)
     ·obtain rfl:j=fs.length:=by omega
      have hok:(⟨qax t0 fs,a.pads⟩:Kcfg).ok:=qcN (a:=⟨t0,a.pads⟩) hok0 hfo
      have hbl3:=qaI fs t0
      have tk:List.take a.tiles.length ((qax t0 fs).map fun x=>dTc x)=(qax t0 fs).map fun x=>dTc x:=List.take_of_length_le (by simp;omega)
      have hl1:=qbz t0 a.pads fs fs.length
      have hlb:b.pads.length=3:=h.2.2.1.1
      by_cases hfs:fs=[]
      ·subst hfs
       simp only[List.length_nil,Nat.add_zero,if_true] at *
       have es0:s0=[]:=by rw[←hs0];rfl
       have et0:t0=a.tiles:=by rw[←ht0];rfl
       subst es0
       rw[et0,show([]:List Kcfg)++qbf a.tiles a.pads [] 0=[] from rfl]
       simp only[go_sem,seval,Try.results39]
       repeat' first|assumption|(simp (disch:=first|assumption|omega|(simp;done)|(simp;omega)) only[qab,qad,List.take_of_length_le,qac,qah,qai,qak,qaa];try simp only[go_sem,seval,Try.results39,tk])|(with_reducible refine And.intro ?_ ?_)|(with_reducible intro _)|(refine @Exists.intro I _ (I.d D.nil) ?_;simp only[go_sem,seval,Try.results39,tk])|((with_reducible (show Region.lexB _ _=true));kernel_rfl)|((try rw[qae]);omega)
       all_goals (try rw[show List.take a.tiles.length (List.map (fun x=>dTc x) (qax a.tiles []))=a.tiles.map fun x=>dTc x from List.take_of_length_le (by simp[qax])])
       all_goals first|rfl|exact Nat.one_pos
      ·rw[if_neg hfs]
       have hpos:0<fs.length:=List.length_pos_iff.2 hfs
       simp only[go_sem,seval,Try.results39]
       repeat' first|assumption|(simp (disch:=first|assumption|omega|(simp;done)|(simp;omega)) only[qab,qad,List.take_of_length_le,qac,qah,qai,qak,qaa];try simp only[go_sem,seval,Try.results39,tk])|(with_reducible refine And.intro ?_ ?_)|(with_reducible intro _)|(refine @Exists.intro I _ (I.d D.nil) ?_;simp only[go_sem,seval,Try.results39,tk])|((with_reducible (show Region.lexB _ _=true));kernel_rfl)|((try rw[qae]);omega)
       have hls:=qdR a fs
       have hst2:s0++qbf t0 a.pads fs fs.length=steps a fs:=by rw[steps,←hs0,←ht0]
       have hlast:(steps a fs).getD ((steps a fs).length-1) k0=⟨qax t0 fs,a.pads⟩:=by
        obtain⟨m,hm⟩ : ∃ m,fs.length=m+1:=⟨fs.length-1,by omega⟩
        have:fs.take (m+1)=fs:=List.take_of_length_le (by omega)
        rw[←hst2,hm,qdq,←List.append_assoc,this]
        simp[List.getD]
       rw[hst2,show((fs.length+fs.length:Nat)-1:Int).toNat=(steps a fs).length-1 by omega,qcC,List.map_set,hlast]
 ·rw[if_neg h]
  refine qdj (E:=Try.env 0) Try.tok rfl 1000 Try.func39 rfl rfl Try.ntmps39 (by simp) fun ok=>?_
  simp only[go_sem,seval] at ok
  simp only[go_sem,seval,Try.results39]
  repeat' first|assumption|(simp (disch:=first|assumption|omega|(simp;done)|(simp;omega)) only[qab,qad,List.take_of_length_le,qac,qah,qai,qak,qaa];try simp only[go_sem,seval,Try.results39])|(with_reducible refine And.intro ?_ ?_)|(with_reducible intro _)|(refine qaj ha ?_;simp only[go_sem,seval,Try.results39])|(refine qaC (fun _=>hb) ?_;simp only[go_sem,seval,Try.results39])|(refine @Exists.intro I _ (I.d D.nil) ?_;simp only[go_sem,seval,Try.results39])|((with_reducible (show Region.lexB _ _=true));kernel_rfl)|((try rw[qae]);omega)
  rename_i h1
  exact absurd h1 h
end Go.Proofs

/- Contracts: the cells of a circuit. Conditions: none; lemmas. -/
import Derived.Test.YteikeianenfhaaaGreatC99
import Derived.Test.YteikeianenfhaaaGreatC72
set_option maxRecDepth 20000
set_option linter.unusedVariables false
set_option linter.unusedSimpArgs false
namespace Go.Proofs
open Go Go.VL
theorem Tryz.c_Cells (c:Circ) (hc:c.Valid):PureF Tryz.prog 40 [dC c] (dCes (qak c)):=by
 have hmp:=Tryz.c_MapLuts c hc;have hcv:=Tryz.c_CircuitValid c;have hln:=hc.ln;have hll:=qiz hc;have hlg:=hc.lg;have hlk:=qcX hc;have hi0:=hc.i0;have hi1:=hc.i1;refine PureF.res ?_ (qm3 c);refine qcG (E:=Tryz.env 0) Tryz.tok rfl 1000 Tryz.func40 rfl rfl Tryz.ntmps40 (by simp) fun ok=>?_
 simp only[go_sem,seval] at ok;simp only[go_sem,seval]
 repeat' first|assumption|(simp (disch:=first|assumption|omega|(simp;done)|(simp;omega)) only[qaa,qac,yaa,qab,qae,qaf,qah,qai];try simp only[go_sem,seval])|(with_reducible first|refine And.intro ?_ ?_|intro _)|(refine qaj hcv ?_;simp only[go_sem,seval])|((try rw[qad]);omega)
 ·rename_i h9;exact absurd hc h9
 refine qap (E:=Tryz.env 0) Tryz.tok (σ:=Nat) (fun i=>[(0,.d (dC c)),(1,.ptr 0 0),(3,.sl 1 i 4 0 i),(13,.d (dIs c.next)),(14,.d (dI c.next.length)),(15,.d (dI i))]) (fun i=>[.box [.d (dI c.inputs),.d (dIs c.next),.d (dPs c.gates),.d (dIs c.outs)],.row i 4 true ((List.range i).map (dLat c))]) (fun i=>i<=c.next.length) (fun i=>c.next.length-i) [] [(3,4,true)] 1000 1000 ?_ ?_
 ·simp only[go_sem,seval];exact⟨0,by omega,by simp⟩
 ·intro i hi;have hrl:((List.range i).map (dLat c)).length=i:=by simp
  have hrs:(List.range (i+1)).map (dLat c)=(List.range i).map (dLat c) ++ [dLat c i]:=by rw[yaT,yaC];rfl
  by_cases hlt:i<c.next.length
  ·have hno:=hc.n _ (qal hlt:c.next.getD i 0∈c.next);unfold qa4 at hno;have hld:dLat c i=if(c.next.getD i 0)/2 > 0 then dCe (qaP c i) else .agg [dI (c.inputs+1+(i:Int)),.nil,dI ((c.next.getD i 0)%2),dB true]:=rfl;have hlc:qaP c i=if(c.next.getD i 0)/2 > 0 then⟨c.inputs+1+i,[(c.next.getD i 0)/2],2-(c.next.getD i 0)%2,true⟩ else⟨c.inputs+1+i,[],(c.next.getD i 0)%2,true⟩:=rfl;generalize (List.range i).map (dLat c)=q at *
   generalize hl9:c.next.getD i 0=l at *
   have hr:=qab (y:=2) hno.1;have e2:((l.toNat &&& 1:Nat):Int)=l%2:=by rw[Nat.and_one_is_mod];omega
   have e3:1+c.inputs+(i:Int)=c.inputs+1+(i:Int):=by omega
   simp only[go_sem,seval,hl9,e2]
   repeat' first|assumption|(simp (disch:=first|assumption|omega|(simp;done)|(simp;omega)) only[qaa,qac,yaa,qab,qae,qaf,qah,qai];try simp only[go_sem,seval,hr,hrl,hl9,e2])|(with_reducible first|refine And.intro ?_ ?_|intro _)|((try rw[qad]);omega)
   ·rename_i h9;refine⟨i+1,by omega,by omega,rfl,rfl,?_⟩;rw[hrs,hld,if_pos (by omega),hlc,if_pos (by omega),e3];rfl
   ·rename_i h9;refine⟨i+1,by omega,by omega,rfl,rfl,?_⟩;rw[hrs,hld,if_neg (by omega),e3]
  ·obtain rfl:i=c.next.length:=by omega
   simp only[go_sem,seval]
   repeat' first|assumption|(simp (disch:=first|assumption|omega|(simp;done)|(simp;omega)) only[qaa,qac,yaa,qab,qae,qaf,qah,qai];try simp only[go_sem,seval])|(with_reducible first|refine And.intro ?_ ?_|intro _)|(refine qbK hmp ?_;simp only[go_sem,seval])|((try rw[qad]);omega)
   generalize (List.range c.next.length).map (dLat c)=q at *
   have hlv : ∀ l∈qdq c,l.leaves.length<=3:=fun l hl=>by
    obtain⟨m,hm,rfl⟩:=hlk.each l hl;exact(qcI hc hm).2.1
   generalize qdq c=luts at *
   refine qq3 1 rfl rfl ?_;simp only[go_sem,seval];refine qap (E:=Tryz.env 0) Tryz.tok (σ:=Nat) (fun i=>[(3,.sl 1 (c.next.length+i) 4 0 (c.next.length+i)),(44,.d (dLus luts)),(45,.d (dI luts.length)),(46,.d (dI i))]) (fun i=>[.dead 0,.row (c.next.length+i) 4 false (q++(luts.take i).map fun l=>dCe (qa7 l))]) (fun i=>i<=luts.length) (fun i=>luts.length-i) [] [] 1000 1000 ?_ ?_
   ·simp only[go_sem,seval];exact⟨0,by omega,by simp⟩
   ·intro i hi;by_cases hlt:i<luts.length
    ·have hlv2:=hlv _ (qal hlt:luts.getD i lu0∈luts);have hts:(luts.take (i+1)).map (fun l=>dCe (qa7 l))=(luts.take i).map (fun l=>dCe (qa7 l)) ++ [dCe (qa7 (luts.getD i lu0))]:=qaV lu0 hlt;have hql:(q++(luts.take i).map fun l=>dCe (qa7 l)).length=c.next.length+i:=by simp[hrl];omega
     have hqa:q++(luts.take (i+1)).map (fun l=>dCe (qa7 l))=(q++(luts.take i).map fun l=>dCe (qa7 l)) ++ [dCe (qa7 (luts.getD i lu0))]:=by rw[hts,yaq]
     generalize hd9:luts.getD i lu0=x at *
     generalize (q++(luts.take i).map fun l=>dCe (qa7 l))=q2 at *
     simp only[go_sem,seval,hd9,hql]
     repeat' first|assumption|(simp (disch:=first|assumption|omega|(simp;done)|(simp;omega)) only[qaa,qac,yaa,qab,qae,qaf,qah,qai];try simp only[go_sem,seval,hd9,hql])|(with_reducible first|refine And.intro ?_ ?_|intro _)|((try rw[qad]);omega)
     refine⟨i+1,by omega,by omega,⟨by omega,rfl⟩,by omega,?_⟩;rw[hqa];rfl
    ·simp only[go_sem,seval]
     repeat' first|assumption|(simp (disch:=first|assumption|omega|(simp;done)|(simp;omega)) only[qaa,qac,yaa,qab,qae,qaf,qah,qai];try simp only[go_sem,seval])|(with_reducible first|refine And.intro ?_ ?_|intro _)|((try rw[qad]);omega)
theorem Tryz.c_IndexJ (l:List Int) (x:Int) (hl:l.length<=1000):PureE Tryz.prog 223 [dIs l,dI x] (fun y=>∃ n:Int,y=dI n/\(0<=n↔x∈l)):=by
 refine qf8 (E:=Tryz.env 0) Tryz.tok rfl 1000 Tryz.func223 rfl rfl Tryz.ntmps223 (by simp) fun ok=>?_
 simp only[go_sem,seval] at ok;simp only[go_sem,seval]
 repeat' first|assumption|(simp (disch:=first|assumption|omega|(simp;done)|(simp;omega)) only[qaa,qac,yaa,qab,qae,qaf,qah,qai];try simp only[go_sem,seval])|(with_reducible first|refine And.intro ?_ ?_|intro _)|((try rw[qad]);omega)
 refine qaF (E:=Tryz.env 0) Tryz.tok (σ:=Nat) (fun i=>[(8,.d (dI i)),(7,.d (dI l.length)),(6,.d (dIs l)),(0,.d (dIs l)),(1,.d (dI x))]) (fun _=>[])
  (fun i=>i<=l.length/\x∉l.take i) (fun i=>l.length-i) [] 1000 1000 ?_ ?_ ?_
 ·simp only[go_sem,seval]
 ·simp only[go_sem,seval];exact⟨0,⟨by omega,by simp⟩,rfl⟩
 ·rintro i ⟨hi,hinv⟩;by_cases hlt:i<l.length
  ·have hts:l.take (i+1)=l.take i ++ [l.getD i 0]:=by simpa using qaV (f:=fun x:Int=>x) 0 hlt
   have hmm:=qal hlt (z:=(0:Int));generalize hz9:l.getD i 0=z at *
   simp only[go_sem,seval,hz9]
   repeat' first|assumption|(simp (disch:=first|assumption|omega|(simp;done)|(simp;omega)) only[qaa,qac,yaa,qab,qae,qaf,qah,qai];try simp only[go_sem,seval,hz9])|(with_reducible first|refine And.intro ?_ ?_|intro _)|((try rw[qad]);omega)
   ·rename_i h1;exact⟨_,rfl,_,rfl,by rw[h1];exact⟨fun _=>hmm,fun _=>by omega⟩⟩
   ·rename_i h1;refine⟨i+1,⟨by omega,?_⟩,by omega,rfl⟩;rw[hts,yas,yaA];rintro(h2|h2)
    ·exact hinv h2
    ·exact h1 h2
  ·obtain rfl:i=l.length:=by omega
   rw[yav] at hinv;simp only[go_sem,seval]
   repeat' first|assumption|(simp (disch:=first|assumption|omega|(simp;done)|(simp;omega)) only[qaa,qac,yaa,qab,qae,qaf,qah,qai];try simp only[go_sem,seval])|(with_reducible first|refine And.intro ?_ ?_|intro _)|((try rw[qad]);omega)
   exact⟨_,rfl,_,rfl,⟨fun h=>absurd h (by decide),fun h=>absurd h hinv⟩⟩
theorem Tryz.c_ContainsJ (l:List Int) (x:Int) (hl:l.length<=1000):Pure Tryz.prog 210 [dIs l,dI x] (.bool (decide (x∈l))):=by
 refine qas (E:=Tryz.env 0) Tryz.tok rfl 1000 Tryz.func210 rfl rfl Tryz.ntmps210 (by simp) fun ok=>?_
 simp only[go_sem,seval] at ok;simp only[go_sem,seval];refine qf4 (Tryz.c_IndexJ l x hl) ?_;rintro y ⟨n,rfl,hn⟩;simp only[go_sem,seval]
 repeat' first|assumption|(simp (disch:=first|assumption|omega|(simp;done)|(simp;omega)) only[qaa,qac,yaa,qab,qae,qaf,qah,qai];try simp only[go_sem,seval])|(with_reducible first|refine And.intro ?_ ?_|intro _)|((try rw[qad]);omega)
 exact decide_eq_decide.2 hn
end Go.Proofs

/- Contracts: equal configurations. Conditions: none; lemmas. -/
import Derived.Test.YtbnocdngcmimaaaC53
set_option maxRecDepth 20000
set_option linter.unusedVariables false
set_option linter.unusedSimpArgs false
namespace Go.Proofs
open Go Go.VL
theorem Try.c_lSameTile (a b:Tcfg):Pure Try.prog 56 [dTc a,dTc b] (.bool (decide (a=b))):=by
 refine qap (E:=Try.env 0) Try.tok rfl 1000 Try.func56 rfl rfl Try.ntmps56 (by simp) fun ok=>?_
 simp only[go_sem,seval] at ok
 simp only[go_sem,seval,Try.results56]
 obtain⟨t,s,r,d⟩:=a
 obtain⟨t',s',r',d'⟩:=b
 repeat' first|assumption|(simp (disch:=first|assumption|omega|(simp;done)|(simp;omega)) only[qab,qad,List.take_of_length_le,qac,qaf,qag,qah,qai,qaa];try simp only[go_sem,seval,Try.results56])|(with_reducible refine And.intro ?_ ?_)|(with_reducible intro _)|(refine qaC (fun _=>Try.c_sameInts _ _) ?_;simp only[go_sem,seval,Try.results56])|(refine @Exists.intro I _ (I.d D.nil) ?_;simp only[go_sem,seval,Try.results56])|((with_reducible (show Region.lexB _ _=true));kernel_rfl)|((try rw[qae]);omega)
 simp only[Tcfg.mk.injEq]
 by_cases h1:t=t' <;> by_cases h2:s=s' <;> by_cases h3:r=r' <;> by_cases h4:d=d' <;> simp[h1,h2,h3,h4]
theorem Try.c_sameConfig (a b:Kcfg):Pure Try.prog 53 [dK a,dK b] (.bool (decide (a=b))):=by
 refine qap (E:=Try.env 0) Try.tok rfl 1000 Try.func53 rfl rfl Try.ntmps53 (by simp) fun ok=>?_
 simp only[go_sem,seval] at ok
 simp only[go_sem,seval,Try.results53]
 repeat' first|assumption|(simp (disch:=first|assumption|omega|(simp;done)|(simp;omega)) only[qab,qad,List.take_of_length_le,qac,qaf,qag,qah,qai,qaa];try simp only[go_sem,seval,Try.results53])|(with_reducible refine And.intro ?_ ?_)|(with_reducible intro _)|(refine @Exists.intro I _ (I.d D.nil) ?_;simp only[go_sem,seval,Try.results53])|((with_reducible (show Region.lexB _ _=true));kernel_rfl)|((try rw[qae]);omega)
 ·rename_i h1
  exact(decide_eq_false fun e=>by subst e;simp at h1).symm
 ·have hl:a.tiles.length=b.tiles.length∧a.pads.length=b.pads.length:=by simp_all
  refine qaB (E:=Try.env 0) Try.tok (σ:=Nat) (fun i=>[(2,.ptr 0 0),(3,.ptr 1 0),(5,.d (dI i))]) (fun _=>[.box [.d (dTcs a.tiles),.d (dQs a.pads)],.box [.d (dTcs b.tiles),.d (dQs b.pads)]])
   (fun i=>i≤a.tiles.length∧∀ k,k<i→a.tiles.getD k tc0=b.tiles.getD k tc0) (fun i=>a.tiles.length-i) [] 1000 1000 ?_ ?_ ?_
  ·simp only[go_sem,seval]
  ·simp only[go_sem,seval]
   exact⟨0,⟨by omega,fun k hk=>by omega⟩,rfl⟩
  ·rintro i ⟨hi,hk⟩
   by_cases hlt:i<a.tiles.length
   ·have hlb:i<b.tiles.length:=by omega
    have gx:=qah (z:=D.agg [D.int .i64 0,.nil,.bool false,.nil]) hlt
    have gy:=qah (z:=D.agg [D.int .i64 0,.nil,.bool false,.nil]) hlb
    generalize hx9:a.tiles.getD i tc0=x at *
    generalize hy9:b.tiles.getD i tc0=y at *
    obtain⟨x1,x2,x3,x4⟩:=x
    obtain⟨y1,y2,y3,y4⟩:=y
    simp only[go_sem,seval,Try.results53,gx,gy]
    repeat' first|assumption|(simp (disch:=first|assumption|omega|(simp;done)|(simp;omega)) only[qab,qad,List.take_of_length_le,qac,qaf,qag,qah,qai,qaa];try simp only[go_sem,seval,Try.results53,gx,gy])|(with_reducible refine And.intro ?_ ?_)|(with_reducible intro _)|(refine qaC (fun _=>Try.c_sameInts _ _) ?_;simp only[go_sem,seval,Try.results53,gx,gy])|(refine @Exists.intro I _ (I.d D.nil) ?_;simp only[go_sem,seval,Try.results53,gx,gy])|((with_reducible (show Region.lexB _ _=true));kernel_rfl)|((try rw[qae]);omega)
    ·rename_i h1
     refine(decide_eq_false fun e=>?_).symm
     subst e
     rw[hx9] at hy9
     cases hy9
     simp at h1
    ·rename_i h1
     refine⟨i+1,⟨by omega,fun k hk2=>?_⟩,by omega,rfl⟩
     by_cases hki:k=i
     ·subst hki
      rw[hx9,hy9]
      simp_all
     ·exact hk k (by omega)
   ·obtain rfl:i=a.tiles.length:=by omega
    have ht:a.tiles=b.tiles:=by
     refine List.ext_getElem hl.1 fun k h1 h2=>?_
     have:=hk k h1
     simpa [List.getD,h1,h2] using this
    simp only[go_sem,seval,Try.results53]
    repeat' first|assumption|(simp (disch:=first|assumption|omega|(simp;done)|(simp;omega)) only[qab,qad,List.take_of_length_le,qac,qaf,qag,qah,qai,qaa];try simp only[go_sem,seval,Try.results53])|(with_reducible refine And.intro ?_ ?_)|(with_reducible intro _)|(refine @Exists.intro I _ (I.d D.nil) ?_;simp only[go_sem,seval,Try.results53])|((with_reducible (show Region.lexB _ _=true));kernel_rfl)|((try rw[qae]);omega)
    refine qaB (E:=Try.env 0) Try.tok (σ:=Nat) (fun i=>[(2,.ptr 0 0),(3,.ptr 1 0),(8,.d (dI i))]) (fun _=>[.box [.d (dTcs a.tiles),.d (dQs a.pads)],.box [.d (dTcs b.tiles),.d (dQs b.pads)]])
     (fun i=>i≤a.pads.length∧∀ k,k<i→a.pads.getD k (0,false)=b.pads.getD k (0,false)) (fun i=>a.pads.length-i) [] 1000 1000 ?_ ?_ ?_
    ·simp only[go_sem,seval]
    ·simp only[go_sem,seval]
     exact⟨0,⟨by omega,fun k hk=>by omega⟩,rfl⟩
    ·rintro i ⟨hi,hk⟩
     by_cases hlt:i<a.pads.length
     ·have hlb:i<b.pads.length:=by omega
      have gx:=qai (z:=D.agg [D.int .i64 0,.bool false]) hlt
      have gy:=qai (z:=D.agg [D.int .i64 0,.bool false]) hlb
      generalize hx9:a.pads.getD i (0,false)=x at *
      generalize hy9:b.pads.getD i (0,false)=y at *
      obtain⟨x1,x2⟩:=x
      obtain⟨y1,y2⟩:=y
      simp only[go_sem,seval,Try.results53,gx,gy]
      repeat' first|assumption|(simp (disch:=first|assumption|omega|(simp;done)|(simp;omega)) only[qab,qad,List.take_of_length_le,qac,qaf,qag,qah,qai,qaa];try simp only[go_sem,seval,Try.results53,gx,gy])|(with_reducible refine And.intro ?_ ?_)|(with_reducible intro _)|(refine @Exists.intro I _ (I.d D.nil) ?_;simp only[go_sem,seval,Try.results53,gx,gy])|((with_reducible (show Region.lexB _ _=true));kernel_rfl)|((try rw[qae]);omega)
      ·rename_i h1
       refine(decide_eq_false fun e=>?_).symm
       subst e
       rw[hx9] at hy9
       cases hy9
       simp at h1
      ·rename_i h1
       refine⟨i+1,⟨by omega,fun k hk2=>?_⟩,by omega,rfl⟩
       by_cases hki:k=i
       ·subst hki
        rw[hx9,hy9]
        simp_all
        exact of_decide_eq_true h1.1
       ·exact hk k (by omega)
     ·obtain rfl:i=a.pads.length:=by omega
      have hp:a.pads=b.pads:=by
       refine List.ext_getElem hl.2 fun k h1 h2=>?_
       have:=hk k h1
       simpa [List.getD,h1,h2] using this
      simp only[go_sem,seval,Try.results53]
      repeat' first|assumption|(simp (disch:=first|assumption|omega|(simp;done)|(simp;omega)) only[qab,qad,List.take_of_length_le,qac,qaf,qag,qah,qai,qaa];try simp only[go_sem,seval,Try.results53])|(with_reducible refine And.intro ?_ ?_)|(with_reducible intro _)|(refine @Exists.intro I _ (I.d D.nil) ?_;simp only[go_sem,seval,Try.results53])|((with_reducible (show Region.lexB _ _=true));kernel_rfl)|((try rw[qae]);omega)
      exact(decide_eq_true (by cases a;cases b;simp_all)).symm
end Go.Proofs

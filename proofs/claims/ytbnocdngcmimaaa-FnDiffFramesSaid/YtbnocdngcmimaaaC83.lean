/- Contracts: the laws of frames and differences. Conditions: none; lemmas. -/
import Derived.Test.YtbnocdngcmimaaaC81
import Derived.Test.YtbnocdngcmimaaaC82
import Derived.Test.YtbnocdngcmimaaaC84
set_option maxRecDepth 20000
set_option linter.unusedVariables false
set_option linter.unusedSimpArgs false
namespace Go.Proofs
open Go Go.VL
theorem Try.c_FnDiffFrames (code:List Int):Pure Try.prog 11 [dUs code] (.bool true):=by
 refine qap (E:=Try.env 0) Try.tok rfl 1000 Try.func11 rfl rfl Try.ntmps11 (by simp) fun ok=>?_
 simp only[go_sem,seval] at ok
 simp only[go_sem,seval,Try.results11]
 refine fun h0=>qcx (Try.c_DrawDiffFrames code) ?_
 rintro x ⟨a,b,rfl,ha,hb⟩
 have hd:=Try.c_DiffFrames a b
 have hs:=Try.c_sDiffFrames a b
 have hca:=Try.c_sConfigValid a
 have hcb:=Try.c_sConfigValid b
 have hal:=Try.c_alive
 have hnn : ¬ (a.ok∧b.ok)→qbL a b=[]:=fun h=>if_neg h
 have hyy:a.ok∧b.ok→qbL a b=qaP a b 25:=fun h=>if_pos h
 have hap:=Try.c_ApplyFrames a (qbL a b) b.pads
 have hsc:=Try.c_sameConfig (qeF a (qbL a b) b.pads) b
 have haf:a.ok→b.ok→qeF a (qbL a b) b.pads=b:=fun h h2=>qk2 h h2
 have hLn:=qkY a b
 generalize hL:qbL a b=L at *
 simp only[go_sem,seval,Try.results11]
 repeat' first|assumption|(simp (disch:=first|assumption|omega|(simp;done)|(simp;omega)) only[qab,qad,List.take_of_length_le,qac,qaf,qag,qah,qai,qak,qaa];try simp only[go_sem,seval,Try.results11])|(with_reducible refine And.intro ?_ ?_)|(with_reducible intro _)|(refine qaj hd ?_;simp only[go_sem,seval,Try.results11])|(refine @Exists.intro I _ (I.d D.nil) ?_;simp only[go_sem,seval,Try.results11])|((with_reducible (show Region.lexB _ _=true));kernel_rfl)|((try rw[qae]);omega)
 refine qci hs ?_
 simp only[go_sem,seval,Try.results11]
 repeat' first|assumption|(simp (disch:=first|assumption|omega|(simp;done)|(simp;omega)) only[qab,qad,List.take_of_length_le,qac,qaf,qag,qah,qai,qak,qaa];try simp only[go_sem,seval,Try.results11])|(with_reducible refine And.intro ?_ ?_)|(with_reducible intro _)|(refine @Exists.intro I _ (I.d D.nil) ?_;simp only[go_sem,seval,Try.results11])|((with_reducible (show Region.lexB _ _=true));kernel_rfl)|((try rw[qae]);omega)
 refine qaB (E:=Try.env 0) Try.tok (σ:=Nat) (fun i=>[(3,.ptr 0 0),(4,.ptr 1 0),(5,.d (dFrs L)),(6,.d (dFrs L)),(7,.d (dI i))]) (fun _=>[.box [.d (dTcs a.tiles),.d (dQs a.pads)],.box [.d (dTcs b.tiles),.d (dQs b.pads)]])
  (fun i=>i≤L.length) (fun i=>L.length-i) [] 1000 1000 ?_ ?_ ?_
 ·simp only[go_sem,seval]
 ·simp only[go_sem,seval]
  exact⟨0,by omega,rfl⟩
 ·intro i hi
  by_cases hlt:i<L.length
  ·have gx:=qak (z:=D.agg [D.int .i64 0,D.int .i64 0,.nil,.bool false,.nil]) hlt
   have hst:=Try.c_lSameTile (L.getD i (0,tc0)).2 (L.getD i (0,tc0)).2
   generalize L.getD i (0,tc0)=f at *
   obtain⟨f1,f2,f3,f4,f5⟩:=f
   simp only[go_sem,seval,Try.results11,gx]
   repeat' first|assumption|(simp (disch:=first|assumption|omega|(simp;done)|(simp;omega)) only[qab,qad,List.take_of_length_le,qac,qaf,qag,qah,qai,qak,qaa];try simp only[go_sem,seval,Try.results11,gx])|(with_reducible refine And.intro ?_ ?_)|(with_reducible intro _)|(refine qa7 (fun _=>⟨hst,trivial⟩) ?_;simp only[go_sem,seval,Try.results11,gx])|(refine @Exists.intro I _ (I.d D.nil) ?_;simp only[go_sem,seval,Try.results11,gx])|((with_reducible (show Region.lexB _ _=true));kernel_rfl)|((try rw[qae]);omega)
   all_goals first|exact⟨i+1,by omega,by omega,rfl⟩|(rw[qae];omega)
  ·obtain rfl:i=L.length:=by omega
   simp only[go_sem,seval,Try.results11]
   repeat' first|assumption|(simp (disch:=first|assumption|omega|(simp;done)|(simp;omega)) only[qab,qad,List.take_of_length_le,qac,qaf,qag,qah,qai,qak,qaa];try simp only[go_sem,seval,Try.results11])|(with_reducible refine And.intro ?_ ?_)|(with_reducible intro _)|(refine qaj hca ?_;simp only[go_sem,seval,Try.results11])|(refine qaC (fun _=>hcb) ?_;simp only[go_sem,seval,Try.results11])|(refine qaC (fun _=>hal) ?_;simp only[go_sem,seval,Try.results11])|(refine @Exists.intro I _ (I.d D.nil) ?_;simp only[go_sem,seval,Try.results11])|((with_reducible (show Region.lexB _ _=true));kernel_rfl)|((try rw[qae]);omega)
   ·rename_i h9
    have h10:L=[]:=hnn (by rintro⟨h1,h2⟩;simp[h1,h2] at h9)
    simp[h10]
   rename_i h9
   have hA:a.ok:=by simp_all
   have hB:b.ok:=by simp_all
   have hLd:=hyy ⟨hA,hB⟩
   have hla:a.tiles.length=25:=hA.1
   have hlb:b.tiles.length=25:=hB.1
   rw[haf hA hB] at hap hsc
   refine qaB (E:=Try.env 0) Try.tok (σ:=Nat) (fun i=>[(3,.ptr 0 0),(4,.ptr 1 0),(5,.d (dFrs L)),(8,.d (dI (qaP a b i).length)),(9,.d (dI i))]) (fun _=>[.box [.d (dTcs a.tiles),.d (dQs a.pads)],.box [.d (dTcs b.tiles),.d (dQs b.pads)]])
    (fun i=>i≤25) (fun i=>25-i) [] 1000 1000 ?_ ?_ ?_
   ·simp only[go_sem,seval]
   ·simp only[go_sem,seval]
    exact⟨0,by omega,by simp[qaP]⟩
   ·intro i hi
    have hdl:=qdp a b i
    by_cases hlt:i<25
    ·have gx:=qah (z:=D.agg [D.int .i64 0,.nil,.bool false,.nil]) (show i<a.tiles.length by omega)
     have gy:=qah (z:=D.agg [D.int .i64 0,.nil,.bool false,.nil]) (show i<b.tiles.length by omega)
     have hst:=Try.c_lSameTile (a.tiles.getD i tc0) (b.tiles.getD i tc0)
     by_cases hxy:a.tiles.getD i tc0=b.tiles.getD i tc0
     ·have h3:=qpJ hxy
      rw[decide_eq_true hxy] at hst
      generalize a.tiles.getD i tc0=x at *
      generalize b.tiles.getD i tc0=y at *
      obtain⟨x1,x2,x3,x4⟩:=x
      obtain⟨y1,y2,y3,y4⟩:=y
      simp only[go_sem,seval,Try.results11,gx,gy,hla,hlb]
      repeat' first|assumption|(simp (disch:=first|assumption|omega|(simp;done)|(simp;omega)) only[qab,qad,List.take_of_length_le,qac,qaf,qag,qah,qai,qak,qaa];try simp only[go_sem,seval,Try.results11,gx,gy,hla,hlb])|(with_reducible refine And.intro ?_ ?_)|(with_reducible intro _)|(refine qa7 (fun _=>⟨hst,trivial⟩) ?_;simp only[go_sem,seval,Try.results11,gx,gy,hla,hlb])|(refine @Exists.intro I _ (I.d D.nil) ?_;simp only[go_sem,seval,Try.results11,gx,gy,hla,hlb])|((with_reducible (show Region.lexB _ _=true));kernel_rfl)|((try rw[qae]);omega)
      exact⟨i+1,by omega,by omega,by rw[h3],rfl⟩
     ·obtain⟨e1,e2,e3⟩:=qjh hlt hxy
      rw[←hLd] at e2 e3
      have gz:=qak (z:=D.agg [D.int .i64 0,D.int .i64 0,.nil,.bool false,.nil]) e2
      rw[e3] at gz
      rw[decide_eq_false hxy] at hst
      generalize a.tiles.getD i tc0=x at *
      generalize b.tiles.getD i tc0=y at *
      obtain⟨x1,x2,x3,x4⟩:=x
      obtain⟨y1,y2,y3,y4⟩:=y
      simp only[go_sem,seval,Try.results11,gx,gy,gz,hla,hlb]
      repeat' first|assumption|(simp (disch:=first|assumption|omega|(simp;done)|(simp;omega)) only[qab,qad,List.take_of_length_le,qac,qaf,qag,qah,qai,qak,qaa];try simp only[go_sem,seval,Try.results11,gx,gy,gz,hla,hlb])|(with_reducible refine And.intro ?_ ?_)|(with_reducible intro _)|(refine qa7 (fun _=>⟨hst,trivial⟩) ?_;simp only[go_sem,seval,Try.results11,gx,gy,gz,hla,hlb])|(refine @Exists.intro I _ (I.d D.nil) ?_;simp only[go_sem,seval,Try.results11,gx,gy,gz,hla,hlb])|((with_reducible (show Region.lexB _ _=true));kernel_rfl)|((try rw[qae]);omega)
      exact⟨i+1,by omega,by omega,by rw[e1],rfl⟩
    ·obtain rfl:i=25:=by omega
     simp only[go_sem,seval,Try.results11]
     repeat' first|assumption|(simp (disch:=first|assumption|omega|(simp;done)|(simp;omega)) only[qab,qad,List.take_of_length_le,qac,qaf,qag,qah,qai,qak,qaa];try simp only[go_sem,seval,Try.results11,hla,hlb])|(with_reducible refine And.intro ?_ ?_)|(with_reducible intro _)|(refine @Exists.intro I _ (I.d D.nil) ?_;simp only[go_sem,seval,Try.results11,hla,hlb])|((with_reducible (show Region.lexB _ _=true));kernel_rfl)|((try rw[qae]);omega)
     refine qaz (E:=Try.env 0) Try.tok Try.follows 1000 1000 [] (.fst 0 (.fst 1 (.fst 2 (.fst 3 (.fst 4 (.fst 6 (.fst 7 (.fst 5 (.fst 8 (.fst 10 (.one 9 (.one 11 (.fst 12 (.fst 13 (.done))))))))))))))) (by kernel_rfl) ?_
     simp only[go_sem,seval,Try.results11]
     repeat' first|assumption|(simp (disch:=first|assumption|omega|(simp;done)|(simp;omega)) only[qab,qad,List.take_of_length_le,qac,qaf,qag,qah,qai,qak,qaa];try simp only[go_sem,seval,Try.results11,hla,hlb])|(with_reducible refine And.intro ?_ ?_)|(with_reducible intro _)|(refine qaC (fun _=>hap) ?_;simp only[go_sem,seval,Try.results11,hla,hlb])|(refine qaC (fun _=>hsc) ?_;simp only[go_sem,seval,Try.results11,hla,hlb])|(refine @Exists.intro I _ (I.d D.nil) ?_;simp only[go_sem,seval,Try.results11,hla,hlb])|((with_reducible (show Region.lexB _ _=true));kernel_rfl)|((try rw[qae]);omega)
     simp[hLd]
theorem Try.c_FnDefectUnused (code more:List Int):Pure Try.prog 9 [dUs code,dUs more] (.bool true):=by
 refine qap (E:=Try.env 0) Try.tok rfl 1000 Try.func9 rfl rfl Try.ntmps9 (by simp) fun ok=>?_
 simp only[go_sem,seval] at ok
 simp only[go_sem,seval,Try.results9]
 repeat' first|assumption|(simp (disch:=first|assumption|omega|(simp;done)|(simp;omega)) only[qab,qad,List.take_of_length_le,qac,qaf,qag,qah,qai,qak,qaa];try simp only[go_sem,seval,Try.results9])|(with_reducible refine And.intro ?_ ?_)|(with_reducible intro _)|(refine @Exists.intro I _ (I.d D.nil) ?_;simp only[go_sem,seval,Try.results9])|((with_reducible (show Region.lexB _ _=true));kernel_rfl)|((try rw[qae]);omega)
 refine qcx (Try.c_DrawBreak code) ?_
 rintro x ⟨k,ds,rfl,hk,hds⟩
 have hd:=Try.c_Break k ds
 have hs:=Try.c_sBreak k ds
 have hca:=Try.c_sConfigValid k
 have hcd:=Try.c_sDefectsValid ds
 have hal:=Try.c_alive
 generalize hx9:(if k.ok∧Try.defectsValid ds=true then qcr k ds else⟨[],[]⟩)=x at *
 have hsc:=Try.c_sameConfig x x
 have hsc2:=Try.c_sameConfig x k
 simp only[go_sem,seval,Try.results9]
 repeat' first|assumption|(simp (disch:=first|assumption|omega|(simp;done)|(simp;omega)) only[qab,qad,List.take_of_length_le,qac,qaf,qag,qah,qai,qak,qaa];try simp only[go_sem,seval,Try.results9])|(with_reducible refine And.intro ?_ ?_)|(with_reducible intro _)|(refine qaj hd ?_;simp only[go_sem,seval,Try.results9])|(refine @Exists.intro I _ (I.d D.nil) ?_;simp only[go_sem,seval,Try.results9])|((with_reducible (show Region.lexB _ _=true));kernel_rfl)|((try rw[qae]);omega)
 refine qaz (E:=Try.env 0) Try.tok Try.follows 1000 1000 [] (.fst 2 (.fst 0 (.fst 1 (.one 3 (.one 4 (.fst 5 (.done))))))) (by kernel_rfl) ?_
 simp only[go_sem,seval,Try.results9]
 repeat' first|assumption|(simp (disch:=first|assumption|omega|(simp;done)|(simp;omega)) only[qab,qad,List.take_of_length_le,qac,qaf,qag,qah,qai,qak,qaa];try simp only[go_sem,seval,Try.results9])|(with_reducible refine And.intro ?_ ?_)|(with_reducible intro _)|(refine qaj hd ?_;simp only[go_sem,seval,Try.results9])|(refine qaj hs ?_;simp only[go_sem,seval,Try.results9])|(refine qaj hsc ?_;simp only[go_sem,seval,Try.results9])|(refine qaj hca ?_;simp only[go_sem,seval,Try.results9])|(refine qaC (fun _=>hcd) ?_;simp only[go_sem,seval,Try.results9])|(refine qaj hal ?_;simp only[go_sem,seval,Try.results9])|(refine @Exists.intro I _ (I.d D.nil) ?_;simp only[go_sem,seval,Try.results9])|((with_reducible (show Region.lexB _ _=true));kernel_rfl)|((try rw[qae]);omega)
 rename_i h9
 have hK:k.ok:=by simp_all
 have hD:Try.defectsValid ds=true:=by simp_all
 have hla:k.tiles.length=25:=hK.1
 have hdo : ∀ j,j<ds.length→Try.defectOk (ds.getD j (0,0))=true:=by
  have h10:=hD
  simp only[Try.defectsValid,Bool.and_eq_true] at h10
  exact(qcy _ _ (0,0)).1 h10.2
 refine qaB (E:=Try.env 0) Try.tok (σ:=Nat) (fun i=>[(5,.ptr 0 0),(6,.d (dPs ds)),(7,.ptr 1 0),(8,.d (dI i))]) (fun _=>[.box [.d (dTcs k.tiles),.d (dQs k.pads)],.box [.d (dTcs x.tiles),.d (dQs x.pads)]])
  (fun i=>i≤ds.length∧∀ j,j<i→((k.tiles.getD (ds.getD j (0,0)).1.toNat tc0).drive).getD (ds.getD j (0,0)).2.toNat 0=0) (fun i=>ds.length-i) [] 1000 1000 ?_ ?_ ?_
 ·simp only[go_sem,seval]
 ·simp only[go_sem,seval]
  exact⟨0,⟨by omega,fun j hj=>by omega⟩,rfl⟩
 ·rintro i ⟨hi,hinv⟩
  by_cases hlt:i<ds.length
  ·have hdi:=Try.defectOk_iff.1 (hdo i hlt)
   have hgi : ∀ v,v=((k.tiles.getD (ds.getD i (0,0)).1.toNat tc0).drive).getD (ds.getD i (0,0)).2.toNat 0→v=0→∀ j,j<i+1→((k.tiles.getD (ds.getD j (0,0)).1.toNat tc0).drive).getD (ds.getD j (0,0)).2.toNat 0=0:=fun v hv h0 j hj=>by
    by_cases hji:j=i
    ·rw[hji,←hv,h0]
    ·exact hinv j (by omega)
   generalize hd9:ds.getD i (0,0)=d at *
   obtain⟨s1,s2⟩:=Kcfg.ok_sizes hK (i:=d.1.toNat) (by omega)
   have gx:=qah (z:=D.agg [D.int .i64 0,.nil,.bool false,.nil]) (show d.1.toNat<k.tiles.length by omega)
   generalize k.tiles.getD d.1.toNat tc0=y at *
   obtain⟨y1,y2,y3,y4⟩:=y
   simp only[go_sem,seval,Try.results9,gx,hla,hd9]
   repeat' first|assumption|(simp (disch:=first|assumption|omega|(simp;done)|(simp;omega)) only[qab,qad,List.take_of_length_le,qac,qaf,qag,qah,qai,qak,qaa];try simp only[go_sem,seval,Try.results9,gx,hla,hd9])|(with_reducible refine And.intro ?_ ?_)|(with_reducible intro _)|(refine @Exists.intro I _ (I.d D.nil) ?_;simp only[go_sem,seval,Try.results9,gx,hla,hd9])|((with_reducible (show Region.lexB _ _=true));kernel_rfl)|((try rw[qae]);omega)
   ·simp only at s2;omega
   ·rename_i h10
    exact⟨i+1,⟨by omega,hgi _ rfl h10⟩,by omega,rfl⟩
  ·obtain rfl:i=ds.length:=by omega
   have hxk:x=k:=by
    rw[←hx9,if_pos ⟨hK,hD⟩,qcr,qh3 ds k.tiles ((qfK (0,0)).2 hinv)]
   simp only[go_sem,seval,Try.results9]
   repeat' first|assumption|(simp (disch:=first|assumption|omega|(simp;done)|(simp;omega)) only[qab,qad,List.take_of_length_le,qac,qaf,qag,qah,qai,qak,qaa];try simp only[go_sem,seval,Try.results9])|(with_reducible refine And.intro ?_ ?_)|(with_reducible intro _)|(refine qaj hsc2 ?_;simp only[go_sem,seval,Try.results9])|(refine @Exists.intro I _ (I.d D.nil) ?_;simp only[go_sem,seval,Try.results9])|((with_reducible (show Region.lexB _ _=true));kernel_rfl)|((try rw[qae]);omega)
theorem Try.c_FnFrameValid (code more:List Int):Pure Try.prog 7 [dUs code,dUs more] (.bool true):=by
 refine qap (E:=Try.env 0) Try.tok rfl 1000 Try.func7 rfl rfl Try.ntmps7 (by simp) fun ok=>?_
 simp only[go_sem,seval] at ok
 simp only[go_sem,seval,Try.results7]
 repeat' first|assumption|(simp (disch:=first|assumption|omega|(simp;done)|(simp;omega)) only[qab,qad,List.take_of_length_le,qac,qaf,qag,qah,qai,qak,qaa];try simp only[go_sem,seval,Try.results7])|(with_reducible refine And.intro ?_ ?_)|(with_reducible intro _)|(refine @Exists.intro I _ (I.d D.nil) ?_;simp only[go_sem,seval,Try.results7])|((with_reducible (show Region.lexB _ _=true));kernel_rfl)|((try rw[qae]);omega)
 refine qcx (Try.c_DrawFrameValid code) ?_
 rintro x ⟨f,rfl,hf1,hf2⟩
 simp only[go_sem,seval,Try.results7]
 repeat' first|assumption|(simp (disch:=first|assumption|omega|(simp;done)|(simp;omega)) only[qab,qad,List.take_of_length_le,qac,qaf,qag,qah,qai,qak,qaa];try simp only[go_sem,seval,Try.results7])|(with_reducible refine And.intro ?_ ?_)|(with_reducible intro _)|(refine @Exists.intro I _ (I.d D.nil) ?_;simp only[go_sem,seval,Try.results7])|((with_reducible (show Region.lexB _ _=true));kernel_rfl)|((try rw[qae]);omega)
 refine qcx (Try.c_DrawEncodeConfig more) ?_
 rintro x ⟨k,rfl,hk⟩
 have hca:=Try.c_sConfigValid k
 have hal:=Try.c_alive
 have hfv:=Try.c_FrameValid f.1 f.2
 have hfs:=Try.c_sFrameValid f.1 f.2
 simp only[go_sem,seval,Try.results7]
 repeat' first|assumption|(simp (disch:=first|assumption|omega|(simp;done)|(simp;omega)) only[qab,qad,List.take_of_length_le,qac,qaf,qag,qah,qai,qak,qaa];try simp only[go_sem,seval,Try.results7])|(with_reducible refine And.intro ?_ ?_)|(with_reducible intro _)|(refine qa7 (fun _=>⟨hfv,trivial⟩) ?_;simp only[go_sem,seval,Try.results7])|(refine qa7 (fun _=>⟨hfs,trivial⟩) ?_;simp only[go_sem,seval,Try.results7])|(refine @Exists.intro I _ (I.d D.nil) ?_;simp only[go_sem,seval,Try.results7])|((with_reducible (show Region.lexB _ _=true));kernel_rfl)|((try rw[qae]);omega)
 refine qaB (E:=Try.env 0) Try.tok (σ:=Nat) (fun i=>[(5,.ptr 0 0),(6,.ptr 1 0),(7,.d (dI i))]) (fun i=>[.box [.d (dI f.1),.d (dI f.2.table),.d (dIs f.2.select),.d (dB f.2.reg),.d (dIs f.2.drive)],.box [.d (dTcs k.tiles),.d (dQs k.pads)]])
  (fun i=>i≤k.tiles.length) (fun i=>k.tiles.length-i) [] 1000 1000 ?_ ?_ ?_
 ·simp only[go_sem,seval]
 ·simp only[go_sem,seval]
  exact⟨0,by omega,rfl⟩
 ·intro i hi
  simp only[go_sem,seval,Try.results7]
  repeat' first|assumption|(simp (disch:=first|assumption|omega|(simp;done)|(simp;omega)) only[qab,qad,List.take_of_length_le,qac,qaf,qag,qah,qai,qak,qaa];try simp only[go_sem,seval,Try.results7])|(with_reducible refine And.intro ?_ ?_)|(with_reducible intro _)|(refine qaj hca ?_;simp only[go_sem,seval,Try.results7])|(refine @Exists.intro I _ (I.d D.nil) ?_;simp only[go_sem,seval,Try.results7])|((with_reducible (show Region.lexB _ _=true));kernel_rfl)|((try rw[qae]);omega)
  ·rename_i h9
   have hK:k.ok:=by simp_all
   have hlt:i<k.tiles.length:=by simp_all
   have hla:k.tiles.length=25:=hK.1
   have hto:=hK.2.2 i hlt
   have hf1:=Try.c_FrameValid (i:Int) (k.tiles.getD i tc0)
   have hf2:=Try.c_FrameValid ((i:Int)+25) (k.tiles.getD i tc0)
   rw[hto] at hf1
   rw[decide_eq_false (show ¬ (i:Int)+25≤24 by omega)] at hf2
   repeat' first|assumption|(simp (disch:=first|assumption|omega|(simp;done)|(simp;omega)) only[qab,qad,List.take_of_length_le,qac,qaf,qag,qah,qai,qak,qaa];try simp only[go_sem,seval,Try.results7])|(with_reducible refine And.intro ?_ ?_)|(with_reducible intro _)|(refine qaj hf1 ?_;simp only[go_sem,seval,Try.results7])|(refine qaC (fun _=>hf2) ?_;simp only[go_sem,seval,Try.results7])|(refine @Exists.intro I _ (I.d D.nil) ?_;simp only[go_sem,seval,Try.results7])|((with_reducible (show Region.lexB _ _=true));kernel_rfl)|((try rw[qae]);omega)
   exact⟨i+1,by omega,by omega,rfl⟩
  ·repeat' first|assumption|(simp (disch:=first|assumption|omega|(simp;done)|(simp;omega)) only[qab,qad,List.take_of_length_le,qac,qaf,qag,qah,qai,qak,qaa];try simp only[go_sem,seval,Try.results7])|(with_reducible refine And.intro ?_ ?_)|(with_reducible intro _)|(refine qaj hal ?_;simp only[go_sem,seval,Try.results7])|(refine @Exists.intro I _ (I.d D.nil) ?_;simp only[go_sem,seval,Try.results7])|((with_reducible (show Region.lexB _ _=true));kernel_rfl)|((try rw[qae]);omega)
theorem Try.c_FnApplyFrames (code:List Int):Pure Try.prog 10 [dUs code] (.bool true):=by
 refine qap (E:=Try.env 0) Try.tok rfl 1000 Try.func10 rfl rfl Try.ntmps10 (by simp) fun ok=>?_
 simp only[go_sem,seval] at ok
 simp only[go_sem,seval,Try.results10]
 refine fun h0=>qcx (Try.c_DrawApplyFrames code) ?_
 rintro x ⟨k,l,ps,rfl,hk,hl,hps⟩
 have hi:=Try.c_ApplyFrames k l ps
 have hs:=Try.c_sApplyFrames k l ps (by omega)
 have hal:=Try.c_alive
 generalize hx9:qeF k l ps=x at *
 have hsc:=Try.c_sameConfig x x
 have hcv:=Try.c_ConfigValid x
 simp only[go_sem,seval,Try.results10]
 repeat' first|assumption|(simp (disch:=first|assumption|omega|(simp;done)|(simp;omega)) only[qab,qad,List.take_of_length_le,qac,qaf,qag,qah,qai,qak,qaa];try simp only[go_sem,seval,Try.results10])|(with_reducible refine And.intro ?_ ?_)|(with_reducible intro _)|(refine qaj hi ?_;simp only[go_sem,seval,Try.results10])|(refine @Exists.intro I _ (I.d D.nil) ?_;simp only[go_sem,seval,Try.results10])|((with_reducible (show Region.lexB _ _=true));kernel_rfl)|((try rw[qae]);omega)
 refine qaz (E:=Try.env 0) Try.tok Try.follows 1000 1000 [] (.fst 2 (.fst 3 (.fst 0 (.fst 1 (.one 4 (.one 5 (.fst 6 (.done)))))))) (by kernel_rfl) ?_
 simp only[go_sem,seval,Try.results10]
 refine qci hs.fz ?_
 simp only[go_sem,seval,Try.results10]
 repeat' first|assumption|(simp (disch:=first|assumption|omega|(simp;done)|(simp;omega)) only[qab,qad,List.take_of_length_le,qac,qaf,qag,qah,qai,qak,qaa];try simp only[go_sem,seval,Try.results10])|(with_reducible refine And.intro ?_ ?_)|(with_reducible intro _)|(refine qaj hsc ?_;simp only[go_sem,seval,Try.results10])|(refine qaj hal ?_;simp only[go_sem,seval,Try.results10])|(refine @Exists.intro I _ (I.d D.nil) ?_;simp only[go_sem,seval,Try.results10])|((with_reducible (show Region.lexB _ _=true));kernel_rfl)|((try rw[qae]);omega)
 rename_i h9
 have hap:qeE k l ps:=Decidable.byContradiction fun h=>by
  rw[←hx9,qeF,if_neg h] at h9
  exact h9 rfl
 have hx:x=⟨qax k.tiles l,ps⟩:=by rw[←hx9,qeF,if_pos hap]
 have hxl:x.tiles.length=25:=by rw[hx];show(qax k.tiles l).length=25;rw[qaI];exact hap.1.1
 have hkl:k.tiles.length=25:=hap.1.1
 have hxp:x.pads=ps:=by rw[hx]
 have hxk:x.ok:=by rw[hx];exact qkf hap
 have hxg : ∀ i,i<25→x.tiles.getD i tc0=qcU l i (k.tiles.getD i tc0):=fun i hi=>by
  rw[hx]
  exact qbA l _ (fun p hp=>(qcl.1 (qke hap.2.2 p hp)).1.1) (by omega)
 refine qaB (E:=Try.env 0) Try.tok (σ:=Nat) (fun i=>[(3,.ptr 0 0),(4,.d (dFrs l)),(5,.d (dQs ps)),(6,.ptr 1 0),(7,.d (dI i))]) (fun _=>[.box [.d (dTcs k.tiles),.d (dQs k.pads)],.box [.d (dTcs x.tiles),.d (dQs x.pads)]])
  (fun i=>i≤25) (fun i=>25-i) [] 1000 1000 ?_ ?_ ?_
 ·simp only[go_sem,seval]
 ·simp only[go_sem,seval]
  exact⟨0,by omega,rfl⟩
 ·intro i hi
  by_cases hlt:i<25
  ·have gx:=qah (z:=D.agg [D.int .i64 0,.nil,.bool false,.nil]) (show i<k.tiles.length by omega)
   have gy:=qah (z:=D.agg [D.int .i64 0,.nil,.bool false,.nil]) (show i<x.tiles.length by omega)
   have hxi:=hxg i hlt
   have hst:=Try.c_lSameTile (x.tiles.getD i tc0) (x.tiles.getD i tc0)
   generalize k.tiles.getD i tc0=u at *
   generalize x.tiles.getD i tc0=v at *
   simp only[go_sem,seval,Try.results10,gx,gy,hkl,hxl]
   repeat' first|assumption|(simp (disch:=first|assumption|omega|(simp;done)|(simp;omega)) only[qab,qad,List.take_of_length_le,qac,qaf,qag,qah,qai,qak,qaa];try simp only[go_sem,seval,Try.results10,gx,gy,hkl,hxl])|(with_reducible refine And.intro ?_ ?_)|(with_reducible intro _)|(refine @Exists.intro I _ (I.d D.nil) ?_;simp only[go_sem,seval,Try.results10,gx,gy,hkl,hxl])|((with_reducible (show Region.lexB _ _=true));kernel_rfl)|((try rw[qae]);omega)
   refine qaB (E:=Try.env 0) Try.tok (σ:=Nat) (fun j=>[(3,.ptr 0 0),(4,.d (dFrs l)),(5,.d (dQs ps)),(6,.ptr 1 0),(7,.d (dI i)),(8,.ptr 2 0),(9,.d (dI j))]) (fun j=>[.box [.d (dTcs k.tiles),.d (dQs k.pads)],.box [.d (dTcs x.tiles),.d (dQs x.pads)],.box [.d (dI (qcU (l.take j) i u).table),.d (dIs (qcU (l.take j) i u).select),.d (dB (qcU (l.take j) i u).reg),.d (dIs (qcU (l.take j) i u).drive)]])
    (fun j=>j≤l.length) (fun j=>l.length-j) [] 1000 1000 ?_ ?_ ?_
   ·simp only[go_sem,seval]
   ·simp only[go_sem,seval]
    exact⟨0,by omega,rfl,rfl⟩
   ·intro j hj
    by_cases hlj:j<l.length
    ·have gz:=qak (z:=D.agg [D.int .i64 0,D.int .i64 0,.nil,.bool false,.nil]) hlj
     have hw:=qmw l i u hlj
     generalize l.getD j (0,tc0)=f at *
     obtain⟨f1,f2,f3,f4,f5⟩:=f
     simp only[go_sem,seval,Try.results10,gz]
     repeat' first|assumption|(simp (disch:=first|assumption|omega|(simp;done)|(simp;omega)) only[qab,qad,List.take_of_length_le,qac,qaf,qag,qah,qai,qak,qaa];try simp only[go_sem,seval,Try.results10,gz])|(with_reducible refine And.intro ?_ ?_)|(with_reducible intro _)|(refine @Exists.intro I _ (I.d D.nil) ?_;simp only[go_sem,seval,Try.results10,gz])|((with_reducible (show Region.lexB _ _=true));kernel_rfl)|((try rw[qae]);omega)
     ·rename_i h10
      rw[if_pos h10] at hw
      exact⟨j+1,by omega,by omega,rfl,by rw[hw]⟩
     ·rename_i h10
      rw[if_neg h10] at hw
      exact⟨j+1,by omega,by omega,rfl,by rw[hw]⟩
    ·obtain rfl:j=l.length:=by omega
     rw[List.take_length] at *
     rw[←hxi] at *
     simp only[go_sem,seval,Try.results10,gy,hxl]
     repeat' first|assumption|(simp (disch:=first|assumption|omega|(simp;done)|(simp;omega)) only[qab,qad,List.take_of_length_le,qac,qaf,qag,qah,qai,qak,qaa];try simp only[go_sem,seval,Try.results10,gy,hxl])|(with_reducible refine And.intro ?_ ?_)|(with_reducible intro _)|(refine qa7 (fun _=>⟨hst,trivial⟩) ?_;simp only[go_sem,seval,Try.results10,gy,hxl])|(refine @Exists.intro I _ (I.d D.nil) ?_;simp only[go_sem,seval,Try.results10,gy,hxl])|((with_reducible (show Region.lexB _ _=true));kernel_rfl)|((try rw[qae]);omega)
     exact⟨i+1,by omega,by omega,rfl⟩
  ·obtain rfl:i=25:=by omega
   simp only[go_sem,seval,Try.results10]
   repeat' first|assumption|(simp (disch:=first|assumption|omega|(simp;done)|(simp;omega)) only[qab,qad,List.take_of_length_le,qac,qaf,qag,qah,qai,qak,qaa];try simp only[go_sem,seval,Try.results10,hkl,hxl])|(with_reducible refine And.intro ?_ ?_)|(with_reducible intro _)|(refine @Exists.intro I _ (I.d D.nil) ?_;simp only[go_sem,seval,Try.results10,hkl,hxl])|((with_reducible (show Region.lexB _ _=true));kernel_rfl)|((try rw[qae]);omega)
   refine qaB (E:=Try.env 0) Try.tok (σ:=Nat) (fun j=>[(3,.ptr 0 0),(4,.d (dFrs l)),(5,.d (dQs ps)),(6,.ptr 1 0),(10,.d (dI j))]) (fun _=>[.box [.d (dTcs k.tiles),.d (dQs k.pads)],.box [.d (dTcs x.tiles),.d (dQs x.pads)]])
    (fun j=>j≤ps.length) (fun j=>ps.length-j) [] 1000 1000 ?_ ?_ ?_
   ·simp only[go_sem,seval]
   ·simp only[go_sem,seval]
    exact⟨0,by omega,rfl⟩
   ·intro j hj
    rw[decide_eq_true hxk] at hcv
    by_cases hlj:j<ps.length
    ·have gz:=qai (z:=D.agg [D.int .i64 0,.bool false]) hlj
     generalize ps.getD j (0,false)=f at *
     obtain⟨f1,f2⟩:=f
     simp only[go_sem,seval,Try.results10,hxp,gz]
     repeat' first|assumption|(simp (disch:=first|assumption|omega|(simp;done)|(simp;omega)) only[qab,qad,List.take_of_length_le,qac,qaf,qag,qah,qai,qak,qaa];try simp only[go_sem,seval,Try.results10,hxp,gz])|(with_reducible refine And.intro ?_ ?_)|(with_reducible intro _)|(refine @Exists.intro I _ (I.d D.nil) ?_;simp only[go_sem,seval,Try.results10,hxp,gz])|((with_reducible (show Region.lexB _ _=true));kernel_rfl)|((try rw[qae]);omega)
     exact⟨j+1,by omega,by omega,rfl⟩
    ·obtain rfl:j=ps.length:=by omega
     simp only[go_sem,seval,Try.results10,hxp]
     have hcv2:Pure Try.prog 57 [D.agg [dTcs x.tiles,dQs ps]] (.bool true):=by rw[←hxp];exact hcv
     repeat' first|assumption|(simp (disch:=first|assumption|omega|(simp;done)|(simp;omega)) only[qab,qad,List.take_of_length_le,qac,qaf,qag,qah,qai,qak,qaa];try simp only[go_sem,seval,Try.results10,hxp])|(with_reducible refine And.intro ?_ ?_)|(with_reducible intro _)|(refine qaj hcv2 ?_;simp only[go_sem,seval,Try.results10,hxp])|(refine @Exists.intro I _ (I.d D.nil) ?_;simp only[go_sem,seval,Try.results10,hxp])|((with_reducible (show Region.lexB _ _=true));kernel_rfl)|((try rw[qae]);omega)
theorem Try.c_FnSwitchConfig (code:List Int):Pure Try.prog 13 [dUs code] (.bool true):=by
 refine qap (E:=Try.env 0) Try.tok rfl 1000 Try.func13 rfl rfl Try.ntmps13 (by simp) fun ok=>?_
 simp only[go_sem,seval] at ok
 simp only[go_sem,seval,Try.results13]
 refine fun h0=>qcx (Try.c_DrawSwitchConfig code) ?_
 rintro x ⟨a,b,rfl,ha,hb⟩
 have hi:=Try.c_SwitchConfig a b
 have hs:=Try.c_sSwitchConfig a b
 have hca:=Try.c_sConfigValid a
 have hcb:=Try.c_sConfigValid b
 have hal:=Try.c_alive
 have hLn:=qh2 a b
 have hdf:=Try.c_DiffFrames a b
 generalize hL:qbg a b=L at *
 simp only[go_sem,seval,Try.results13]
 repeat' first|assumption|(simp (disch:=first|assumption|omega|(simp;done)|(simp;omega)) only[qab,qad,List.take_of_length_le,qac,qaf,qag,qah,qai,qak,qaa];try simp only[go_sem,seval,Try.results13])|(with_reducible refine And.intro ?_ ?_)|(with_reducible intro _)|(refine qaj hi ?_;simp only[go_sem,seval,Try.results13])|(refine @Exists.intro I _ (I.d D.nil) ?_;simp only[go_sem,seval,Try.results13])|((with_reducible (show Region.lexB _ _=true));kernel_rfl)|((try rw[qae]);omega)
 refine qci hs ?_
 simp only[go_sem,seval,Try.results13]
 repeat' first|assumption|(simp (disch:=first|assumption|omega|(simp;done)|(simp;omega)) only[qab,qad,List.take_of_length_le,qac,qaf,qag,qah,qai,qak,qaa];try simp only[go_sem,seval,Try.results13])|(with_reducible refine And.intro ?_ ?_)|(with_reducible intro _)|(refine @Exists.intro I _ (I.d D.nil) ?_;simp only[go_sem,seval,Try.results13])|((with_reducible (show Region.lexB _ _=true));kernel_rfl)|((try rw[qae]);omega)
 refine qaB (E:=Try.env 0) Try.tok (σ:=Nat) (fun i=>[(3,.ptr 0 0),(4,.ptr 1 0),(5,.d (dKs L)),(6,.d (dKs L)),(7,.d (dI i))]) (fun _=>[.box [.d (dTcs a.tiles),.d (dQs a.pads)],.box [.d (dTcs b.tiles),.d (dQs b.pads)]])
  (fun i=>i≤L.length) (fun i=>L.length-i) [] 1000 1000 ?_ ?_ ?_
 ·simp only[go_sem,seval]
 ·simp only[go_sem,seval]
  exact⟨0,by omega,rfl⟩
 ·intro i hi
  by_cases hlt:i<L.length
  ·have gx:=qkh (z:=D.agg [.nil,.nil]) hlt
   have hsc:=Try.c_sameConfig (L.getD i k0) (L.getD i k0)
   generalize L.getD i k0=x at *
   simp only[go_sem,seval,Try.results13,gx]
   repeat' first|assumption|(simp (disch:=first|assumption|omega|(simp;done)|(simp;omega)) only[qab,qad,List.take_of_length_le,qac,qaf,qag,qah,qai,qak,qaa];try simp only[go_sem,seval,Try.results13,gx])|(with_reducible refine And.intro ?_ ?_)|(with_reducible intro _)|(refine qa7 (fun _=>⟨hsc,trivial⟩) ?_;simp only[go_sem,seval,Try.results13,gx])|(refine @Exists.intro I _ (I.d D.nil) ?_;simp only[go_sem,seval,Try.results13,gx])|((with_reducible (show Region.lexB _ _=true));kernel_rfl)|((try rw[qae]);omega)
   all_goals first|exact⟨i+1,by omega,by omega,rfl⟩|(rw[qae];omega)
  ·obtain rfl:i=L.length:=by omega
   simp only[go_sem,seval,Try.results13]
   repeat' first|assumption|(simp (disch:=first|assumption|omega|(simp;done)|(simp;omega)) only[qab,qad,List.take_of_length_le,qac,qaf,qag,qah,qai,qak,qaa];try simp only[go_sem,seval,Try.results13])|(with_reducible refine And.intro ?_ ?_)|(with_reducible intro _)|(refine qaj hca ?_;simp only[go_sem,seval,Try.results13])|(refine qaC (fun _=>hcb) ?_;simp only[go_sem,seval,Try.results13])|(refine qaC (fun _=>hal) ?_;simp only[go_sem,seval,Try.results13])|(refine @Exists.intro I _ (I.d D.nil) ?_;simp only[go_sem,seval,Try.results13])|((with_reducible (show Region.lexB _ _=true));kernel_rfl)|((try rw[qae]);omega)
   ·rename_i h9
    have h10:L=[]:=by rw[←hL];exact qgJ (by rintro⟨h1,h2⟩;simp[h1,h2] at h9)
    simp[h10]
   rename_i h9
   have hA:a.ok:=by simp_all
   have hB:b.ok:=by simp_all
   have hla:a.tiles.length=25:=hA.1
   have hlb:b.tiles.length=25:=hB.1
   have hlen:=qeK ⟨hA,hB⟩
   have hlast:=qkm ⟨hA,hB⟩
   have hok:=qgi a b
   have hkeep:=fun t (ht:t<a.tiles.length) (h:a.tiles.getD t tc0=b.tiles.getD t tc0)=>qkl ht h
   rw[hL] at hlen hlast hok hkeep
   refine qaB (E:=Try.env 0) Try.tok (σ:=Nat) (fun i=>[(3,.ptr 0 0),(4,.ptr 1 0),(5,.d (dKs L)),(8,.d (dI i))]) (fun _=>[.box [.d (dTcs a.tiles),.d (dQs a.pads)],.box [.d (dTcs b.tiles),.d (dQs b.pads)]])
    (fun i=>i≤L.length) (fun i=>L.length-i) [] 1000 1000 ?_ ?_ ?_
   ·simp only[go_sem,seval]
   ·simp only[go_sem,seval]
    exact⟨0,by omega,rfl⟩
   ·intro i hi
    by_cases hlt:i<L.length
    ·simp only[go_sem,seval,Try.results13]
     repeat' first|assumption|(simp (disch:=first|assumption|omega|(simp;done)|(simp;omega)) only[qab,qad,List.take_of_length_le,qac,qaf,qag,qah,qai,qak,qaa];try simp only[go_sem,seval,Try.results13])|(with_reducible refine And.intro ?_ ?_)|(with_reducible intro _)|(refine @Exists.intro I _ (I.d D.nil) ?_;simp only[go_sem,seval,Try.results13])|((with_reducible (show Region.lexB _ _=true));kernel_rfl)|((try rw[qae]);omega)
     have hck:=hkeep
     have hc9:=hok (L.getD i k0) (qao hlt)
     have hkp : ∀ t,t<a.tiles.length→a.tiles.getD t tc0=b.tiles.getD t tc0→(L.getD i k0).tiles.getD t tc0=a.tiles.getD t tc0:=fun t ht h=>hkeep t ht h _ (qao hlt)
     have gx:=qkh (z:=D.agg [.nil,.nil]) hlt
     have hcv:=Try.c_ConfigValid (L.getD i k0)
     rw[decide_eq_true hc9] at hcv
     have hcl:(L.getD i k0).tiles.length=25:=hc9.1
     generalize hc10:L.getD i k0=c at *
     refine qaB (E:=Try.env 0) Try.tok (σ:=Nat) (fun t=>[(3,.ptr 0 0),(4,.ptr 1 0),(5,.d (dKs L)),(8,.d (dI i)),(9,.d (dI t))]) (fun _=>[.box [.d (dTcs a.tiles),.d (dQs a.pads)],.box [.d (dTcs b.tiles),.d (dQs b.pads)]])
      (fun t=>t≤25) (fun t=>25-t) [] 1000 1000 ?_ ?_ ?_
     ·simp only[go_sem,seval]
     ·simp only[go_sem,seval]
      exact⟨0,by omega,rfl⟩
     ·intro t ht
      by_cases hlt2:t<25
      ·have hs1:=Try.c_lSameTile (a.tiles.getD t tc0) (b.tiles.getD t tc0)
       have hs2:=Try.c_lSameTile (c.tiles.getD t tc0) (a.tiles.getD t tc0)
       have hkt:=hkp t (by omega)
       simp only[go_sem,seval,Try.results13,gx,hla,hlb,hcl]
       repeat' first|assumption|(simp (disch:=first|assumption|omega|(simp;done)|(simp;omega)) only[qab,qad,List.take_of_length_le,qac,qaf,qag,qah,qai,qak,qaa];try simp only[go_sem,seval,Try.results13,gx,hla,hlb,hcl])|(with_reducible refine And.intro ?_ ?_)|(with_reducible intro _)|(refine qa7 (fun _=>⟨hs1,trivial⟩) ?_;simp only[go_sem,seval,Try.results13,gx,hla,hlb,hcl])|(refine qa7 (fun _=>⟨hs2,trivial⟩) ?_;simp only[go_sem,seval,Try.results13,gx,hla,hlb,hcl])|(refine @Exists.intro I _ (I.d D.nil) ?_;simp only[go_sem,seval,Try.results13,gx,hla,hlb,hcl])|((with_reducible (show Region.lexB _ _=true));kernel_rfl)|((try rw[qae]);omega)
       ·rename_i h10
        exact h10.2 (hkt h10.1)
       ·exact⟨t+1,by omega,by omega,rfl⟩
      ·obtain rfl:t=25:=by omega
       simp only[go_sem,seval,Try.results13,gx,hla,hlb,hcl]
       repeat' first|assumption|(simp (disch:=first|assumption|omega|(simp;done)|(simp;omega)) only[qab,qad,List.take_of_length_le,qac,qaf,qag,qah,qai,qak,qaa];try simp only[go_sem,seval,Try.results13,gx,hla,hlb,hcl])|(with_reducible refine And.intro ?_ ?_)|(with_reducible intro _)|(refine qaj hcv ?_;simp only[go_sem,seval,Try.results13,gx,hla,hlb,hcl])|(refine @Exists.intro I _ (I.d D.nil) ?_;simp only[go_sem,seval,Try.results13,gx,hla,hlb,hcl])|((with_reducible (show Region.lexB _ _=true));kernel_rfl)|((try rw[qae]);omega)
       all_goals first|exact⟨i+1,by omega,by omega,rfl⟩|(rw[qae];omega)
    ·obtain rfl:i=L.length:=by omega
     simp only[go_sem,seval,Try.results13]
     repeat' first|assumption|(simp (disch:=first|assumption|omega|(simp;done)|(simp;omega)) only[qab,qad,List.take_of_length_le,qac,qaf,qag,qah,qai,qak,qaa];try simp only[go_sem,seval,Try.results13])|(with_reducible refine And.intro ?_ ?_)|(with_reducible intro _)|(refine @Exists.intro I _ (I.d D.nil) ?_;simp only[go_sem,seval,Try.results13])|((with_reducible (show Region.lexB _ _=true));kernel_rfl)|((try rw[qae]);omega)
     refine qaz (E:=Try.env 0) Try.tok Try.follows 1000 1000 [] (.fst 0 (.fst 1 (.fst 2 (.fst 3 (.one 4 (.fst 5 (.fst 6 (.fst 7 (.fst 8 (.fst 9 (.fst 10 (.fst 11 (.fst 12 (.fst 13 (.fst 14 (.two 15 (.one 16 (.one 17 (.fst 18 (.fst 19 (.done))))) 16 (.one 15 (.one 17 (.fst 18 (.fst 19 (.done))))))))))))))))))))) (by kernel_rfl) ?_
     simp only[go_sem,seval,Try.results13]
     have hp9:L.length-1<L.length:=by omega
     have gl:=qkh (z:=D.agg [.nil,.nil]) hp9
     have et:((L.length:Int)-1).toNat=L.length-1:=by omega
     rw[hlast] at gl
     have hsb:=Try.c_sameConfig b b
     have hdl:qbL a b=qaP a b 25:=if_pos ⟨hA,hB⟩
     rw[hdl] at hdf
     repeat' first|assumption|(simp (disch:=first|assumption|omega|(simp;done)|(simp;omega)) only[qab,qad,List.take_of_length_le,qac,qaf,qag,qah,qai,qak,qaa];try simp only[go_sem,seval,Try.results13,et,gl])|(with_reducible refine And.intro ?_ ?_)|(with_reducible intro _)|(refine qaj hdf ?_;simp only[go_sem,seval,Try.results13,et,gl])|(refine qaC (fun _=>hsb) ?_;simp only[go_sem,seval,Try.results13,et,gl])|(refine @Exists.intro I _ (I.d D.nil) ?_;simp only[go_sem,seval,Try.results13,et,gl])|((with_reducible (show Region.lexB _ _=true));kernel_rfl)|((try rw[qae]);omega)
end Go.Proofs

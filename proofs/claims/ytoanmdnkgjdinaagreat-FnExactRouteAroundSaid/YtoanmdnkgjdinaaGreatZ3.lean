/- Law: what is exact about routes around defects. Conditions: none; lemmas. -/
import Derived.Test.YtoanmdnkgjdinaaGreatZ2
import Derived.Test.YtoanmdnkgjdinaaGreatE5
set_option maxRecDepth 20000
set_option linter.unusedVariables false
set_option linter.unusedSimpArgs false
namespace Go.Proofs
open Go Go.VL
set_option maxHeartbeats 4000000 in
theorem Tryz.c_FnExactRouteAround (c:Circ) (place:List Int) (list:List (Int×Int)):Pure Tryz.prog 6 [dC c,dIs place,dPs list] (.bool true):=by
 refine qam (E:=Tryz.env 0) Tryz.tok rfl 1000 Tryz.func6 rfl rfl Tryz.ntmps6 (by simp) fun ok=>?_
 simp only[go_sem,seval,-List.reduceReplicate] at ok
 simp only[go_sem,seval,-List.reduceReplicate,Tryz.results6]
 repeat' first|assumption|(simp (disch:=first|assumption|omega|(simp;done)|(simp;omega)) only[qaa,qac,List.take_of_length_le,qab,qae,qaf,qag,qah,qaj];try simp only[go_sem,seval,-List.reduceReplicate,Tryz.results6])|(with_reducible refine And.intro ?_ ?_)|(with_reducible intro _)|((try rw[qad]);omega)
 have hz:=Tryz.c_szCircuit c 1048576 (by omega)
 by_cases h1:(1048576:Int)<c.next.length+c.gates.length+c.outs.length
 ·rw[if_pos h1] at hz
  refine qai hz ?_
  simp only[go_sem,seval,-List.reduceReplicate,Tryz.results6]
 rw[if_neg h1] at hz
 refine qai hz ?_
 simp only[go_sem,seval,-List.reduceReplicate,Tryz.results6]
 repeat' first|assumption|(simp (disch:=first|assumption|omega|(simp;done)|(simp;omega)) only[qaa,qac,List.take_of_length_le,qab,qae,qaf,qag,qah,qaj];try simp only[go_sem,seval,-List.reduceReplicate,Tryz.results6])|(with_reducible refine And.intro ?_ ?_)|(with_reducible intro _)|((try rw[qad]);omega)
 have hz2:=Tryz.c_szDefectS list (1048576-(c.next.length:Int)-(c.gates.length:Int)-(c.outs.length:Int)) (by omega)
 by_cases h2:(1048576-(c.next.length:Int)-(c.gates.length:Int)-(c.outs.length:Int))<list.length
 ·rw[if_pos h2] at hz2
  refine qai hz2 ?_
  simp only[go_sem,seval,-List.reduceReplicate,Tryz.results6]
 rw[if_neg h2] at hz2
 refine qai hz2 ?_
 simp only[go_sem,seval,-List.reduceReplicate,Tryz.results6]
 repeat' first|assumption|(simp (disch:=first|assumption|omega|(simp;done)|(simp;omega)) only[qaa,qac,List.take_of_length_le,qab,qae,qaf,qag,qah,qaj];try simp only[go_sem,seval,-List.reduceReplicate,Tryz.results6])|(with_reducible refine And.intro ?_ ?_)|(with_reducible intro _)|((try rw[qad]);omega)
 have htc:=Tryz.c_toCircuit c (by omega) (by omega) (by omega)
 have hti:=Tryz.c_toIntS place (by omega)
 have htd:=Tryz.c_toDefectS list (by omega)
 have hec:=Tryz.c_eqCircuit c c
 have hei:=Tryz.c_eqIntS place place
 have hed:=Tryz.c_eqDefectS list list
 rw[decide_eq_true rfl] at hec hei hed
 have hR:=(Tryz.c_RouteAround c place list).res (qiX _)
 have hS:=Tryz.c_sRouteAround c place list
 obtain⟨hs1,hs2⟩:=qic (o:=qaw c place list) fun rs h=>qee h
 have he:=Tryz.c_eqNetRouteS ((qaw c place list).getD []) ((qaw c place list).getD [])
 rw[decide_eq_true rfl] at he
 generalize (qaw c place list).isSome=b0 at *
 generalize (qaw c place list).getD []=out at *
 refine qai htc ?_
 simp only[go_sem,seval,-List.reduceReplicate,Tryz.results6]
 repeat' first|assumption|(simp (disch:=first|assumption|omega|(simp;done)|(simp;omega)) only[qaa,qac,List.take_of_length_le,qab,qae,qaf,qag,qah,qaj];try simp only[go_sem,seval,-List.reduceReplicate,Tryz.results6])|(with_reducible refine And.intro ?_ ?_)|(with_reducible intro _)|(refine qai hti ?_;simp only[go_sem,seval,-List.reduceReplicate,Tryz.results6])|(refine qai htd ?_;simp only[go_sem,seval,-List.reduceReplicate,Tryz.results6])|(refine qbt hS ?_;simp only[go_sem,seval,-List.reduceReplicate,Tryz.results6])|((try rw[qad]);omega)
 refine qa6 htc ?_
 simp only[go_sem,seval,-List.reduceReplicate,Tryz.results6]
 repeat' first|assumption|(simp (disch:=first|assumption|omega|(simp;done)|(simp;omega)) only[qaa,qac,List.take_of_length_le,qab,qae,qaf,qag,qah,qaj];try simp only[go_sem,seval,-List.reduceReplicate,Tryz.results6])|(with_reducible refine And.intro ?_ ?_)|(with_reducible intro _)|((try rw[qad]);omega)
 refine qa6 hti ?_
 simp only[go_sem,seval,-List.reduceReplicate,Tryz.results6]
 repeat' first|assumption|(simp (disch:=first|assumption|omega|(simp;done)|(simp;omega)) only[qaa,qac,List.take_of_length_le,qab,qae,qaf,qag,qah,qaj];try simp only[go_sem,seval,-List.reduceReplicate,Tryz.results6])|(with_reducible refine And.intro ?_ ?_)|(with_reducible intro _)|((try rw[qad]);omega)
 refine qa6 htd ?_
 simp only[go_sem,seval,-List.reduceReplicate,Tryz.results6]
 repeat' first|assumption|(simp (disch:=first|assumption|omega|(simp;done)|(simp;omega)) only[qaa,qac,List.take_of_length_le,qab,qae,qaf,qag,qah,qaj];try simp only[go_sem,seval,-List.reduceReplicate,Tryz.results6])|(with_reducible refine And.intro ?_ ?_)|(with_reducible intro _)|((try rw[qad]);omega)
 refine qa6 hR ?_
 simp only[go_sem,seval,-List.reduceReplicate,Tryz.results6]
 repeat' first|assumption|(simp (disch:=first|assumption|omega|(simp;done)|(simp;omega)) only[qaa,qac,List.take_of_length_le,qab,qae,qaf,qag,qah,qaj];try simp only[go_sem,seval,-List.reduceReplicate,Tryz.results6])|(with_reducible refine And.intro ?_ ?_)|(with_reducible intro _)|((try rw[qad]);omega)
 refine qai he ?_
 simp only[go_sem,seval,-List.reduceReplicate,Tryz.results6]
 repeat' first|assumption|(simp (disch:=first|assumption|omega|(simp;done)|(simp;omega)) only[qaa,qac,List.take_of_length_le,qab,qae,qaf,qag,qah,qaj];try simp only[go_sem,seval,-List.reduceReplicate,Tryz.results6])|(with_reducible refine And.intro ?_ ?_)|(with_reducible intro _)|((try rw[qad]);omega)
 refine qaT (E:=Tryz.env 0) Tryz.tok Tryz.follows 1000 1000 [] (.fst 0 (.fst 1 (.one 2 (.one 3 (.fst 4 (.done)))))) (by kernel_rfl) ?_
 simp only[go_sem,seval,-List.reduceReplicate,Tryz.results6]
 repeat' first|assumption|(simp (disch:=first|assumption|omega|(simp;done)|(simp;omega)) only[qaa,qac,List.take_of_length_le,qab,qae,qaf,qag,qah,qaj];try simp only[go_sem,seval,-List.reduceReplicate,Tryz.results6])|(with_reducible refine And.intro ?_ ?_)|(with_reducible intro _)|(refine qai htc ?_;simp only[go_sem,seval,-List.reduceReplicate,Tryz.results6])|(refine qai hec ?_;simp only[go_sem,seval,-List.reduceReplicate,Tryz.results6])|((try rw[qad]);omega)
 refine qai hti ?_
 simp only[go_sem,seval,-List.reduceReplicate,Tryz.results6]
 repeat' first|assumption|(simp (disch:=first|assumption|omega|(simp;done)|(simp;omega)) only[qaa,qac,List.take_of_length_le,qab,qae,qaf,qag,qah,qaj];try simp only[go_sem,seval,-List.reduceReplicate,Tryz.results6])|(with_reducible refine And.intro ?_ ?_)|(with_reducible intro _)|(refine qai hei ?_;simp only[go_sem,seval,-List.reduceReplicate,Tryz.results6])|((try rw[qad]);omega)
 refine qai htd ?_
 simp only[go_sem,seval,-List.reduceReplicate,Tryz.results6]
 repeat' first|assumption|(simp (disch:=first|assumption|omega|(simp;done)|(simp;omega)) only[qaa,qac,List.take_of_length_le,qab,qae,qaf,qag,qah,qaj];try simp only[go_sem,seval,-List.reduceReplicate,Tryz.results6])|(with_reducible refine And.intro ?_ ?_)|(with_reducible intro _)|(refine qai hed ?_;simp only[go_sem,seval,-List.reduceReplicate,Tryz.results6])|((try rw[qad]);omega)
 refine qcc (Tryz.c_markCircuit 0 0 0 c 1 (by omega) (by omega) (by omega) (by omega)) [1,2,3] (by simp only[go_sem,seval,-List.reduceReplicate]) ?_
 simp only[go_sem,seval,-List.reduceReplicate,Tryz.results6]
 repeat' first|assumption|(simp (disch:=first|assumption|omega|(simp;done)|(simp;omega)) only[qaa,qac,List.take_of_length_le,qab,qae,qaf,qag,qah,qaj];try simp only[go_sem,seval,-List.reduceReplicate,Tryz.results6])|(with_reducible refine And.intro ?_ ?_)|(with_reducible intro _)|((try rw[qad]);omega)
 refine qcc (Tryz.c_markIntS 0 place (1+c.next.length+2*c.gates.length+c.outs.length) (by omega) (by omega)) [5] (by simp only[go_sem,seval,-List.reduceReplicate]) ?_
 simp only[go_sem,seval,-List.reduceReplicate,Tryz.results6]
 repeat' first|assumption|(simp (disch:=first|assumption|omega|(simp;done)|(simp;omega)) only[qaa,qac,List.take_of_length_le,qab,qae,qaf,qag,qah,qaj];try simp only[go_sem,seval,-List.reduceReplicate,Tryz.results6])|(with_reducible refine And.intro ?_ ?_)|(with_reducible intro _)|((try rw[qad]);omega)
 refine qax (Tryz.c_markDefectS 0 list (1+c.next.length+2*c.gates.length+c.outs.length+place.length) (by omega)) [6] (by simp only[go_sem,seval,-List.reduceReplicate]) ?_
 rintro r0 H1 ⟨rfl,bz,rfl⟩
 simp only[go_sem,seval,-List.reduceReplicate,Tryz.results6]
 repeat' first|assumption|(simp (disch:=first|assumption|omega|(simp;done)|(simp;omega)) only[qaa,qac,List.take_of_length_le,qab,qae,qaf,qag,qah,qaj];try simp only[go_sem,seval,-List.reduceReplicate,Tryz.results6])|(with_reducible refine And.intro ?_ ?_)|(with_reducible intro _)|((try rw[qad]);omega)
 refine qaR (fun _=>he) ?_
 simp only[go_sem,seval,-List.reduceReplicate,Tryz.results6]
 repeat' first|assumption|(simp (disch:=first|assumption|omega|(simp;done)|(simp;omega)) only[qaa,qac,List.take_of_length_le,qab,qae,qaf,qag,qah,qaj];try simp only[go_sem,seval,-List.reduceReplicate,Tryz.results6])|(with_reducible refine And.intro ?_ ?_)|(with_reducible intro _)|((try rw[qad]);omega)
 refine qax (Tryz.c_markNetRouteS 0 out 1 (by omega) (by omega)) [7] (by simp only[go_sem,seval,-List.reduceReplicate]) ?_
 rintro r0 H1 ⟨rfl,rfl⟩
 simp only[go_sem,seval,-List.reduceReplicate,Tryz.results6]
 have hh:=Tryz.c_heldNetRouteS out 1 (by omega)
 have tk:List.take out.length ((mRts out 1).map fun x=>dRt x)=(mRts out 1).map fun x=>dRt x:=List.take_of_length_le (by simp[mRts])
 rw[tk]
 refine qai hh ?_
 simp only[go_sem,seval,-List.reduceReplicate,Tryz.results6]
 repeat' first|assumption|(simp (disch:=first|assumption|omega|(simp;done)|(simp;omega)) only[qaa,qac,List.take_of_length_le,qab,qae,qaf,qag,qah,qaj];try simp only[go_sem,seval,-List.reduceReplicate,Tryz.results6,tk])|(with_reducible refine And.intro ?_ ?_)|(with_reducible intro _)|(refine qai hh ?_;simp only[go_sem,seval,-List.reduceReplicate,Tryz.results6,tk])|(refine qai htc ?_;simp only[go_sem,seval,-List.reduceReplicate,Tryz.results6,tk])|(refine qai hti ?_;simp only[go_sem,seval,-List.reduceReplicate,Tryz.results6,tk])|(refine qai htd ?_;simp only[go_sem,seval,-List.reduceReplicate,Tryz.results6,tk])|(refine qai hR ?_;simp only[go_sem,seval,-List.reduceReplicate,Tryz.results6,tk])|(refine qai he ?_;simp only[go_sem,seval,-List.reduceReplicate,Tryz.results6,tk])|(refine qaR (fun _=>he) ?_;simp only[go_sem,seval,-List.reduceReplicate,Tryz.results6,tk])|((try rw[qad]);omega)
theorem Tryz.shp_ZDefect {f:Nat}(y:D) (h:shp Tryz.tyT (f+2) 96 y) : ∃ a:Int×Int,y=dP a:=by
 obtain⟨ys,rfl,k0⟩:=shp_struct Tryz.ty96 h
 obtain⟨y1,r1,rfl,h1,k1⟩:=qgJ k0
 obtain⟨y2,r2,rfl,h2,k2⟩:=qgJ k1
 obtain rfl:=qnr k2
 obtain⟨n,rfl⟩:=shp_int Tryz.ty3 h1
 obtain⟨m,rfl⟩:=shp_int Tryz.ty3 h2
 exact⟨(n,m),rfl⟩
theorem Tryz.shp_ZDefects {f:Nat}(y:D) (h:shp Tryz.tyT (f+3) 58 y) : ∃ l:List (Int×Int),y=dPs l:=
 shp_slice Tryz.ty58 Tryz.ty96 Tryz.shp_ZDefect h
end Go.Proofs

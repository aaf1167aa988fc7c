/- What the functions come to. -/
import Derived.Test.YtglhniiabhknoaaGreatDoorZGCGCPureAllFnExactParseRange
import Derived.Test.YtglhniiabhknoaaGreatDoorZGCSGCFnExactParseRange
set_option linter.unusedVariables false
set_option linter.unusedSimpArgs false
namespace Go.Proofs.YtglhniiabhknoaaGreatDoor.Pure
open Go.RowKit Go.Proofs.YtglhniiabhknoaaGreatDoor.PGC Go.Proofs.YtglhniiabhknoaaGreatDoorW.PrintWords Go.Proofs.YtglhniiabhknoaaGreatDoorW.PrintLast Go.Proofs.YtglhniiabhknoaaGreatDoor.Aux
theorem cntCm_small:∀ l:List CmpT,(∀ x∈l,smallC x)→cntCm l≤7*l.length
 | [],_=>by simp[cntCm]
 | x :: l,h=>by
  have h1:=cntCm_small l (fun z hz=>h z (List.mem_cons_of_mem _ hz))
  have h2:=(h x (by simp)).1
  rw[cntCm,List.length_cons]
  omega
theorem cntDm_small:∀ l:List (List CmpT),(∀ y∈l,y.length≤4∧∀ x∈y,smallC x)→cntDm l≤28*l.length
 | [],_=>by simp[cntDm]
 | x :: l,h=>by
  have h1:=cntDm_small l (fun z hz=>h z (List.mem_cons_of_mem _ hz))
  have h2:=h x (by simp)
  have h3:=cntCm_small x h2.2
  rw[cntDm,List.length_cons]
  omega
theorem FnExactParseRange:laws_FnExactParseRange.Pure2:=by
 intro s _
 refine Ev.get ?_
 unfold laws_FnExactParseRange.f
 refine Ev.cond (fun _=>Ev.some) fun hs=>?_
 have hz:s.size≤16777216:=by omega
 obtain⟨r1,r2⟩:=range_small hz
 have hf:(rangeR s).1.length≤9223372036854775807∧∀ y∈(rangeR s).1,(y.length≤9223372036854775807∧∀ z∈y,fitCmp z):=
  ⟨by omega,fun y hy=>⟨by have:=(r2 y hy).1;omega,fun z hz=>(by have:=((r2 y hy).2 z hz).1;unfold fitCmp fitVer;omega)⟩⟩
 have hll:∀ y∈(rangeR s).1,y.length≤549755813888:=fun y hy=>by have:=(r2 y hy).1;omega
 have hd:=cntDm_small _ r2
 have hd0:=cntDm_nonneg (rangeR s).1
 refine Ev.succ ?_
 simp only[laws_FnExactParseRange.j0]
 refine Ev.bind (spec_range s hz) (Ev.bind (impl_range s hz) ?_)
 refine Ev.bind (eqCmpSS _ hf) ?_
 simp only[if_true,bne_self_eq_false]
 refine Ev.succ ?_
 simp only[laws_FnExactParseRange.j1,Bool.false_eq_true,if_false]
 refine Ev.succ ?_
 simp only[laws_FnExactParseRange.j2]
 refine Ev.bind (markCmpSS _ 1 (by omega) (by omega)) (Ev.bind (heldCmpSS 1 _ (by omega) hll (by omega) (by omega)) ?_)
 refine Ev.noM (by omega) ?_
 refine Ev.succ ?_
 simp only[laws_FnExactParseRange.j3,if_true]
 refine Ev.succ ?_
 simp only[laws_FnExactParseRange.j4]
 refine Ev.bind (impl_range s hz) (Ev.bind (eqCmpSS _ hf) ?_)
 simp only[if_true,bne_self_eq_false]
 refine Ev.succ ?_
 simp only[laws_FnExactParseRange.j5,Bool.false_eq_true,if_false]
 refine Ev.succ ?_
 simp only[laws_FnExactParseRange.j6]
 refine Ev.bind (heldCmpSS 1 _ (by omega) hll (by omega) (by omega)) ?_
 refine Ev.noM (by omega) ?_
 simp only[if_true]
 exact Ev.some
end Go.Proofs.YtglhniiabhknoaaGreatDoor.Pure

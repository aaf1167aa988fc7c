/- The law FnExactParseVer's one statement: ParseVer of the program answers as the reference's, with rows of its own. -/
import Derived.Test.YtpmooegakomnbabDoorGDPureAllFnExactParseVer
import Derived.Test.YtpmooegakomnbabDoorSGDFnExactParseVer
import Derived.Test.YtpmooegakomnbabDoorPGDx6
import Derived.Test.YtpmooegakomnbabDoorPGDx7
set_option linter.unusedVariables false
set_option linter.unusedSimpArgs false
namespace Go.Proofs.YtpmooegakomnbabDoor.Pure
open Go.RowKit Go.Proofs.YtpmooegakomnbabDoor.PGD Go.Proofs.YtpmooegakomnbabDoorW.PrintWords Go.Proofs.YtpmooegakomnbabDoorW.PrintLast Go.Proofs.YtpmooegakomnbabDoor.Aux

theorem markVer (a b c : Int) (l : List ByteArray) (h : l.length ≤ 1000000) : Ev (fun k => laws_markVer.f k a b c l 1) (1 + (l.length : Int), mks 1 l.length) := by
  unfold laws_markVer.f
  refine Ev.bind (markStringS l 1 (by omega) (by omega)) ?_
  exact Ev.some
theorem heldVer (a b c : Int) (n : Nat) (h : n ≤ 1000000) : Ev (fun k => laws_heldVer.f k a b c (mks 1 n) 1) (1 + (n : Int)) := by
  unfold laws_heldVer.f
  refine Ev.bind (heldStringS 1 n (by omega) (by omega)) ?_
  simp only [show ¬ (1 + (n : Int)) < 0 by omega, if_false]
  exact Ev.some
theorem FnExactParseVer : laws_FnExactParseVer.Pure2 := by
  intro s _
  refine Ev.get ?_
  unfold laws_FnExactParseVer.f
  refine Ev.cond (fun _ => Ev.some) fun hs => ?_
  have hl := parseV_length s
  have hn : ¬ 1 + ((parseV s).2.2.2.1.length : Int) < 0 := by omega
  refine Ev.succ ?_
  simp only [laws_FnExactParseVer.j0]
  refine Ev.bind (spec_pv s (by omega)) (Ev.bind (impl_pv s (by omega)) ?_)
  refine Ev.bind (eqVer _ _ _ _ (by omega)) ?_
  simp only [if_true, bne_self_eq_false]
  refine Ev.succ ?_
  simp only [laws_FnExactParseVer.j1, Bool.false_eq_true, if_false]
  refine Ev.succ ?_
  simp only [laws_FnExactParseVer.j2]
  refine Ev.bind (markVer _ _ _ _ (by omega)) (Ev.bind (heldVer _ _ _ _ (by omega)) ?_)
  simp only [hn, if_false]
  refine Ev.succ ?_
  simp only [laws_FnExactParseVer.j3, if_true]
  refine Ev.succ ?_
  simp only [laws_FnExactParseVer.j4]
  refine Ev.bind (impl_pv s (by omega)) (Ev.bind (eqVer _ _ _ _ (by omega)) ?_)
  simp only [if_true, bne_self_eq_false]
  refine Ev.succ ?_
  simp only [laws_FnExactParseVer.j5, Bool.false_eq_true, if_false]
  refine Ev.succ ?_
  simp only [laws_FnExactParseVer.j6]
  refine Ev.bind (heldVer _ _ _ _ (by omega)) ?_
  simp only [hn, if_false, if_true]
  exact Ev.some
end Go.Proofs.YtpmooegakomnbabDoor.Pure

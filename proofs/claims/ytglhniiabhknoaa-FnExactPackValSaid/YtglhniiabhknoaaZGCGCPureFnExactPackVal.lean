/- What the functions come to. -/
import Derived.Test.YtglhniiabhknoaaZGCGCPureAllFnExactPackVal
import Derived.Test.YtglhniiabhknoaaZGCSGCFnExactPackVal
set_option linter.unusedVariables false
set_option linter.unusedSimpArgs false
namespace Go.Proofs.Ytglhniiabhknoaa.Pure
open Go.RowKit Go.Proofs.Ytglhniiabhknoaa.PGC Go.Proofs.YtglhniiabhknoaaW.PrintWords Go.Proofs.YtglhniiabhknoaaW.PrintLast Go.Proofs.Ytglhniiabhknoaa.Aux
theorem FnExactPackVal:laws_FnExactPackVal.Pure2:=by
 intro x hx
 have hnx:=needPack_nonneg x
 refine Ev.get ?_
 unfold laws_FnExactPackVal.f
 refine Ev.bind (szPack x _ hx (by omega) (by omega)) ?_
 by_cases h1:needPack x≤1048576
 ·rw[left_pos h1]
  refine Ev.noV (by omega) ?_
  have tx:=toPack x h1
  obtain⟨hsm,hrk⟩:=small_pack x h1
  have hep:=eqPack _ (fit_convPack x h1)
  have hsp:=spec_packv _ hsm
  have him:=impl_packv _ hsm
  have hfE:=fit_packV _ hsm
  have hcE:=ct_packV _ hsm hrk
  obtain⟨y,hy,hy1⟩:=markPack_ex _ hsm hrk
  generalize packV (convPack x)=E at hsp him hfE hcE
  have hnE:=ctR_nonneg E
  have heq:=eqVal E hfE
  refine Ev.succ ?_
  simp only[laws_FnExactPackVal.j0]
  refine Ev.bind tx (Ev.bind hsp (Ev.bind tx (Ev.bind him (Ev.bind heq ?_))))
  simp only[if_true]
  refine Ev.succ ?_
  simp only[laws_FnExactPackVal.j1]
  refine Ev.bind tx (Ev.bind hep ?_)
  simp only[if_true]
  refine Ev.succ ?_
  simp only[laws_FnExactPackVal.j2]
  refine Ev.bind hy ?_
  refine Ev.noV (by omega) ?_
  refine Ev.bind heq ?_
  simp only[Bool.not_true]
  refine Ev.succ ?_
  simp only[laws_FnExactPackVal.j3,Bool.false_eq_true,if_false]
  refine Ev.succ ?_
  simp only[laws_FnExactPackVal.j4]
  refine Ev.bind (markVal E _ _ _ 1 (by omega) (by omega)) (Ev.bind (heldVal E hfE _ _ _ 1 (by omega) (by omega)) ?_)
  refine Ev.noV (by omega) ?_
  refine Ev.succ ?_
  simp only[laws_FnExactPackVal.j5,if_true]
  refine Ev.succ ?_
  simp only[laws_FnExactPackVal.j6]
  refine Ev.bind tx (Ev.bind him (Ev.bind heq ?_))
  simp only[if_true]
  refine Ev.succ ?_
  simp only[laws_FnExactPackVal.j7]
  refine Ev.bind (heldVal E hfE _ _ _ 1 (by omega) (by omega)) ?_
  refine Ev.noV (by omega) ?_
  simp only[if_true]
  exact Ev.some
 ·rw[left_not h1]
  exact Ev.some
end Go.Proofs.Ytglhniiabhknoaa.Pure

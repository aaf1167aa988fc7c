/- The law FnExactPackVal holds: for every input that can be read it answers true, and each argument reads behind the call as it read before. -/
import Derived.Test.YtglhniiabhknoaaRows
import Derived.Test.YtglhniiabhknoaaZGCPGCx11
import Derived.Test.YtglhniiabhknoaaZGCSGCFnExactPackVal
import Derived.Test.YtglhniiabhknoaaZGCGCPureFnExactPackVal
import Derived.WalkKit
import Derived.ProofKit
import Derived.OpenShut
import Derived.ShutString
import Derived.ChangeOld
import Derived.Below
import Derived.SizedLaws
set_option linter.unusedVariables false
set_option linter.unusedSimpArgs false
namespace Go.Proofs.Ytglhniiabhknoaa.fnExactPackVal
open Go.ChangeShapes Go.WideShapes Go.ChangeAt Go.RowKit Go.Proofs.Ytglhniiabhknoaa.PGC Go.Proofs.YtglhniiabhknoaaW.PrintWords
open Go.ChangeMaps (open_string shut_string)
theorem own:ownKnob Try.prog.godebug=none:=by kernel_rfl
theorem laidOut:laidOutB Try.prog=true:=by kernel_rfl
set_option maxRecDepth 100000 in
theorem lifted (os:Os) (started:os.Started) (H:Type) (enc:TypeId × Value→H) :
    ReturnsInHanded {} Try.checked os 4 .any (Rows.fnExactPackValSpec.pre6 enc Try.prog Try.f4 Rows.fnExactPackValRow.domain false) (Rows.fnExactPackValSpec.post enc Try.prog Try.f4 false true false false):=by
  refine returnsInHanded_of_change_sized (C:=Try.checked) own started (by kernel_rfl) Try.func4
    (ChangeSpec.witness6 (enc:=enc) (C:=Try.checked) false ⟨#[],#[((.agg #[(.string ⟨#[]⟩),(.slice none 0 0),(.slice none 0 0),(.slice none 0 0)]))],[]⟩ 8 (by kernel_rfl) (by kernel_rfl) (by kernel_rfl) (by kernel_rfl)) ?_
  intro W base args ds gs before hval0 hW hcnd hsz0 _;have hval:∀ (j:Nat) t v,Try.f4.params[j]?=some t→args[j]?=some v→Value.okWide Try.prog W .any base t v:=hval0;have hW':=hW;obtain⟨p,q,hA0,hV,rfl,hfz,hnd⟩:=hW;have hA:DataW.TrodAll enc Try.prog W 0 (fun _=>true) true Try.f4.params.toList args.toList ds p:=hA0;rw[Try.params4] at hA hval;obtain⟨v0,vs0,d0,ds0,p0,q0,hargs,rfl,rfl,h0,r0⟩:=trodAll_cons hA;obtain⟨rfl,rfl,rfl⟩:=trodAll_nil r0;obtain rfl:args = #[v0]:=by cases args;simp_all
  obtain⟨rfl,rfl⟩:=trodVars_none hV;have k0:=h0;have lt0:∀ x∈p0,x.block<W.heap.size:=by obtain⟨m,hm⟩:=k0;exact DataW.trod_lt m _ _ _ hm
  obtain⟨cs0,x0,rfl,K0,w0⟩:=Open.top_struct Try.underlying39 (by kernel_rfl) (hval 0 39 v0 rfl rfl) h0 opn39;obtain⟨A0_1,c0_1,A0_2,c0_2,A0_3,c0_3,rfl,hc0_1,hr0_1,hc0_2,hr0_2,hc0_3,hr0_3⟩:=k39_open K0;obtain⟨k_,hk_⟩:=Pure.FnExactPackVal x0 w0;clear hA0 hval0 hsz0;refine(laws_FnExactPackVal.calls k_ x0.f0 _ _ x0.f1 _ _ x0.f2 _ _ x0.f3 true W hr0_1 hc0_1 hr0_2 hc0_2 hr0_3 hc0_3 hk_).mono fun e W' hpost=>?_;obtain⟨he,bel0⟩:=hpost;have bel:Below W.heap.size W W':=bel0;subst he;exact⟨_,rfl,_,_,_,[],_,[],hW',trodAll_mk1 (shut_bool Try.underlying4 _),(trodAll_cons_mk (Below.trod laidOut (by kernel_rfl) (of_decide_eq_true (by kernel_rfl)) k0 bel lt0) trodAll_mk0),rfl,bel.frame _,fun h=>by cases h⟩
theorem over:Rows.fnExactPackValRow.holds Try.pinned (OpenSpec.ofChange Rows.fnExactPackValSpec):=
  OpenClaim.holds_of_wide 4 Try.f4 rfl rfl rfl rfl rfl rfl rfl ⟨rfl,rfl,rfl,rfl,rfl⟩ rfl rfl rfl rfl rfl (by kernel_rfl) Try.func4 (by kernel_rfl)
    (of_decide_eq_true (by kernel_rfl)) (by unfold Func.isWrapper;first|(rw[if_pos (by decide +kernel)];kernel_rfl)|(rw[if_neg (by decide +kernel)];exact⟨rfl,rfl⟩))
    (fun os started H enc _=>lifted os started H enc)
theorem proved:Rows.FnExactPackValSaid:=over
#print axioms proved
end Go.Proofs.Ytglhniiabhknoaa.fnExactPackVal
namespace Go.Proofs.Ytglhniiabhknoaa
/-- The row, under a short name, for the claim. -/
theorem fnExactPackVal_holds:Rows.FnExactPackValSaid:=fnExactPackVal.proved
end Go.Proofs.Ytglhniiabhknoaa

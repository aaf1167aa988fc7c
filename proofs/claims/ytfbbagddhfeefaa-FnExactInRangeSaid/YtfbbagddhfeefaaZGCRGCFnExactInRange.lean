/- The law FnExactInRange holds: for every input that can be read it answers true, and each argument reads behind the call as it read before. -/
import Derived.Test.YtfbbagddhfeefaaRows
import Derived.Test.YtfbbagddhfeefaaZGCPGCx13
import Derived.Test.YtfbbagddhfeefaaZGCSGCFnExactInRange
import Derived.Test.YtfbbagddhfeefaaZGCGCPureFnExactInRange
import Derived.WalkKit
import Derived.ProofKit
import Derived.OpenShut
import Derived.ShutString
import Derived.ChangeOld
import Derived.Below
import Derived.SizedLaws
set_option linter.unusedVariables false
set_option linter.unusedSimpArgs false
namespace Go.Proofs.Ytfbbagddhfeefaa.fnExactInRange
open Go.ChangeShapes Go.WideShapes Go.ChangeAt Go.RowKit Go.Proofs.Ytfbbagddhfeefaa.PGC Go.Proofs.YtfbbagddhfeefaaW.PrintWords
open Go.ChangeMaps (open_string shut_string)
theorem own : ownKnob Try.prog.godebug = none := by kernel_rfl
theorem laidOut : laidOutB Try.prog = true := by kernel_rfl
set_option maxRecDepth 100000 in
theorem lifted (os : Os) (started : os.Started) (H : Type) (enc : TypeId × Value → H) :
    ReturnsInHanded {} Try.checked os 15 .any (Rows.fnExactInRangeSpec.pre6 enc Try.prog Try.f15 Rows.fnExactInRangeRow.domain false) (Rows.fnExactInRangeSpec.post enc Try.prog Try.f15 false true false false) := by
  refine returnsInHanded_of_change_sized (C := Try.checked) own started (by kernel_rfl) Try.func15
    (ChangeSpec.witness6 (enc := enc) (C := Try.checked) false ⟨#[], #[((.slice none 0 0)), ((.agg #[(.int .i64 0), (.int .i64 0), (.int .i64 0), (.slice none 0 0)]))], []⟩ 8 (by kernel_rfl) (by kernel_rfl) (by kernel_rfl) (by kernel_rfl)) ?_
  intro W base args ds gs before hval0 hW hcnd hsz0 _
  have hval : ∀ (j : Nat) t v, Try.f15.params[j]? = some t → args[j]? = some v → Value.okWide Try.prog W .any base t v := hval0
  have hW' := hW
  obtain ⟨p, q, hA0, hV, rfl, hfz, hnd⟩ := hW
  have hA : DataW.TrodAll enc Try.prog W 0 (fun _ => true) true Try.f15.params.toList args.toList ds p := hA0
  rw [Try.params15] at hA hval
  obtain ⟨v0, vs0, d0, ds0, p0, q0, hargs, rfl, rfl, h0, r0⟩ := trodAll_cons hA
  obtain ⟨v1, vs1, d1, ds1, p1, q1, rfl, rfl, rfl, h1, r1⟩ := trodAll_cons r0
  obtain ⟨rfl, rfl, rfl⟩ := trodAll_nil r1
  obtain rfl : args = #[v0, v1] := by cases args; simp_all
  obtain ⟨rfl, rfl⟩ := trodVars_none hV
  have k0 := h0
  have lt0 : ∀ x ∈ p0, x.block < W.heap.size := by obtain ⟨m, hm⟩ := k0; exact DataW.trod_lt m _ _ _ hm
  obtain ⟨A0, c0, l0, rfl, hc0, hr0, w0⟩ := Open.top_slice (d := (Kd.slice 76 k76)) (Ok := (fun xs : List (List (S76)) => xs.length ≤ maxLen ∧ ∀ x ∈ xs, (fun xs : List (S76) => xs.length ≤ maxLen ∧ ∀ x ∈ xs, ok76 x) x)) Try.underlying101 (hval 0 101 v0 rfl rfl) h0 (fun m => (Open.Opn.slice (Ok := (fun xs : List (S76) => xs.length ≤ maxLen ∧ ∀ x ∈ xs, ok76 x)) Try.underlying101 (by kernel_rfl) (fun m' _ => (Open.Opn.slice (Ok := ok76) Try.underlying172 (by kernel_rfl) (fun m' _ => (opn76 m'))))))
  have k1 := h1
  have lt1 : ∀ x ∈ p1, x.block < W.heap.size := by obtain ⟨m, hm⟩ := k1; exact DataW.trod_lt m _ _ _ hm
  obtain ⟨cs1, x1, rfl, K1, w1⟩ := Open.top_struct Try.underlying24 (by kernel_rfl) (hval 1 24 v1 rfl rfl) h1 opn24
  obtain ⟨A1_3, c1_3, rfl, hc1_3, hr1_3⟩ := k24_open K1
  obtain ⟨k_, hk_⟩ := Pure.FnExactInRange l0 x1 w0 w1
  clear hA0 hval0 hsz0
  refine (laws_FnExactInRange.calls k_ _ _ l0 x1.f0 x1.f1 x1.f2 _ _ x1.f3 true W hr0 hc0 hr1_3 hc1_3 hk_).mono fun e W' hpost => ?_
  obtain ⟨he, bel0⟩ := hpost
  have bel : Below W.heap.size W W' := bel0
  subst he
  exact ⟨_, rfl, _, _, _, [], _, [], hW', trodAll_mk1 (shut_bool Try.underlying4 _), (trodAll_cons_mk (Below.trod laidOut (by kernel_rfl) (of_decide_eq_true (by kernel_rfl)) k0 bel lt0) (trodAll_cons_mk (Below.trod laidOut (by kernel_rfl) (of_decide_eq_true (by kernel_rfl)) k1 bel lt1) trodAll_mk0)), rfl, bel.frame _, fun h => by cases h⟩
theorem over : Rows.fnExactInRangeRow.holds Try.pinned (OpenSpec.ofChange Rows.fnExactInRangeSpec) :=
  OpenClaim.holds_of_wide 15 Try.f15 rfl rfl rfl rfl rfl rfl rfl ⟨rfl, rfl, rfl, rfl, rfl⟩ rfl rfl rfl rfl rfl (by kernel_rfl) Try.func15 (by kernel_rfl)
    (of_decide_eq_true (by kernel_rfl)) (by unfold Func.isWrapper; first | (rw [if_pos (by decide +kernel)]; kernel_rfl) | (rw [if_neg (by decide +kernel)]; exact ⟨rfl, rfl⟩))
    (fun os started H enc _ => lifted os started H enc)
theorem proved : Rows.FnExactInRangeSaid := over
#print axioms proved
end Go.Proofs.Ytfbbagddhfeefaa.fnExactInRange
namespace Go.Proofs.Ytfbbagddhfeefaa
/-- The row, under a short name, for the claim. -/
theorem fnExactInRange_holds : Rows.FnExactInRangeSaid := fnExactInRange.proved
end Go.Proofs.Ytfbbagddhfeefaa

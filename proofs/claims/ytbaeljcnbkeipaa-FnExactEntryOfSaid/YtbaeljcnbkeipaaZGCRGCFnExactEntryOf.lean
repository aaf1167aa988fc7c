/- The law FnExactEntryOf holds: for every input that can be read it answers true, and each argument reads behind the call as it read before. -/
import Derived.Test.YtbaeljcnbkeipaaRows
import Derived.Test.YtbaeljcnbkeipaaZGCPGCx10
import Derived.Test.YtbaeljcnbkeipaaZGCSGCFnExactEntryOf
import Derived.Test.YtbaeljcnbkeipaaZGCGCPureFnExactEntryOf
import Derived.WalkKit
import Derived.ProofKit
import Derived.OpenShut
import Derived.ShutString
import Derived.ChangeOld
import Derived.Below
import Derived.SizedLaws
set_option linter.unusedVariables false
set_option linter.unusedSimpArgs false
namespace Go.Proofs.Ytbaeljcnbkeipaa.fnExactEntryOf
open Go.ChangeShapes Go.WideShapes Go.ChangeAt Go.RowKit Go.Proofs.Ytbaeljcnbkeipaa.PGC Go.Proofs.YtbaeljcnbkeipaaW.PrintWords
open Go.ChangeMaps (open_string shut_string)
theorem own : ownKnob Try.prog.godebug = none := by kernel_rfl
theorem laidOut : laidOutB Try.prog = true := by kernel_rfl
set_option maxRecDepth 100000 in
theorem lifted (os : Os) (started : os.Started) (H : Type) (enc : TypeId × Value → H) :
    ReturnsInHanded {} Try.checked os 4 .any (Rows.fnExactEntryOfSpec.pre6 enc Try.prog Try.f4 Rows.fnExactEntryOfRow.domain false) (Rows.fnExactEntryOfSpec.post enc Try.prog Try.f4 false true false false) := by
  refine returnsInHanded_of_change_sized (C := Try.checked) own started (by kernel_rfl) Try.func4
    (ChangeSpec.witness6 (enc := enc) (C := Try.checked) false ⟨#[], #[((.slice none 0 0)), ((.string ⟨#[]⟩)), ((.agg #[(.int .i64 0), (.int .i64 0), (.int .i64 0), (.slice none 0 0)]))], []⟩ 8 (by kernel_rfl) (by kernel_rfl) (by kernel_rfl) (by kernel_rfl)) ?_
  intro W base args ds gs before hval0 hW hcnd hsz0 _
  have hval : ∀ (j : Nat) t v, Try.f4.params[j]? = some t → args[j]? = some v → Value.okWide Try.prog W .any base t v := hval0
  have hW' := hW
  obtain ⟨p, q, hA0, hV, rfl, hfz, hnd⟩ := hW
  have hA : DataW.TrodAll enc Try.prog W 0 (fun _ => true) true Try.f4.params.toList args.toList ds p := hA0
  rw [Try.params4] at hA hval
  obtain ⟨v0, vs0, d0, ds0, p0, q0, hargs, rfl, rfl, h0, r0⟩ := trodAll_cons hA
  obtain ⟨v1, vs1, d1, ds1, p1, q1, rfl, rfl, rfl, h1, r1⟩ := trodAll_cons r0
  obtain ⟨v2, vs2, d2, ds2, p2, q2, rfl, rfl, rfl, h2, r2⟩ := trodAll_cons r1
  obtain ⟨rfl, rfl, rfl⟩ := trodAll_nil r2
  obtain rfl : args = #[v0, v1, v2] := by cases args; simp_all
  obtain ⟨rfl, rfl⟩ := trodVars_none hV
  have k0 := h0
  have lt0 : ∀ x ∈ p0, x.block < W.heap.size := by obtain ⟨m, hm⟩ := k0; exact DataW.trod_lt m _ _ _ hm
  obtain ⟨A0, c0, l0, rfl, hc0, hr0, w0⟩ := Open.top_slice (d := k84) (Ok := (fun xs : List (S84) => xs.length ≤ maxLen ∧ ∀ x ∈ xs, ok84 x)) Try.underlying36 (hval 0 36 v0 rfl rfl) h0 (fun m => (Open.Opn.slice (Ok := ok84) Try.underlying36 (by kernel_rfl) (fun m' _ => (opn84 m'))))
  obtain ⟨a1, rfl, rfl, rfl, w1⟩ := open_string Try.underlying9 (hval 1 9 v1 rfl rfl) h1
  have k2 := h2
  have lt2 : ∀ x ∈ p2, x.block < W.heap.size := by obtain ⟨m, hm⟩ := k2; exact DataW.trod_lt m _ _ _ hm
  obtain ⟨cs2, x2, rfl, K2, w2⟩ := Open.top_struct Try.underlying38 (by kernel_rfl) (hval 2 38 v2 rfl rfl) h2 opn38
  obtain ⟨A2_3, c2_3, rfl, hc2_3, hr2_3⟩ := k38_open K2
  obtain ⟨k_, hk_⟩ := Pure.FnExactEntryOf l0 a1 x2 w0 w1 w2
  clear hA0 hval0 hsz0
  refine (laws_FnExactEntryOf.calls k_ _ _ l0 a1 x2.f0 x2.f1 x2.f2 _ _ x2.f3 true W hr0 hc0 hr2_3 hc2_3 hk_).mono fun e W' hpost => ?_
  obtain ⟨he, bel0⟩ := hpost
  have bel : Below W.heap.size W W' := bel0
  subst he
  exact ⟨_, rfl, _, _, _, [], _, [], hW', trodAll_mk1 (shut_bool Try.underlying4 _), (trodAll_cons_mk (Below.trod laidOut (by kernel_rfl) (of_decide_eq_true (by kernel_rfl)) k0 bel lt0) (trodAll_cons_mk (shut_string Try.underlying9 w1) (trodAll_cons_mk (Below.trod laidOut (by kernel_rfl) (of_decide_eq_true (by kernel_rfl)) k2 bel lt2) trodAll_mk0))), rfl, bel.frame _, fun h => by cases h⟩
theorem over : Rows.fnExactEntryOfRow.holds Try.pinned (OpenSpec.ofChange Rows.fnExactEntryOfSpec) :=
  OpenClaim.holds_of_wide 4 Try.f4 rfl rfl rfl rfl rfl rfl rfl ⟨rfl, rfl, rfl, rfl, rfl⟩ rfl rfl rfl rfl rfl (by kernel_rfl) Try.func4 (by kernel_rfl)
    (of_decide_eq_true (by kernel_rfl)) (by unfold Func.isWrapper; first | (rw [if_pos (by decide +kernel)]; kernel_rfl) | (rw [if_neg (by decide +kernel)]; exact ⟨rfl, rfl⟩))
    (fun os started H enc _ => lifted os started H enc)
theorem proved : Rows.FnExactEntryOfSaid := over
#print axioms proved
end Go.Proofs.Ytbaeljcnbkeipaa.fnExactEntryOf
namespace Go.Proofs.Ytbaeljcnbkeipaa
/-- The row, under a short name, for the claim. -/
theorem fnExactEntryOf_holds : Rows.FnExactEntryOfSaid := fnExactEntryOf.proved
end Go.Proofs.Ytbaeljcnbkeipaa

/- The law FnExactMayTake holds: for every input that can be read it answers true, and each argument reads behind the call as it read before. -/
import Derived.Test.YtpcdhoeoefoeoaaGreatDoorRows
import Derived.Test.YtpcdhoeoefoeoaaGreatDoorZGAPGAx21
import Derived.Test.YtpcdhoeoefoeoaaGreatDoorZGASGAFnExactMayTake
import Derived.Test.YtpcdhoeoefoeoaaGreatDoorZGAGAPureFnExactMayTake
import Derived.WalkKit
import Derived.ProofKit
import Derived.OpenShut
import Derived.ShutString
import Derived.ChangeOld
import Derived.Below
import Derived.SizedLaws
import Derived.Test.YtpcdhoeoefoeoaaGreatDoorZGARowShaped
import Derived.LaidMore
import Derived.Lay
import Derived.Test.YtpcdhoeoefoeoaaGreatDoorTie
import Derived.Test.YtpcdhoeoefoeoaaGreatDoorCards
import Derived.SevenTiedAt
set_option linter.unusedVariables false
set_option linter.unusedSimpArgs false
namespace Go.Proofs.YtpcdhoeoefoeoaaGreatDoor.fnExactMayTake
open Go.ChangeShapes Go.WideShapes Go.ChangeAt Go.RowKit Go.Proofs.YtpcdhoeoefoeoaaGreatDoor.PGA Go.Proofs.YtpcdhoeoefoeoaaGreatDoorW.PrintWords
open Go.ChangeMaps (open_string shut_string)
theorem own : ownKnob Tryz.prog.godebug = none := by kernel_rfl
theorem laidOut : laidOutB Tryz.prog = true := by kernel_rfl
set_option maxRecDepth 100000 in
theorem lifted (os : Os) (started : os.Started) (H : Type) (enc : TypeId × Value → H) :
    ReturnsInHanded {} Tryz.checked os 3 .any (fun w args => (Rows.fnExactMayTakeSpec.pre enc Tryz.prog Tryz.f3 Rows.fnExactMayTakeRow.domain false w args ∧ laidMetH Tryz.prog Rows.fnExactMayTakeRow.laid w) ∧ sizedMet enc Tryz.prog Tryz.f3 (OpenSpec.ofChange Rows.fnExactMayTakeSpec) false w args) (Rows.fnExactMayTakeSpec.post enc Tryz.prog Tryz.f3 false true false false) := by
  refine RowShaped.returns_and_shaped (C := Tryz.checked) (X := fun w _ => laidMetH Tryz.prog Rows.fnExactMayTakeRow.laid w) (fun _ _ _ hh h => h.of_heap hh) own started (by kernel_rfl) Tryz.func3
    (ChangeSpec.witness_shaped (enc := enc) (C := Tryz.checked) (os := os) (X := fun w _ => laidMetH Tryz.prog Rows.fnExactMayTakeRow.laid w) false (World.laidAll Tryz.prog os Rows.fnExactMayTakeRow.laid) #[((.agg #[(.string ⟨#[]⟩), (.string ⟨#[]⟩)])), ((.agg #[(.int .i64 0), (.int .i64 0), (.int .i64 0), (.slice none 0 0)]))] 8 (World.laidAll_os _ _ _)
      (World.shaped_of_ZipB (by kernel_rfl) (by kernel_rfl)) (by kernel_rfl) (by kernel_rfl) (by kernel_rfl)
      (by rw [MakeChecks.laidMetH_plain _ _ _ (by kernel_rfl)]; exact laidMet_laidAll _ (by kernel_rfl) (by kernel_rfl))) ?_
  intro W base args ds gs before hval0 hW hsh hL
  rw [MakeChecks.laidMetH_plain _ _ _ (by kernel_rfl)] at hL
  have hG : YtpcdhoeoefoeoaaGreatDoor.PGA.GW W := ⟨cell_of_shapedOpen_int (g := 0) (t := 3) (zero := #[.int .i64 0]) hsh (of_decide_eq_true (by kernel_rfl)) (by kernel_rfl) rfl (by kernel_rfl) (by kernel_rfl) Tryz.underlying3, RowShaped.tab_of_reads (g := 3) (t := 225) (n := 20) (by kernel_rfl) (by kernel_rfl) (by kernel_rfl) Tryz.underlying225 Tryz.underlying219 (by kernel_rfl) (by kernel_rfl) (Lib.laidMet.reads hL (List.mem_of_getElem? (i := 2) rfl))⟩
  have hval : ∀ (j : Nat) t v, Tryz.f3.params[j]? = some t → args[j]? = some v → Value.okWide Tryz.prog W .any base t v := hval0
  have hW' := hW
  obtain ⟨p, q, hA0, hV, rfl, hfz, hnd⟩ := hW
  have hA : DataW.TrodAll enc Tryz.prog W 0 (fun _ => true) true Tryz.f3.params.toList args.toList ds p := hA0
  rw [Tryz.params3] at hA hval
  obtain ⟨v0, vs0, d0, ds0, p0, q0, hargs, rfl, rfl, h0, r0⟩ := trodAll_cons hA
  obtain ⟨v1, vs1, d1, ds1, p1, q1, rfl, rfl, rfl, h1, r1⟩ := trodAll_cons r0
  obtain ⟨rfl, rfl, rfl⟩ := trodAll_nil r1
  obtain rfl : args = #[v0, v1] := by cases args; simp_all
  obtain ⟨rfl, rfl⟩ := trodVars_none hV
  have k0 := h0
  have lt0 : ∀ x ∈ p0, x.block < W.heap.size := by obtain ⟨m, hm⟩ := k0; exact DataW.trod_lt m _ _ _ hm
  obtain ⟨cs0, x0, rfl, K0, w0⟩ := Open.top_struct Tryz.underlying23 (by kernel_rfl) (hval 0 23 v0 rfl rfl) h0 opn23
  obtain ⟨rfl⟩ := k23_open K0
  have k1 := h1
  have lt1 : ∀ x ∈ p1, x.block < W.heap.size := by obtain ⟨m, hm⟩ := k1; exact DataW.trod_lt m _ _ _ hm
  obtain ⟨cs1, x1, rfl, K1, w1⟩ := Open.top_struct Tryz.underlying26 (by kernel_rfl) (hval 1 26 v1 rfl rfl) h1 opn26
  obtain ⟨A1_3, c1_3, rfl, hc1_3, hr1_3⟩ := k26_open K1
  obtain ⟨k_, hk_⟩ := Pure.FnExactMayTake x0 x1 w0 w1
  clear hA0 hval0
  refine (laws_FnExactMayTake.calls k_ x0.f0 x0.f1 x1.f0 x1.f1 x1.f2 _ _ x1.f3 true W hr1_3 hc1_3 hG hk_).mono fun e W' hpost => ?_
  obtain ⟨he, bel0⟩ := hpost
  have bel : Below W.heap.size W W' := bel0
  subst he
  exact ⟨_, rfl, _, _, _, [], _, [], hW', trodAll_mk1 (shut_bool Tryz.underlying4 _), (trodAll_cons_mk (Below.trod laidOut (by kernel_rfl) (of_decide_eq_true (by kernel_rfl)) k0 bel lt0) (trodAll_cons_mk (Below.trod laidOut (by kernel_rfl) (of_decide_eq_true (by kernel_rfl)) k1 bel lt1) trodAll_mk0)), rfl, bel.frame _, fun h => by cases h⟩
theorem over : Rows.fnExactMayTakeRow.holds Tryz.pinned (OpenSpec.ofChange Rows.fnExactMayTakeSpec) :=
  OpenClaim.holds_of_wide 3 Tryz.f3 rfl rfl rfl rfl rfl rfl rfl ⟨rfl, rfl, rfl, rfl, rfl⟩ rfl rfl rfl rfl rfl (by kernel_rfl) Tryz.func3 (by kernel_rfl)
    (of_decide_eq_true (by kernel_rfl)) (by unfold Func.isWrapper; first | (rw [if_pos (by decide +kernel)]; kernel_rfl) | (rw [if_neg (by decide +kernel)]; exact ⟨rfl, rfl⟩))
    (fun os started H enc _ => lifted os started H enc)
theorem proved : Rows.FnExactMayTakeCardSaid :=
  Claim7.holds_tied_plain_at .later [] [.data, .data, .data, .data, .pinned] true (true, "2b66f8d0cf193cf50620628a545c0c8425c1174512bdfbc66f7a55b1c9f4754d") false over (fun _ h => by cases h) (by kernel_rfl) (fun _ h => by cases h) fnExactMayTake_row_tie rfl ⟨rfl, rfl⟩ (by kernel_rfl) rfl
    (fun f fn hf hfn => by
      obtain rfl : f = 3 := Option.some.inj ((show Tryz.prog.funcNamed Rows.fnExactMayTakeRow.func = some 3 by kernel_rfl).symm.trans hf) |>.symm
      obtain rfl : fn = Tryz.f3 := (Option.some.inj (Tryz.func3.symm.trans hfn)).symm
      exact ⟨by kernel_rfl, fun j t ht => by
        rw [Tryz.params3] at ht
        have hm : t ∈ [23, 26] := by simpa using Array.mem_of_getElem? ht
        have hall : ([23, 26].all fun u => !Tryz.prog.wantsStandIn u) = true := by kernel_rfl
        exact (show Tryz.prog.wantsStandIn t = false by simpa using List.all_eq_true.1 hall t hm)⟩)
    (by kernel_rfl)
#print axioms proved
end Go.Proofs.YtpcdhoeoefoeoaaGreatDoor.fnExactMayTake
namespace Go.Proofs.YtpcdhoeoefoeoaaGreatDoor
/-- The row, under a short name, for the claim. -/
theorem fnExactMayTake_holds : Rows.FnExactMayTakeCardSaid := fnExactMayTake.proved
end Go.Proofs.YtpcdhoeoefoeoaaGreatDoor

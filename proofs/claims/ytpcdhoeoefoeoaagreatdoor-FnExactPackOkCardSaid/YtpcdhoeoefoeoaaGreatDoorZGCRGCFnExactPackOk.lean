/- The law FnExactPackOk holds: for every input that can be read it answers true, and each argument reads behind the call as it read before. -/
import Derived.Test.YtpcdhoeoefoeoaaGreatDoorRows
import Derived.Test.YtpcdhoeoefoeoaaGreatDoorZGCPGCx26
import Derived.Test.YtpcdhoeoefoeoaaGreatDoorZGCSGCFnExactPackOk
import Derived.Test.YtpcdhoeoefoeoaaGreatDoorZGCGCPureFnExactPackOk
import Derived.WalkKit
import Derived.ProofKit
import Derived.OpenShut
import Derived.ShutString
import Derived.ChangeOld
import Derived.Below
import Derived.SizedLaws
import Derived.Test.YtpcdhoeoefoeoaaGreatDoorZGCRowShaped
import Derived.LaidMore
import Derived.Lay
import Derived.Test.YtpcdhoeoefoeoaaGreatDoorTie
import Derived.Test.YtpcdhoeoefoeoaaGreatDoorCards
import Derived.SevenTiedAt
set_option linter.unusedVariables false
set_option linter.unusedSimpArgs false
namespace Go.Proofs.YtpcdhoeoefoeoaaGreatDoor.fnExactPackOk
open Go.ChangeShapes Go.WideShapes Go.ChangeAt Go.RowKit Go.Proofs.YtpcdhoeoefoeoaaGreatDoor.PGC Go.Proofs.YtpcdhoeoefoeoaaGreatDoorW.PrintWords
open Go.ChangeMaps (open_string shut_string)
theorem own : ownKnob Tryz.prog.godebug = none := by kernel_rfl
theorem laidOut : laidOutB Tryz.prog = true := by kernel_rfl
set_option maxRecDepth 100000 in
theorem lifted (os : Os) (started : os.Started) (H : Type) (enc : TypeId × Value → H) :
    ReturnsInHanded {} Tryz.checked os 4 .any (fun w args => (Rows.fnExactPackOkSpec.pre enc Tryz.prog Tryz.f4 Rows.fnExactPackOkRow.domain false w args ∧ laidMetH Tryz.prog Rows.fnExactPackOkRow.laid w) ∧ sizedMet enc Tryz.prog Tryz.f4 (OpenSpec.ofChange Rows.fnExactPackOkSpec) false w args) (Rows.fnExactPackOkSpec.post enc Tryz.prog Tryz.f4 false true false false) := by
  refine RowShaped.returns_and_shaped (C := Tryz.checked) (X := fun w _ => laidMetH Tryz.prog Rows.fnExactPackOkRow.laid w) (fun _ _ _ hh h => h.of_heap hh) own started (by kernel_rfl) Tryz.func4
    (ChangeSpec.witness_shaped (enc := enc) (C := Tryz.checked) (os := os) (X := fun w _ => laidMetH Tryz.prog Rows.fnExactPackOkRow.laid w) false (World.laidAll Tryz.prog os Rows.fnExactPackOkRow.laid) #[((.agg #[(.string ⟨#[]⟩), (.slice none 0 0), (.slice none 0 0), (.slice none 0 0)]))] 8 (World.laidAll_os _ _ _)
      (World.shaped_of_ZipB (by kernel_rfl) (by kernel_rfl)) (by kernel_rfl) (by kernel_rfl) (by kernel_rfl)
      (by rw [MakeChecks.laidMetH_plain _ _ _ (by kernel_rfl)]; exact laidMet_laidAll _ (by kernel_rfl) (by kernel_rfl))) ?_
  intro W base args ds gs before hval0 hW hsh hL
  rw [MakeChecks.laidMetH_plain _ _ _ (by kernel_rfl)] at hL
  have hG : YtpcdhoeoefoeoaaGreatDoor.PGC.GW W := ⟨cell_of_shapedOpen_int (g := 0) (t := 3) (zero := #[.int .i64 0]) hsh (of_decide_eq_true (by kernel_rfl)) (by kernel_rfl) rfl (by kernel_rfl) (by kernel_rfl) Tryz.underlying3, RowShaped.tab_of_reads (g := 3) (t := 225) (n := 20) (by kernel_rfl) (by kernel_rfl) (by kernel_rfl) Tryz.underlying225 Tryz.underlying219 (by kernel_rfl) (by kernel_rfl) (Lib.laidMet.reads hL (List.mem_of_getElem? (i := 2) rfl))⟩
  have hval : ∀ (j : Nat) t v, Tryz.f4.params[j]? = some t → args[j]? = some v → Value.okWide Tryz.prog W .any base t v := hval0
  have hW' := hW
  obtain ⟨p, q, hA0, hV, rfl, hfz, hnd⟩ := hW
  have hA : DataW.TrodAll enc Tryz.prog W 0 (fun _ => true) true Tryz.f4.params.toList args.toList ds p := hA0
  rw [Tryz.params4] at hA hval
  obtain ⟨v0, vs0, d0, ds0, p0, q0, hargs, rfl, rfl, h0, r0⟩ := trodAll_cons hA
  obtain ⟨rfl, rfl, rfl⟩ := trodAll_nil r0
  obtain rfl : args = #[v0] := by cases args; simp_all
  obtain ⟨rfl, rfl⟩ := trodVars_none hV
  have k0 := h0
  have lt0 : ∀ x ∈ p0, x.block < W.heap.size := by obtain ⟨m, hm⟩ := k0; exact DataW.trod_lt m _ _ _ hm
  obtain ⟨cs0, x0, rfl, K0, w0⟩ := Open.top_struct Tryz.underlying39 (by kernel_rfl) (hval 0 39 v0 rfl rfl) h0 opn39
  obtain ⟨A0_1, c0_1, A0_2, c0_2, A0_3, c0_3, rfl, hc0_1, hr0_1, hc0_2, hr0_2, hc0_3, hr0_3⟩ := k39_open K0
  obtain ⟨k_, hk_⟩ := Pure.FnExactPackOk x0 w0
  clear hA0 hval0
  refine (laws_FnExactPackOk.calls k_ x0.f0 _ _ x0.f1 _ _ x0.f2 _ _ x0.f3 true W hr0_1 hc0_1 hr0_2 hc0_2 hr0_3 hc0_3 hG hk_).mono fun e W' hpost => ?_
  obtain ⟨he, bel0⟩ := hpost
  have bel : Below W.heap.size W W' := bel0
  subst he
  exact ⟨_, rfl, _, _, _, [], _, [], hW', trodAll_mk1 (shut_bool Tryz.underlying4 _), (trodAll_cons_mk (Below.trod laidOut (by kernel_rfl) (of_decide_eq_true (by kernel_rfl)) k0 bel lt0) trodAll_mk0), rfl, bel.frame _, fun h => by cases h⟩
theorem over : Rows.fnExactPackOkRow.holds Tryz.pinned (OpenSpec.ofChange Rows.fnExactPackOkSpec) :=
  OpenClaim.holds_of_wide 4 Tryz.f4 rfl rfl rfl rfl rfl rfl rfl ⟨rfl, rfl, rfl, rfl, rfl⟩ rfl rfl rfl rfl rfl (by kernel_rfl) Tryz.func4 (by kernel_rfl)
    (of_decide_eq_true (by kernel_rfl)) (by unfold Func.isWrapper; first | (rw [if_pos (by decide +kernel)]; kernel_rfl) | (rw [if_neg (by decide +kernel)]; exact ⟨rfl, rfl⟩))
    (fun os started H enc _ => lifted os started H enc)
theorem proved : Rows.FnExactPackOkCardSaid :=
  Claim7.holds_tied_plain_at .later [] [.data, .data, .data, .data, .pinned] true (true, "2b66f8d0cf193cf50620628a545c0c8425c1174512bdfbc66f7a55b1c9f4754d") false over (fun _ h => by cases h) (by kernel_rfl) (fun _ h => by cases h) fnExactPackOk_row_tie rfl ⟨rfl, rfl⟩ (by kernel_rfl) rfl
    (fun f fn hf hfn => by
      obtain rfl : f = 4 := Option.some.inj ((show Tryz.prog.funcNamed Rows.fnExactPackOkRow.func = some 4 by kernel_rfl).symm.trans hf) |>.symm
      obtain rfl : fn = Tryz.f4 := (Option.some.inj (Tryz.func4.symm.trans hfn)).symm
      exact ⟨by kernel_rfl, fun j t ht => by
        rw [Tryz.params4] at ht
        have hm : t ∈ [39] := by simpa using Array.mem_of_getElem? ht
        have hall : ([39].all fun u => !Tryz.prog.wantsStandIn u) = true := by kernel_rfl
        exact (show Tryz.prog.wantsStandIn t = false by simpa using List.all_eq_true.1 hall t hm)⟩)
    (by kernel_rfl)
#print axioms proved
end Go.Proofs.YtpcdhoeoefoeoaaGreatDoor.fnExactPackOk
namespace Go.Proofs.YtpcdhoeoefoeoaaGreatDoor
/-- The row, under a short name, for the claim. -/
theorem fnExactPackOk_holds : Rows.FnExactPackOkCardSaid := fnExactPackOk.proved
end Go.Proofs.YtpcdhoeoefoeoaaGreatDoor

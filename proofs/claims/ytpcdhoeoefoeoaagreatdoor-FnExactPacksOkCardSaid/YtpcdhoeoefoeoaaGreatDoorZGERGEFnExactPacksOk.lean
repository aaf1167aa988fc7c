/- The law FnExactPacksOk holds: for every input that can be read it answers true, and each argument reads behind the call as it read before. -/
import Derived.Test.YtpcdhoeoefoeoaaGreatDoorRows
import Derived.Test.YtpcdhoeoefoeoaaGreatDoorZGEPGEx27
import Derived.Test.YtpcdhoeoefoeoaaGreatDoorZGESGEFnExactPacksOk
import Derived.Test.YtpcdhoeoefoeoaaGreatDoorZGEGEPureFnExactPacksOk
import Derived.WalkKit
import Derived.ProofKit
import Derived.OpenShut
import Derived.ShutString
import Derived.ChangeOld
import Derived.Below
import Derived.SizedLaws
import Derived.Test.YtpcdhoeoefoeoaaGreatDoorZGERowShaped
import Derived.LaidMore
import Derived.Lay
import Derived.Test.YtpcdhoeoefoeoaaGreatDoorTie
import Derived.Test.YtpcdhoeoefoeoaaGreatDoorCards
import Derived.SevenTiedAt
set_option linter.unusedVariables false
set_option linter.unusedSimpArgs false
namespace Go.Proofs.YtpcdhoeoefoeoaaGreatDoor.fnExactPacksOk
open Go.ChangeShapes Go.WideShapes Go.ChangeAt Go.RowKit Go.Proofs.YtpcdhoeoefoeoaaGreatDoor.PGE Go.Proofs.YtpcdhoeoefoeoaaGreatDoorW.PrintWords
open Go.ChangeMaps (open_string shut_string)
theorem own : ownKnob Tryz.prog.godebug = none := by kernel_rfl
theorem laidOut : laidOutB Tryz.prog = true := by kernel_rfl
set_option maxRecDepth 100000 in
theorem lifted (os : Os) (started : os.Started) (H : Type) (enc : TypeId × Value → H) :
    ReturnsInHanded {} Tryz.checked os 6 .any (fun w args => (Rows.fnExactPacksOkSpec.pre enc Tryz.prog Tryz.f6 Rows.fnExactPacksOkRow.domain false w args ∧ laidMetH Tryz.prog Rows.fnExactPacksOkRow.laid w) ∧ sizedMet enc Tryz.prog Tryz.f6 (OpenSpec.ofChange Rows.fnExactPacksOkSpec) false w args) (Rows.fnExactPacksOkSpec.post enc Tryz.prog Tryz.f6 false true false false) := by
  refine RowShaped.returns_and_shaped (C := Tryz.checked) (X := fun w _ => laidMetH Tryz.prog Rows.fnExactPacksOkRow.laid w) (fun _ _ _ hh h => h.of_heap hh) own started (by kernel_rfl) Tryz.func6
    (ChangeSpec.witness_shaped (enc := enc) (C := Tryz.checked) (os := os) (X := fun w _ => laidMetH Tryz.prog Rows.fnExactPacksOkRow.laid w) false (World.laidAll Tryz.prog os Rows.fnExactPacksOkRow.laid) #[((.slice none 0 0))] 8 (World.laidAll_os _ _ _)
      (World.shaped_of_ZipB (by kernel_rfl) (by kernel_rfl)) (by kernel_rfl) (by kernel_rfl) (by kernel_rfl)
      (by rw [MakeChecks.laidMetH_plain _ _ _ (by kernel_rfl)]; exact laidMet_laidAll _ (by kernel_rfl) (by kernel_rfl))) ?_
  intro W base args ds gs before hval0 hW hsh hL
  rw [MakeChecks.laidMetH_plain _ _ _ (by kernel_rfl)] at hL
  have hG : YtpcdhoeoefoeoaaGreatDoor.PGE.GW W := ⟨cell_of_shapedOpen_int (g := 0) (t := 3) (zero := #[.int .i64 0]) hsh (of_decide_eq_true (by kernel_rfl)) (by kernel_rfl) rfl (by kernel_rfl) (by kernel_rfl) Tryz.underlying3, RowShaped.tab_of_reads (g := 3) (t := 225) (n := 20) (by kernel_rfl) (by kernel_rfl) (by kernel_rfl) Tryz.underlying225 Tryz.underlying219 (by kernel_rfl) (by kernel_rfl) (Lib.laidMet.reads hL (List.mem_of_getElem? (i := 2) rfl))⟩
  have hval : ∀ (j : Nat) t v, Tryz.f6.params[j]? = some t → args[j]? = some v → Value.okWide Tryz.prog W .any base t v := hval0
  have hW' := hW
  obtain ⟨p, q, hA0, hV, rfl, hfz, hnd⟩ := hW
  have hA : DataW.TrodAll enc Tryz.prog W 0 (fun _ => true) true Tryz.f6.params.toList args.toList ds p := hA0
  rw [Tryz.params6] at hA hval
  obtain ⟨v0, vs0, d0, ds0, p0, q0, hargs, rfl, rfl, h0, r0⟩ := trodAll_cons hA
  obtain ⟨rfl, rfl, rfl⟩ := trodAll_nil r0
  obtain rfl : args = #[v0] := by cases args; simp_all
  obtain ⟨rfl, rfl⟩ := trodVars_none hV
  have k0 := h0
  have lt0 : ∀ x ∈ p0, x.block < W.heap.size := by obtain ⟨m, hm⟩ := k0; exact DataW.trod_lt m _ _ _ hm
  obtain ⟨A0, c0, l0, rfl, hc0, hr0, w0⟩ := Open.top_slice (d := k39) (Ok := (fun xs : List (S39) => xs.length ≤ maxLen ∧ ∀ x ∈ xs, ok39 x)) Tryz.underlying56 (hval 0 56 v0 rfl rfl) h0 (fun m => (Open.Opn.slice (Ok := ok39) Tryz.underlying56 (by kernel_rfl) (fun m' _ => (opn39 m'))))
  obtain ⟨k_, hk_⟩ := Pure.FnExactPacksOk l0 w0
  clear hA0 hval0
  refine (laws_FnExactPacksOk.calls k_ _ _ l0 true W hr0 hc0 hG hk_).mono fun e W' hpost => ?_
  obtain ⟨he, bel0⟩ := hpost
  have bel : Below W.heap.size W W' := bel0
  subst he
  exact ⟨_, rfl, _, _, _, [], _, [], hW', trodAll_mk1 (shut_bool Tryz.underlying4 _), (trodAll_cons_mk (Below.trod laidOut (by kernel_rfl) (of_decide_eq_true (by kernel_rfl)) k0 bel lt0) trodAll_mk0), rfl, bel.frame _, fun h => by cases h⟩
theorem over : Rows.fnExactPacksOkRow.holds Tryz.pinned (OpenSpec.ofChange Rows.fnExactPacksOkSpec) :=
  OpenClaim.holds_of_wide 6 Tryz.f6 rfl rfl rfl rfl rfl rfl rfl ⟨rfl, rfl, rfl, rfl, rfl⟩ rfl rfl rfl rfl rfl (by kernel_rfl) Tryz.func6 (by kernel_rfl)
    (of_decide_eq_true (by kernel_rfl)) (by unfold Func.isWrapper; first | (rw [if_pos (by decide +kernel)]; kernel_rfl) | (rw [if_neg (by decide +kernel)]; exact ⟨rfl, rfl⟩))
    (fun os started H enc _ => lifted os started H enc)
theorem proved : Rows.FnExactPacksOkCardSaid :=
  Claim7.holds_tied_plain_at .later [] [.data, .data, .data, .data, .pinned] true (true, "2b66f8d0cf193cf50620628a545c0c8425c1174512bdfbc66f7a55b1c9f4754d") false over (fun _ h => by cases h) (by kernel_rfl) (fun _ h => by cases h) fnExactPacksOk_row_tie rfl ⟨rfl, rfl⟩ (by kernel_rfl) rfl
    (fun f fn hf hfn => by
      obtain rfl : f = 6 := Option.some.inj ((show Tryz.prog.funcNamed Rows.fnExactPacksOkRow.func = some 6 by kernel_rfl).symm.trans hf) |>.symm
      obtain rfl : fn = Tryz.f6 := (Option.some.inj (Tryz.func6.symm.trans hfn)).symm
      exact ⟨by kernel_rfl, fun j t ht => by
        rw [Tryz.params6] at ht
        have hm : t ∈ [56] := by simpa using Array.mem_of_getElem? ht
        have hall : ([56].all fun u => !Tryz.prog.wantsStandIn u) = true := by kernel_rfl
        exact (show Tryz.prog.wantsStandIn t = false by simpa using List.all_eq_true.1 hall t hm)⟩)
    (by kernel_rfl)
#print axioms proved
end Go.Proofs.YtpcdhoeoefoeoaaGreatDoor.fnExactPacksOk
namespace Go.Proofs.YtpcdhoeoefoeoaaGreatDoor
/-- The row, under a short name, for the claim. -/
theorem fnExactPacksOk_holds : Rows.FnExactPacksOkCardSaid := fnExactPacksOk.proved
end Go.Proofs.YtpcdhoeoefoeoaaGreatDoor

/- The law FnExactPutFile holds: for every input that can be read it answers true, and each argument reads behind the call as it read before. -/
import Derived.Test.YtbaeljcnbkeipaaDoorRows
import Derived.Test.YtbaeljcnbkeipaaDoorZGCPGCx7
import Derived.Test.YtbaeljcnbkeipaaDoorZGCSGCFnExactPutFile
import Derived.Test.YtbaeljcnbkeipaaDoorZGCGCPureFnExactPutFile
import Derived.WalkKit
import Derived.ProofKit
import Derived.OpenShut
import Derived.ShutString
import Derived.ChangeOld
import Derived.Below
import Derived.SizedLaws
import Derived.Test.YtbaeljcnbkeipaaDoorZGCRowShaped
import Derived.LaidMore
import Derived.Lay
import Derived.Test.YtbaeljcnbkeipaaDoorTie
import Derived.Test.YtbaeljcnbkeipaaDoorCards
import Derived.SevenTiedAt
set_option linter.unusedVariables false
set_option linter.unusedSimpArgs false
namespace Go.Proofs.YtbaeljcnbkeipaaDoor.fnExactPutFile
open Go.ChangeShapes Go.WideShapes Go.ChangeAt Go.RowKit Go.Proofs.YtbaeljcnbkeipaaDoor.PGC Go.Proofs.YtbaeljcnbkeipaaDoorW.PrintWords
open Go.ChangeMaps (open_string shut_string)
theorem own : ownKnob Tryd.prog.godebug = none := by kernel_rfl
theorem laidOut : laidOutB Tryd.prog = true := by kernel_rfl
set_option maxRecDepth 100000 in
theorem lifted (os : Os) (started : os.Started) (H : Type) (enc : TypeId × Value → H) :
    ReturnsInHanded {} Tryd.checked os 3 .any (fun w args => (Rows.fnExactPutFileSpec.pre enc Tryd.prog Tryd.f3 Rows.fnExactPutFileRow.domain false w args ∧ laidMetH Tryd.prog Rows.fnExactPutFileRow.laid w) ∧ sizedMet enc Tryd.prog Tryd.f3 (OpenSpec.ofChange Rows.fnExactPutFileSpec) false w args) (Rows.fnExactPutFileSpec.post enc Tryd.prog Tryd.f3 false true false false) := by
  refine RowShaped.returns_and_shaped (C := Tryd.checked) (X := fun w _ => laidMetH Tryd.prog Rows.fnExactPutFileRow.laid w) (fun _ _ _ hh h => h.of_heap hh) own started (by kernel_rfl) Tryd.func3
    (ChangeSpec.witness_shaped (enc := enc) (C := Tryd.checked) (os := os) (X := fun w _ => laidMetH Tryd.prog Rows.fnExactPutFileRow.laid w) false (World.laidAll Tryd.prog os Rows.fnExactPutFileRow.laid) #[((.slice none 0 0)), ((.agg #[(.string ⟨#[]⟩), (.string ⟨#[]⟩)]))] 8 (World.laidAll_os _ _ _)
      (World.shaped_of_ZipB (by kernel_rfl) (by kernel_rfl)) (by kernel_rfl) (by kernel_rfl) (by kernel_rfl)
      (by rw [MakeChecks.laidMetH_plain _ _ _ (by kernel_rfl)]; exact laidMet_laidAll _ (by kernel_rfl) (by kernel_rfl))) ?_
  intro W base args ds gs before hval0 hW hsh hL
  have hG : YtbaeljcnbkeipaaDoor.PGC.GW W := ⟨cell_of_shapedOpen_int (g := 0) (t := 3) (zero := #[.int .i64 0]) hsh (of_decide_eq_true (by kernel_rfl)) (by kernel_rfl) rfl (by kernel_rfl) (by kernel_rfl) Tryd.underlying3⟩
  have hval : ∀ (j : Nat) t v, Tryd.f3.params[j]? = some t → args[j]? = some v → Value.okWide Tryd.prog W .any base t v := hval0
  have hW' := hW
  obtain ⟨p, q, hA0, hV, rfl, hfz, hnd⟩ := hW
  have hA : DataW.TrodAll enc Tryd.prog W 0 (fun _ => true) true Tryd.f3.params.toList args.toList ds p := hA0
  rw [Tryd.params3] at hA hval
  obtain ⟨v0, vs0, d0, ds0, p0, q0, hargs, rfl, rfl, h0, r0⟩ := trodAll_cons hA
  obtain ⟨v1, vs1, d1, ds1, p1, q1, rfl, rfl, rfl, h1, r1⟩ := trodAll_cons r0
  obtain ⟨rfl, rfl, rfl⟩ := trodAll_nil r1
  obtain rfl : args = #[v0, v1] := by cases args; simp_all
  obtain ⟨rfl, rfl⟩ := trodVars_none hV
  have k0 := h0
  have lt0 : ∀ x ∈ p0, x.block < W.heap.size := by obtain ⟨m, hm⟩ := k0; exact DataW.trod_lt m _ _ _ hm
  obtain ⟨A0, c0, l0, rfl, hc0, hr0, w0⟩ := Open.top_slice (d := k24) (Ok := (fun xs : List (S24) => xs.length ≤ maxLen ∧ ∀ x ∈ xs, ok24 x)) Tryd.underlying22 (hval 0 22 v0 rfl rfl) h0 (fun m => (Open.Opn.slice (Ok := ok24) Tryd.underlying22 (by kernel_rfl) (fun m' _ => (opn24 m'))))
  have k1 := h1
  have lt1 : ∀ x ∈ p1, x.block < W.heap.size := by obtain ⟨m, hm⟩ := k1; exact DataW.trod_lt m _ _ _ hm
  obtain ⟨cs1, x1, rfl, K1, w1⟩ := Open.top_struct Tryd.underlying24 (by kernel_rfl) (hval 1 24 v1 rfl rfl) h1 opn24
  obtain ⟨rfl⟩ := k24_open K1
  obtain ⟨k_, hk_⟩ := Pure.FnExactPutFile l0 x1 w0 w1
  clear hA0 hval0
  refine (laws_FnExactPutFile.calls k_ _ _ l0 x1.f0 x1.f1 true W hr0 hc0 hG hk_).mono fun e W' hpost => ?_
  obtain ⟨he, bel0⟩ := hpost
  have bel : Below W.heap.size W W' := bel0
  subst he
  exact ⟨_, rfl, _, _, _, [], _, [], hW', trodAll_mk1 (shut_bool Tryd.underlying4 _), (trodAll_cons_mk (Below.trod laidOut (by kernel_rfl) (of_decide_eq_true (by kernel_rfl)) k0 bel lt0) (trodAll_cons_mk (Below.trod laidOut (by kernel_rfl) (of_decide_eq_true (by kernel_rfl)) k1 bel lt1) trodAll_mk0)), rfl, bel.frame _, fun h => by cases h⟩
theorem over : Rows.fnExactPutFileRow.holds Tryd.pinned (OpenSpec.ofChange Rows.fnExactPutFileSpec) :=
  OpenClaim.holds_of_wide 3 Tryd.f3 rfl rfl rfl rfl rfl rfl rfl ⟨rfl, rfl, rfl, rfl, rfl⟩ rfl rfl rfl rfl rfl (by kernel_rfl) Tryd.func3 (by kernel_rfl)
    (of_decide_eq_true (by kernel_rfl)) (by unfold Func.isWrapper; first | (rw [if_pos (by decide +kernel)]; kernel_rfl) | (rw [if_neg (by decide +kernel)]; exact ⟨rfl, rfl⟩))
    (fun os started H enc _ => lifted os started H enc)
theorem proved : Rows.FnExactPutFileCardSaid :=
  Claim7.holds_tied_plain_at .later [] [.data, .pinned] true (true, "4485060ac566073c50bd7b4e4f734a9141a02691213803d0539b2fef0fe89169") false over (fun _ h => by cases h) (by kernel_rfl) (fun _ h => by cases h) fnExactPutFile_row_tie rfl ⟨rfl, rfl⟩ (by kernel_rfl) rfl
    (fun f fn hf hfn => by
      obtain rfl : f = 3 := Option.some.inj ((show Tryd.prog.funcNamed Rows.fnExactPutFileRow.func = some 3 by kernel_rfl).symm.trans hf) |>.symm
      obtain rfl : fn = Tryd.f3 := (Option.some.inj (Tryd.func3.symm.trans hfn)).symm
      exact ⟨by kernel_rfl, fun j t ht => by
        rw [Tryd.params3] at ht
        have hm : t ∈ [22, 24] := by simpa using Array.mem_of_getElem? ht
        have hall : ([22, 24].all fun u => !Tryd.prog.wantsStandIn u) = true := by kernel_rfl
        exact (show Tryd.prog.wantsStandIn t = false by simpa using List.all_eq_true.1 hall t hm)⟩)
    (by kernel_rfl)
#print axioms proved
end Go.Proofs.YtbaeljcnbkeipaaDoor.fnExactPutFile
namespace Go.Proofs.YtbaeljcnbkeipaaDoor
/-- The row, under a short name, for the claim. -/
theorem fnExactPutFile_holds : Rows.FnExactPutFileCardSaid := fnExactPutFile.proved
end Go.Proofs.YtbaeljcnbkeipaaDoor

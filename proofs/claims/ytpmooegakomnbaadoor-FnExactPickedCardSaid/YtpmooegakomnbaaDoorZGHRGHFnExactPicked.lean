/- The law FnExactPicked holds: for every input that can be read it answers true, and each argument reads behind the call as it read before. -/
import Derived.Test.YtpmooegakomnbaaDoorRows
import Derived.Test.YtpmooegakomnbaaDoorZGHPGHx13
import Derived.Test.YtpmooegakomnbaaDoorZGHSGHFnExactPicked
import Derived.Test.YtpmooegakomnbaaDoorZGHGHPureFnExactPicked
import Derived.WalkKit
import Derived.ProofKit
import Derived.OpenShut
import Derived.ShutString
import Derived.ChangeOld
import Derived.Below
import Derived.SizedLaws
import Derived.Test.YtpmooegakomnbaaDoorZGHRowShaped
import Derived.LaidMore
import Derived.Lay
import Derived.Test.YtpmooegakomnbaaDoorTie
import Derived.Test.YtpmooegakomnbaaDoorCards
import Derived.SevenTiedAt
set_option linter.unusedVariables false
set_option linter.unusedSimpArgs false
namespace Go.Proofs.YtpmooegakomnbaaDoor.fnExactPicked
open Go.ChangeShapes Go.WideShapes Go.ChangeAt Go.RowKit Go.Proofs.YtpmooegakomnbaaDoor.PGH Go.Proofs.YtpmooegakomnbaaDoorW.PrintWords
open Go.ChangeMaps (open_string shut_string)
theorem own : ownKnob Tryd.prog.godebug = none := by kernel_rfl
theorem laidOut : laidOutB Tryd.prog = true := by kernel_rfl
set_option maxRecDepth 100000 in
theorem lifted (os : Os) (started : os.Started) (H : Type) (enc : TypeId × Value → H) :
    ReturnsInHanded {} Tryd.checked os 10 .any (fun w args => (Rows.fnExactPickedSpec.pre enc Tryd.prog Tryd.f10 Rows.fnExactPickedRow.domain false w args ∧ laidMetH Tryd.prog Rows.fnExactPickedRow.laid w) ∧ sizedMet enc Tryd.prog Tryd.f10 (OpenSpec.ofChange Rows.fnExactPickedSpec) false w args) (Rows.fnExactPickedSpec.post enc Tryd.prog Tryd.f10 false true false false) := by
  refine RowShaped.returns_and_shaped (C := Tryd.checked) (X := fun w _ => laidMetH Tryd.prog Rows.fnExactPickedRow.laid w) (fun _ _ _ hh h => h.of_heap hh) own started (by kernel_rfl) Tryd.func10
    (ChangeSpec.witness_shaped (enc := enc) (C := Tryd.checked) (os := os) (X := fun w _ => laidMetH Tryd.prog Rows.fnExactPickedRow.laid w) false (World.laidAll Tryd.prog os Rows.fnExactPickedRow.laid) #[((.slice none 0 0)), ((.slice none 0 0))] 8 (World.laidAll_os _ _ _)
      (World.shaped_of_ZipB (by kernel_rfl) (by kernel_rfl)) (by kernel_rfl) (by kernel_rfl) (by kernel_rfl)
      (by rw [MakeChecks.laidMetH_plain _ _ _ (by kernel_rfl)]; exact laidMet_laidAll _ (by kernel_rfl) (by kernel_rfl))) ?_
  intro W base args ds gs before hval0 hW hsh hL
  have hG : YtpmooegakomnbaaDoor.PGH.GW W := ⟨cell_of_shapedOpen_int (g := 0) (t := 3) (zero := #[.int .i64 0]) hsh (of_decide_eq_true (by kernel_rfl)) (by kernel_rfl) rfl (by kernel_rfl) (by kernel_rfl) Tryd.underlying3⟩
  have hval : ∀ (j : Nat) t v, Tryd.f10.params[j]? = some t → args[j]? = some v → Value.okWide Tryd.prog W .any base t v := hval0
  have hW' := hW
  obtain ⟨p, q, hA0, hV, rfl, hfz, hnd⟩ := hW
  have hA : DataW.TrodAll enc Tryd.prog W 0 (fun _ => true) true Tryd.f10.params.toList args.toList ds p := hA0
  rw [Tryd.params10] at hA hval
  obtain ⟨v0, vs0, d0, ds0, p0, q0, hargs, rfl, rfl, h0, r0⟩ := trodAll_cons hA
  obtain ⟨v1, vs1, d1, ds1, p1, q1, rfl, rfl, rfl, h1, r1⟩ := trodAll_cons r0
  obtain ⟨rfl, rfl, rfl⟩ := trodAll_nil r1
  obtain rfl : args = #[v0, v1] := by cases args; simp_all
  obtain ⟨rfl, rfl⟩ := trodVars_none hV
  have k0 := h0
  have lt0 : ∀ x ∈ p0, x.block < W.heap.size := by obtain ⟨m, hm⟩ := k0; exact DataW.trod_lt m _ _ _ hm
  obtain ⟨A0, c0, l0, rfl, hc0, hr0, w0⟩ := Open.top_slice (d := k41) (Ok := (fun xs : List (S41) => xs.length ≤ maxLen ∧ ∀ x ∈ xs, ok41 x)) Tryd.underlying28 (hval 0 28 v0 rfl rfl) h0 (fun m => (Open.Opn.slice (Ok := ok41) Tryd.underlying28 (by kernel_rfl) (fun m' _ => (opn41 m'))))
  have k1 := h1
  have lt1 : ∀ x ∈ p1, x.block < W.heap.size := by obtain ⟨m, hm⟩ := k1; exact DataW.trod_lt m _ _ _ hm
  obtain ⟨A1, c1, l1, rfl, hc1, hr1, w1⟩ := Open.top_slice (d := Kd.string) (Ok := (fun xs : List ByteArray => xs.length ≤ maxLen ∧ ∀ x ∈ xs, (fun s : ByteArray => s.size ≤ maxLen) x)) Tryd.underlying22 (hval 1 22 v1 rfl rfl) h1 (fun m => (Open.Opn.slice (Ok := (fun s : ByteArray => s.size ≤ maxLen)) Tryd.underlying22 (by kernel_rfl) (fun m' _ => (Open.Opn.string Tryd.underlying9))))
  obtain ⟨k_, hk_⟩ := Pure.FnExactPicked l0 l1 w0 w1
  clear hA0 hval0
  refine (laws_FnExactPicked.calls k_ _ _ l0 _ _ l1 true W hr0 hc0 hr1 hc1 hG hk_).mono fun e W' hpost => ?_
  obtain ⟨he, bel0⟩ := hpost
  have bel : Below W.heap.size W W' := bel0
  subst he
  exact ⟨_, rfl, _, _, _, [], _, [], hW', trodAll_mk1 (shut_bool Tryd.underlying4 _), (trodAll_cons_mk (Below.trod laidOut (by kernel_rfl) (of_decide_eq_true (by kernel_rfl)) k0 bel lt0) (trodAll_cons_mk (Below.trod laidOut (by kernel_rfl) (of_decide_eq_true (by kernel_rfl)) k1 bel lt1) trodAll_mk0)), rfl, bel.frame _, fun h => by cases h⟩
theorem over : Rows.fnExactPickedRow.holds Tryd.pinned (OpenSpec.ofChange Rows.fnExactPickedSpec) :=
  OpenClaim.holds_of_wide 10 Tryd.f10 rfl rfl rfl rfl rfl rfl rfl ⟨rfl, rfl, rfl, rfl, rfl⟩ rfl rfl rfl rfl rfl (by kernel_rfl) Tryd.func10 (by kernel_rfl)
    (of_decide_eq_true (by kernel_rfl)) (by unfold Func.isWrapper; first | (rw [if_pos (by decide +kernel)]; kernel_rfl) | (rw [if_neg (by decide +kernel)]; exact ⟨rfl, rfl⟩))
    (fun os started H enc _ => lifted os started H enc)
theorem proved : Rows.FnExactPickedCardSaid :=
  Claim7.holds_tied_plain_at .later [] [.data, .pinned] true (true, "2fdff3f8feaf168524c75cb79cd0734b3662f270b3319839c72408a237fefed3") false over (fun _ h => by cases h) (by kernel_rfl) (fun _ h => by cases h) fnExactPicked_row_tie rfl ⟨rfl, rfl⟩ (by kernel_rfl) rfl
    (fun f fn hf hfn => by
      obtain rfl : f = 10 := Option.some.inj ((show Tryd.prog.funcNamed Rows.fnExactPickedRow.func = some 10 by kernel_rfl).symm.trans hf) |>.symm
      obtain rfl : fn = Tryd.f10 := (Option.some.inj (Tryd.func10.symm.trans hfn)).symm
      exact ⟨by kernel_rfl, fun j t ht => by
        rw [Tryd.params10] at ht
        have hm : t ∈ [28, 22] := by simpa using Array.mem_of_getElem? ht
        have hall : ([28, 22].all fun u => !Tryd.prog.wantsStandIn u) = true := by kernel_rfl
        exact (show Tryd.prog.wantsStandIn t = false by simpa using List.all_eq_true.1 hall t hm)⟩)
    (by kernel_rfl)
#print axioms proved
end Go.Proofs.YtpmooegakomnbaaDoor.fnExactPicked
namespace Go.Proofs.YtpmooegakomnbaaDoor
/-- The row, under a short name, for the claim. -/
theorem fnExactPicked_holds : Rows.FnExactPickedCardSaid := fnExactPicked.proved
end Go.Proofs.YtpmooegakomnbaaDoor

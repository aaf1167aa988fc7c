/- The law FnExactParseRange holds: for every input that can be read it answers true, and each argument reads behind the call as it read before. -/
import Derived.Test.YtglhniiabhknoaaGreatDoorRows
import Derived.Test.YtglhniiabhknoaaGreatDoorZGCPGCx19
import Derived.Test.YtglhniiabhknoaaGreatDoorZGCSGCFnExactParseRange
import Derived.Test.YtglhniiabhknoaaGreatDoorZGCGCPureFnExactParseRange
import Derived.WalkKit
import Derived.ProofKit
import Derived.OpenShut
import Derived.ShutString
import Derived.ChangeOld
import Derived.Below
import Derived.SizedLaws
import Derived.Test.YtglhniiabhknoaaGreatDoorZGCRowShaped
import Derived.LaidMore
import Derived.Lay
import Derived.Test.YtglhniiabhknoaaGreatDoorTie
import Derived.Test.YtglhniiabhknoaaGreatDoorCards
import Derived.SevenTiedAt
set_option linter.unusedVariables false
set_option linter.unusedSimpArgs false
namespace Go.Proofs.YtglhniiabhknoaaGreatDoor.fnExactParseRange
open Go.ChangeShapes Go.WideShapes Go.ChangeAt Go.RowKit Go.Proofs.YtglhniiabhknoaaGreatDoor.PGC Go.Proofs.YtglhniiabhknoaaGreatDoorW.PrintWords
open Go.ChangeMaps (open_string shut_string)
theorem own:ownKnob Tryz.prog.godebug=none:=by kernel_rfl
theorem laidOut:laidOutB Tryz.prog=true:=by kernel_rfl
set_option maxRecDepth 100000 in
theorem lifted (os:Os) (started:os.Started) (H:Type) (enc:TypeId × Value→H) :
    ReturnsInHanded {} Tryz.checked os 5 .any (fun w args=>(Rows.fnExactParseRangeSpec.pre enc Tryz.prog Tryz.f5 Rows.fnExactParseRangeRow.domain false w args∧laidMetH Tryz.prog Rows.fnExactParseRangeRow.laid w)∧sizedMet enc Tryz.prog Tryz.f5 (OpenSpec.ofChange Rows.fnExactParseRangeSpec) false w args) (Rows.fnExactParseRangeSpec.post enc Tryz.prog Tryz.f5 false true false false):=by
  refine RowShaped.returns_and_shaped (C:=Tryz.checked) (X:=fun w _=>laidMetH Tryz.prog Rows.fnExactParseRangeRow.laid w) (fun _ _ _ hh h=>h.of_heap hh) own started (by kernel_rfl) Tryz.func5
    (ChangeSpec.witness_shaped (enc:=enc) (C:=Tryz.checked) (os:=os) (X:=fun w _=>laidMetH Tryz.prog Rows.fnExactParseRangeRow.laid w) false (World.laidAll Tryz.prog os Rows.fnExactParseRangeRow.laid) #[((.string ⟨#[]⟩))] 8 (World.laidAll_os _ _ _)
      (World.shaped_of_ZipB (by kernel_rfl) (by kernel_rfl)) (by kernel_rfl) (by kernel_rfl) (by kernel_rfl)
      (by rw[MakeChecks.laidMetH_plain _ _ _ (by kernel_rfl)];exact laidMet_laidAll _ (by kernel_rfl) (by kernel_rfl))) ?_
  intro W base args ds gs before hval0 hW hsh hL;rw[MakeChecks.laidMetH_plain _ _ _ (by kernel_rfl)] at hL;have hG:YtglhniiabhknoaaGreatDoor.PGC.GW W:=⟨cell_of_shapedOpen_int (g:=0) (t:=3) (zero:=#[.int .i64 0]) hsh (of_decide_eq_true (by kernel_rfl)) (by kernel_rfl) rfl (by kernel_rfl) (by kernel_rfl) Tryz.underlying3,RowShaped.tab_of_reads (g:=3) (t:=196) (n:=20) (by kernel_rfl) (by kernel_rfl) (by kernel_rfl) Tryz.underlying196 Tryz.underlying190 (by kernel_rfl) (by kernel_rfl) (Lib.laidMet.reads hL (List.mem_of_getElem? (i:=2) rfl))⟩;have hval:∀ (j:Nat) t v,Tryz.f5.params[j]?=some t→args[j]?=some v→Value.okWide Tryz.prog W .any base t v:=hval0;have hW':=hW;obtain⟨p,q,hA0,hV,rfl,hfz,hnd⟩:=hW;have hA:DataW.TrodAll enc Tryz.prog W 0 (fun _=>true) true Tryz.f5.params.toList args.toList ds p:=hA0;rw[Tryz.params5] at hA hval;obtain⟨v0,vs0,d0,ds0,p0,q0,hargs,rfl,rfl,h0,r0⟩:=trodAll_cons hA;obtain⟨rfl,rfl,rfl⟩:=trodAll_nil r0;obtain rfl:args = #[v0]:=by cases args;simp_all
  obtain⟨rfl,rfl⟩:=trodVars_none hV;obtain⟨a0,rfl,rfl,rfl,w0⟩:=open_string Tryz.underlying9 (hval 0 9 v0 rfl rfl) h0;obtain⟨k_,hk_⟩:=Pure.FnExactParseRange a0 w0;clear hA0 hval0;refine(laws_FnExactParseRange.calls k_ a0 true W hG hk_).mono fun e W' hpost=>?_;obtain⟨he,bel0⟩:=hpost;have bel:Below W.heap.size W W':=bel0;subst he;exact⟨_,rfl,_,_,_,[],_,[],hW',trodAll_mk1 (shut_bool Tryz.underlying4 _),(trodAll_cons_mk (shut_string Tryz.underlying9 w0) trodAll_mk0),rfl,bel.frame _,fun h=>by cases h⟩
theorem over:Rows.fnExactParseRangeRow.holds Tryz.pinned (OpenSpec.ofChange Rows.fnExactParseRangeSpec):=
  OpenClaim.holds_of_wide 5 Tryz.f5 rfl rfl rfl rfl rfl rfl rfl ⟨rfl,rfl,rfl,rfl,rfl⟩ rfl rfl rfl rfl rfl (by kernel_rfl) Tryz.func5 (by kernel_rfl)
    (of_decide_eq_true (by kernel_rfl)) (by unfold Func.isWrapper;first|(rw[if_pos (by decide +kernel)];kernel_rfl)|(rw[if_neg (by decide +kernel)];exact⟨rfl,rfl⟩))
    (fun os started H enc _=>lifted os started H enc)
theorem proved:Rows.FnExactParseRangeCardSaid:=
  Claim7.holds_tied_plain_at .later [] [.data,.data,.data,.data,.pinned] true (true, "a28f38fe121e6148c785564c247fb279889ee938b6e73b8e4a0c375a56aec2f7") false over (fun _ h=>by cases h) (by kernel_rfl) (fun _ h=>by cases h) fnExactParseRange_row_tie rfl ⟨rfl,rfl⟩ (by kernel_rfl) rfl
    (fun f fn hf hfn=>by
      obtain rfl:f=5:=Option.some.inj ((show Tryz.prog.funcNamed Rows.fnExactParseRangeRow.func=some 5 by kernel_rfl).symm.trans hf) |>.symm
      obtain rfl:fn=Tryz.f5:=(Option.some.inj (Tryz.func5.symm.trans hfn)).symm
      exact⟨by kernel_rfl,fun j t ht=>by
        rw[Tryz.params5] at ht
        have hm:t∈[9]:=by simpa using Array.mem_of_getElem? ht
        have hall:([9].all fun u=>!Tryz.prog.wantsStandIn u)=true:=by kernel_rfl
        exact(show Tryz.prog.wantsStandIn t=false by simpa using List.all_eq_true.1 hall t hm)⟩)
    (by kernel_rfl)
#print axioms proved
end Go.Proofs.YtglhniiabhknoaaGreatDoor.fnExactParseRange
namespace Go.Proofs.YtglhniiabhknoaaGreatDoor
/-- The row, under a short name, for the claim. -/
theorem fnExactParseRange_holds:Rows.FnExactParseRangeCardSaid:=fnExactParseRange.proved
end Go.Proofs.YtglhniiabhknoaaGreatDoor

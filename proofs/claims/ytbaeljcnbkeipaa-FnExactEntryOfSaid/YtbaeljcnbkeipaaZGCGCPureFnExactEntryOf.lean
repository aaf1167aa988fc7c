/- What the functions come to. -/
import Derived.Test.YtbaeljcnbkeipaaZGCGCPureAllFnExactEntryOf
import Derived.Test.YtbaeljcnbkeipaaZGCSGCFnExactEntryOf
set_option linter.unusedVariables false
set_option linter.unusedSimpArgs false
namespace Go.Proofs.Ytbaeljcnbkeipaa.Pure
open Go.RowKit Go.Proofs.Ytbaeljcnbkeipaa.PGC Go.Proofs.YtbaeljcnbkeipaaW.PrintWords Go.Proofs.YtbaeljcnbkeipaaW.PrintLast Go.Proofs.Ytbaeljcnbkeipaa.Aux
theorem FnExactEntryOf : laws_FnExactEntryOf.Pure2 := by
 intro l a v hl ha hv
 refine Ev.get ?_
 unfold laws_FnExactEntryOf.f
 refine Ev.cond (fun _ => Ev.some) fun hA => ?_
 refine Ev.succ ?_
 simp only [laws_FnExactEntryOf.j0]
 refine Ev.bind (szEntryS l _ hl (by omega) (by omega)) ?_
 have hn := needEntryS_nonneg l
 by_cases h1 : (l.length : Int) + needEntryS l ≤ 1048576
 ·rw [left_pos h1]
  refine Ev.noE (by omega) ?_
  refine Ev.succ ?_
  simp only [laws_FnExactEntryOf.j1]
  refine Ev.bind (szVer v _ hv (by omega) (by omega)) ?_
  have hm := needVer_nonneg v
  by_cases h2 : needVer v ≤ 1048576 - ((l.length : Int) + needEntryS l)
  ·rw [left_pos h2]
   refine Ev.noE (by omega) ?_
   have hvn : needVer v ≤ 1048576 := by omega
   have hfit := fit_convEntryS l h1
   have hfv := fit_convVer v hvn
   have hll : (l.map convEntry).length ≤ 1048576 := by rw [List.length_map]; omega
   have hsz : ∀ x ∈ l.map convEntry, x.f1.f3.length ≤ 1048576 ∧ x.f2.length ≤ 1048576 := fun x hx => by
    obtain ⟨u, hu, rfl⟩ := List.mem_map.1 hx
    have g1 := needEntry_mem hu
    have g2 := szT_nonneg u.f1.f3
    have g3 := needNeedS_nonneg u.f2
    simp only [needEntry, needVer, szL] at g1
    simp only [convEntry, convVer, List.length_map]
    omega
   have hvl : v.f3.length ≤ 1048576 := by
    have g2 := szT_nonneg v.f3
    simp only [needVer, szL] at hvn
    omega
   have hsp := spec_ent (l.map convEntry) a (convVer v) hll hsz
   have him := impl_ent (l.map convEntry) a (convVer v) hll hsz
   generalize hE : entM (l.map convEntry) a (convVer v) = E at hsp him
   have hfE : fitEntry E.1 := hE ▸ entM_mem (l.map convEntry) a (convVer v) fitEntry ⟨by show (0 : Nat) ≤ _; omega, by show (0 : Nat) ≤ _; omega, fun z hz => absurd hz (List.not_mem_nil)⟩ hfit.2
   have hlE : E.1.f1.f3.length ≤ 1048576 ∧ E.1.f2.length ≤ 1048576 := hE ▸ entM_mem (l.map convEntry) a (convVer v) (fun x => x.f1.f3.length ≤ 1048576 ∧ x.f2.length ≤ 1048576) ⟨by show (0 : Nat) ≤ _; omega, by show (0 : Nat) ≤ _; omega⟩ hsz
   clear hE
   have heq := eqEntry E.1 hfE
   obtain ⟨y, hy, y1, y2⟩ := markEntryS l h1
   refine Ev.succ ?_
   simp only [laws_FnExactEntryOf.j2]
   refine Ev.bind (toEntryS l h1) (Ev.bind (toVer v hvn) (Ev.bind hsp (Ev.bind (toEntryS l h1) (Ev.bind (toVer v hvn) (Ev.bind him (Ev.bind heq ?_))))))
   simp only [if_true, bne_self_eq_false]
   refine Ev.succ ?_
   simp only [laws_FnExactEntryOf.j3, Bool.false_eq_true, if_false]
   refine Ev.succ ?_
   simp only [laws_FnExactEntryOf.j4]
   refine Ev.bind (toEntryS l h1) (Ev.bind (eqEntryS _ hfit) ?_)
   simp only [if_true]
   refine Ev.succ ?_
   simp only [laws_FnExactEntryOf.j5]
   refine Ev.bind (toVer v hvn) (Ev.bind (eqVer _ hfv) ?_)
   simp only [if_true]
   refine Ev.succ ?_
   simp only [laws_FnExactEntryOf.j6]
   refine Ev.bind hy (Ev.bind (markVer _ _ _ (convVer v).f3 y.1 (by omega) (by show y.1 + (v.f3.length : Int) ≤ _; omega)) ?_)
   refine Ev.noE (by simp only; omega) ?_
   refine Ev.bind heq ?_
   simp only [if_true, bne_self_eq_false]
   refine Ev.succ ?_
   simp only [laws_FnExactEntryOf.j7, Bool.false_eq_true, if_false]
   refine Ev.succ ?_
   simp only [laws_FnExactEntryOf.j8]
   refine Ev.bind (markEntry _ _ _ _ E.1.f1.f3 E.1.f2 1 (by omega) (by omega)) (Ev.bind (heldEntry _ _ _ _ _ _ 1 (by omega) (by omega)) ?_)
   refine Ev.noE (by omega) ?_
   refine Ev.succ ?_
   simp only [laws_FnExactEntryOf.j9, if_true]
   refine Ev.succ ?_
   simp only [laws_FnExactEntryOf.j10]
   refine Ev.bind (toEntryS l h1) (Ev.bind (toVer v hvn) (Ev.bind him (Ev.bind heq ?_)))
   simp only [if_true, bne_self_eq_false]
   refine Ev.succ ?_
   simp only [laws_FnExactEntryOf.j11, Bool.false_eq_true, if_false]
   refine Ev.succ ?_
   simp only [laws_FnExactEntryOf.j12]
   refine Ev.bind (heldEntry _ _ _ _ _ _ 1 (by omega) (by omega)) ?_
   refine Ev.noE (by omega) ?_
   simp only [if_true]
   exact Ev.some
  ·rw [left_not h2]
   exact Ev.some
 ·rw [left_not h1]
  exact Ev.some
end Go.Proofs.Ytbaeljcnbkeipaa.Pure

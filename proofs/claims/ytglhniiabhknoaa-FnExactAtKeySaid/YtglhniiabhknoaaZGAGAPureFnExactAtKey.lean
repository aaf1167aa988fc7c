/- What the functions come to. -/
import Derived.Test.YtglhniiabhknoaaZGAGAPureAllFnExactAtKey
import Derived.Test.YtglhniiabhknoaaZGASGAFnExactAtKey
set_option linter.unusedVariables false
set_option linter.unusedSimpArgs false
namespace Go.Proofs.Ytglhniiabhknoaa.Pure
open Go.RowKit Go.Proofs.Ytglhniiabhknoaa.PGA Go.Proofs.YtglhniiabhknoaaW.PrintWords Go.Proofs.YtglhniiabhknoaaW.PrintLast Go.Proofs.Ytglhniiabhknoaa.Aux
theorem FnExactAtKey : laws_FnExactAtKey.Pure2 := by
 intro x key hx hkey
 have hnx := needVal_nonneg x
 refine Ev.get ?_
 unfold laws_FnExactAtKey.f
 refine Ev.cond (fun _ => Ev.some) fun hA => ?_
 refine Ev.succ ?_
 simp only [laws_FnExactAtKey.j0]
 refine Ev.bind (szVal x hx _ (by omega) (by omega)) ?_
 by_cases h1 : needVal x ≤ 1048576
 ·rw [left_pos h1]
  refine Ev.noV (by omega) ?_
  have tx := toVal x hx h1
  have hsm := small_conv x hx h1
  have hfx := fit_convVal x hx
  have hsp := spec_at (convVal x) key hsm
  have him := impl_at (convVal x) key hsm
  have hcx := ctR_conv x
  have hcn := ctR_nonneg (convVal x)
  have hb : ∀ z ∈ (convVal x).f3, fitVal z ∧ ctR z ≤ 4194304 := by
   intro z hz
   rw [convVal_eq] at hz
   obtain ⟨y, hy, rfl⟩ := List.mem_map.1 hz
   have g1 := needVal_mem hy
   have g2 := ctR_conv y
   have g3 := szL_nonneg x.f4
   rw [needVal_eq] at h1
   cases hx with
   | mk _ o0 o1 o2 o3 g3' o4 g4 => exact ⟨fit_convVal y (g3' y hy), by omega⟩
  generalize hE : atM (convVal x) key = E at hsp him
  have hfE : fitVal E.1 := hE ▸ atM_mem (convVal x) key fitVal (fitVal.mk _ (Nat.zero_le _) (fun z hz => absurd hz (List.not_mem_nil)) (Nat.zero_le _) (fun z hz => absurd hz (List.not_mem_nil)) (Nat.zero_le _)) (fun z hz => (hb z hz).1)
  have hcE : ctR E.1 ≤ 4194304 := hE ▸ atM_mem (convVal x) key (fun z => ctR z ≤ 4194304) (by show ctVS [] + ((0 : Nat) : Int) ≤ _; rw [ctVS]; decide) (fun z hz => (hb z hz).2)
  have hnE := ctR_nonneg E.1
  clear hE hb
  have heq := eqVal E.1 hfE
  refine Ev.succ ?_
  simp only [laws_FnExactAtKey.j1]
  refine Ev.bind tx (Ev.bind hsp (Ev.bind tx (Ev.bind him (Ev.bind heq ?_))))
  simp only [if_true, bne_self_eq_false]
  refine Ev.succ ?_
  simp only [laws_FnExactAtKey.j2, Bool.false_eq_true, if_false]
  refine Ev.succ ?_
  simp only [laws_FnExactAtKey.j3]
  refine Ev.bind tx (Ev.bind (eqVal _ hfx) ?_)
  simp only [if_true]
  refine Ev.succ ?_
  simp only [laws_FnExactAtKey.j4]
  refine Ev.bind (markVal (convVal x) _ _ _ 1 (by omega) (by omega)) ?_
  refine Ev.noV (by simp only; omega) ?_
  refine Ev.bind heq ?_
  simp only [if_true, bne_self_eq_false]
  refine Ev.succ ?_
  simp only [laws_FnExactAtKey.j5, Bool.false_eq_true, if_false]
  refine Ev.succ ?_
  simp only [laws_FnExactAtKey.j6]
  refine Ev.bind (markVal E.1 _ _ _ 1 (by omega) (by omega)) (Ev.bind (heldVal E.1 hfE _ _ _ 1 (by omega) (by omega)) ?_)
  refine Ev.noV (by omega) ?_
  refine Ev.succ ?_
  simp only [laws_FnExactAtKey.j7, if_true]
  refine Ev.succ ?_
  simp only [laws_FnExactAtKey.j8]
  refine Ev.bind tx (Ev.bind him (Ev.bind heq ?_))
  simp only [if_true, bne_self_eq_false]
  refine Ev.succ ?_
  simp only [laws_FnExactAtKey.j9, Bool.false_eq_true, if_false]
  refine Ev.succ ?_
  simp only [laws_FnExactAtKey.j10]
  refine Ev.bind (heldVal E.1 hfE _ _ _ 1 (by omega) (by omega)) ?_
  refine Ev.noV (by omega) ?_
  simp only [if_true]
  exact Ev.some
 ·rw [left_not h1]
  exact Ev.some
end Go.Proofs.Ytglhniiabhknoaa.Pure

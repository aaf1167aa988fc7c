/- What the laws' helpers over values of the type Ver come to. -/
import Derived.Test.YtfbbagddhfeefaaZGCGCPureStr
import Derived.Test.YtfbbagddhfeefaaZGCOGC
import Derived.Test.YtfbbagddhfeefaaZGCPGCx1
import Derived.Test.YtfbbagddhfeefaaZGCPGCx2
set_option linter.unusedVariables false
set_option linter.unusedSimpArgs false
namespace Go.Proofs.Ytfbbagddhfeefaa.Pure
open Go.RowKit Go.Proofs.Ytfbbagddhfeefaa.PGC Go.Proofs.YtfbbagddhfeefaaW.PrintWords Go.Proofs.YtfbbagddhfeefaaW.PrintLast Go.Proofs.Ytfbbagddhfeefaa.Aux

def needVer (x : S24) : Int := szL x.f3
theorem needVer_nonneg (x : S24) : 0 ≤ needVer x := by
  have n3 := szL_nonneg x.f3
  unfold needVer; omega
def needVerS : List S24 → Int
  | [] => 0
  | x :: r => needVer x + needVerS r
theorem needVerS_nonneg : ∀ l : List S24, 0 ≤ needVerS l
  | [] => by simp [needVerS]
  | x :: r => by have := needVer_nonneg x; have := needVerS_nonneg r; simp only [needVerS]; omega
theorem needVer_mem : ∀ {l : List S24} {x : S24}, x ∈ l → needVer x ≤ needVerS l
  | y :: r, x, h => by
    have h1 := needVer_nonneg y
    have h2 := needVerS_nonneg r
    simp only [needVerS]
    rcases List.mem_cons.1 h with e | h
    · rw [e]; omega
    · have := needVer_mem h; omega
theorem szVer (x : S24) (a : Int) (ho : ok24 x) (h0 : 0 ≤ a) (ha : a ≤ 9223372036854775807) : Ev (fun k => laws_szVer.f k x.f0 x.f1 x.f2 x.f3 a) (left (needVer x) a) := by
  obtain ⟨o0, o1, o2, o3⟩ := ho
  unfold laws_szVer.f needVer
  have n3 := szL_nonneg x.f3
  skip
  refine Ev.bind (szStringS x.f3 a (by have := o3.1; unfold maxLen at this; omega) (fun z hz => by have := o3.2 z hz; unfold maxLen at this; omega) (by omega) (by omega)) ?_
  by_cases h3 : szL x.f3 ≤ a
  case neg => rw [left_not h3]; first | exact Ev.some | exact Ev.cast Ev.some (left_not (by omega)).symm
  rw [left_pos h3]
  simp only [show ¬ a - szL x.f3 < 0 by omega, if_false]
  skip
  refine Ev.cast Ev.some ?_
  first | rfl | (rw [left_pos (by omega)]; omega)
def convVer (x : S24) : S27 := ⟨x.f0, x.f1, x.f2, x.f3⟩
theorem toVer (x : S24) (hn : needVer x ≤ 1048576) : Ev (fun k => laws_toVer.f k x.f0 x.f1 x.f2 x.f3) ((convVer x).f0, (convVer x).f1, (convVer x).f2, (convVer x).f3) := by
  unfold needVer at hn
  have n3 := szL_nonneg x.f3
  unfold laws_toVer.f
  skip
  refine Ev.bind (toStringS x.f3 (by have := szT_nonneg x.f3; unfold szL at *; omega)) ?_
  skip
  exact Ev.some
/-- Its slices are no longer than a number of Go's tells. -/
def fitVer (y : S27) : Prop := y.f3.length ≤ 9223372036854775807
theorem fit_convVer (x : S24) (hn : needVer x ≤ 1048576) : fitVer (convVer x) := by
  unfold needVer at hn
  have n3 := szL_nonneg x.f3
  exact (show x.f3.length ≤ 9223372036854775807 from by have := szT_nonneg x.f3; unfold szL at *; omega)
theorem eqVer (y : S27) (hf : fitVer y) : Ev (fun k => laws_eqVer.f k y.f0 y.f1 y.f2 y.f3 y.f0 y.f1 y.f2 y.f3) true := by
  unfold laws_eqVer.f
  have m3 := hf
  first | (refine Ev.succ (g := fun k => laws_eqVer.j0 k _ _ _ _ _ _ _ _) ?_; simp only [laws_eqVer.j0]) | (refine Ev.succ (g := fun k => laws_eqVer.j1 k _ _ _ _ _ _ _ _) ?_; simp only [laws_eqVer.j1]) | skip
  first | simp only [if_true] | skip
  first | (refine Ev.succ (g := fun k => laws_eqVer.j0 k _ _ _ _ _ _ _ _) ?_; simp only [laws_eqVer.j0]) | (refine Ev.succ (g := fun k => laws_eqVer.j1 k _ _ _ _ _ _ _ _) ?_; simp only [laws_eqVer.j1]) | skip
  first | simp only [if_true] | skip
  first | (refine Ev.succ (g := fun k => laws_eqVer.j0 k _ _ _ _ _ _ _ _) ?_; simp only [laws_eqVer.j0]) | (refine Ev.succ (g := fun k => laws_eqVer.j1 k _ _ _ _ _ _ _ _) ?_; simp only [laws_eqVer.j1]) | skip
  first | simp only [if_true] | skip
  first | (refine Ev.succ (g := fun k => laws_eqVer.j0 k _ _ _ _ _ _ _ _) ?_; simp only [laws_eqVer.j0]) | (refine Ev.succ (g := fun k => laws_eqVer.j1 k _ _ _ _ _ _ _ _) ?_; simp only [laws_eqVer.j1]) | skip
  refine Ev.bind (eqStringS y.f3 y.f3 m3) ?_
  simp only [decide_true, if_true]
  first | (refine Ev.succ (g := fun k => laws_eqVer.j0 k _ _ _ _ _ _ _ _) ?_; simp only [laws_eqVer.j0]) | (refine Ev.succ (g := fun k => laws_eqVer.j1 k _ _ _ _ _ _ _ _) ?_; simp only [laws_eqVer.j1]) | skip
  first | simp only [if_true] | skip
  exact Ev.some
end Go.Proofs.Ytfbbagddhfeefaa.Pure

/- What the laws' helpers over values of the type Cmp come to. -/
import Derived.Test.YtfbbagddhfeefaaGBPureStr
import Derived.Test.YtfbbagddhfeefaaOGB
import Derived.Test.YtfbbagddhfeefaaGBPureHVer
import Derived.Test.YtfbbagddhfeefaaPGBx7
set_option linter.unusedVariables false
set_option linter.unusedSimpArgs false
namespace Go.Proofs.Ytfbbagddhfeefaa.Pure
open Go.RowKit Go.Proofs.Ytfbbagddhfeefaa.PGB Go.Proofs.YtfbbagddhfeefaaW.PrintWords Go.Proofs.YtfbbagddhfeefaaW.PrintLast Go.Proofs.Ytfbbagddhfeefaa.Aux

def needCmp (x : S76) : Int := needVer x.f1
theorem needCmp_nonneg (x : S76) : 0 ≤ needCmp x := by
  have n1 := needVer_nonneg x.f1
  unfold needCmp; omega
def needCmpS : List S76 → Int
  | [] => 0
  | x :: r => needCmp x + needCmpS r
theorem needCmpS_nonneg : ∀ l : List S76, 0 ≤ needCmpS l
  | [] => by simp [needCmpS]
  | x :: r => by have := needCmp_nonneg x; have := needCmpS_nonneg r; simp only [needCmpS]; omega
theorem needCmp_mem : ∀ {l : List S76} {x : S76}, x ∈ l → needCmp x ≤ needCmpS l
  | y :: r, x, h => by
    have h1 := needCmp_nonneg y
    have h2 := needCmpS_nonneg r
    simp only [needCmpS]
    rcases List.mem_cons.1 h with e | h
    · rw [e]; omega
    · have := needCmp_mem h; omega
theorem szCmp (x : S76) (a : Int) (ho : ok76 x) (h0 : 0 ≤ a) (ha : a ≤ 9223372036854775807) : Ev (fun k => laws_szCmp.f k x.f0 x.f1.f0 x.f1.f1 x.f1.f2 x.f1.f3 a) (left (needCmp x) a) := by
  obtain ⟨o0, o1⟩ := ho
  unfold laws_szCmp.f needCmp
  have n1 := needVer_nonneg x.f1
  skip
  refine Ev.bind (szVer x.f1 a o1 (by omega) (by omega)) ?_
  by_cases h1 : needVer x.f1 ≤ a
  case neg => rw [left_not h1]; first | exact Ev.some | exact Ev.cast Ev.some (left_not (by omega)).symm
  rw [left_pos h1]
  simp only [show ¬ a - needVer x.f1 < 0 by omega, if_false]
  skip
  refine Ev.cast Ev.some ?_
  first | rfl | (rw [left_pos (by omega)]; omega)
def convCmp (x : S76) : S80 := ⟨x.f0, convVer x.f1⟩
theorem toCmp (x : S76) (hn : needCmp x ≤ 1048576) : Ev (fun k => laws_toCmp.f k x.f0 x.f1.f0 x.f1.f1 x.f1.f2 x.f1.f3) ((convCmp x).f0, (convCmp x).f1.f0, (convCmp x).f1.f1, (convCmp x).f1.f2, (convCmp x).f1.f3) := by
  unfold needCmp at hn
  have n1 := needVer_nonneg x.f1
  unfold laws_toCmp.f
  skip
  refine Ev.bind (toVer x.f1 (by omega)) ?_
  skip
  exact Ev.some
/-- Its slices are no longer than a number of Go's tells. -/
def fitCmp (y : S80) : Prop := fitVer y.f1
theorem fit_convCmp (x : S76) (hn : needCmp x ≤ 1048576) : fitCmp (convCmp x) := by
  unfold needCmp at hn
  have n1 := needVer_nonneg x.f1
  exact (fit_convVer _ (by omega))
theorem eqCmp (y : S80) (hf : fitCmp y) : Ev (fun k => laws_eqCmp.f k y.f0 y.f1.f0 y.f1.f1 y.f1.f2 y.f1.f3 y.f0 y.f1.f0 y.f1.f1 y.f1.f2 y.f1.f3) true := by
  unfold laws_eqCmp.f
  have m1 := hf
  skip
  first | simp only [if_true] | skip
  skip
  refine Ev.bind (eqVer y.f1 m1) ?_
  simp only [if_true]
  skip
  first | simp only [if_true] | skip
  exact Ev.some
end Go.Proofs.Ytfbbagddhfeefaa.Pure

/- What CmpOk comes to, of the reference and of the program. -/
import Derived.Test.YtfbbagddhfeefaaZGCGCPureCmp
import Derived.Test.YtfbbagddhfeefaaZGCGCPureSameVer
import Derived.Test.YtfbbagddhfeefaaZGCPGCx5
import Derived.Test.YtfbbagddhfeefaaZGCPGCx10
set_option linter.unusedVariables false
set_option linter.unusedSimpArgs false
namespace Go.Proofs.Ytfbbagddhfeefaa.Pure
open Go.RowKit Go.Proofs.Ytfbbagddhfeefaa.PGC Go.Proofs.YtfbbagddhfeefaaW.PrintWords Go.Proofs.YtfbbagddhfeefaaW.PrintLast Go.Proofs.Ytfbbagddhfeefaa.Aux

theorem cmpI_anti (a b : Int) : cmpI b a = -cmpI a b := by unfold cmpI; split <;> split <;> (try split) <;> (try split) <;> omega
theorem cmpS_anti (a b : ByteArray) : cmpS b a = -cmpS a b := by
  by_cases e : a = b
  · subst e; rw [(cmpS_zero a a).2 rfl]; rfl
  · unfold cmpS
    rw [ltB_turned a b]
    cases ltB a b <;> simp [e]
theorem orI2_anti (x y : Int) : orI [-x, -y] = -orI [x, y] := by
  simp only [orI]; split <;> split <;> (try split) <;> (try split) <;> omega
theorem cmpW_anti (a b : ByteArray) : cmpW b a = -cmpW a b := by
  unfold cmpW
  rw [cmpI_anti (a.size : Int) (b.size : Int), cmpS_anti a b, orI2_anti]
  cases digitsB a <;> cases digitsB b <;> simp
theorem cmpWs_anti : ∀ (a b : List ByteArray), cmpWs b a = -cmpWs a b
  | [], [] => by simp [cmpWs]
  | [], _ :: _ => by simp [cmpWs]
  | _ :: _, [] => by simp [cmpWs]
  | x :: a, y :: b => by
    simp only [cmpWs, cmpW_anti x y, cmpWs_anti a b]
    by_cases h : cmpW x y = 0
    · simp [h]
    · simp [h]
theorem cmpP_anti (a b : List ByteArray) : cmpP b a = -cmpP a b := by
  unfold cmpP
  rw [cmpWs_anti a b]
  cases a with
  | nil =>
    cases b with
    | nil => simp
    | cons y b =>
      have e2 : (((y :: b).length : Int) == 0) = false := by rw [beq_eq_false_iff_ne, List.length_cons]; omega
      have e3 : ((y :: b).length : Int) > 0 := by rw [List.length_cons]; omega
      rw [e2]
      simp [e3]
  | cons x a =>
    have e1 : (((x :: a).length : Int) == 0) = false := by rw [beq_eq_false_iff_ne, List.length_cons]; omega
    have e4 : ((x :: a).length : Int) > 0 := by rw [List.length_cons]; omega
    rw [e1]
    cases b with
    | nil => simp
    | cons y b =>
      have e2 : (((y :: b).length : Int) == 0) = false := by rw [beq_eq_false_iff_ne, List.length_cons]; omega
      rw [e2]
      simp
theorem cmpV_anti (a b c : Int) (l : List ByteArray) (a' b' c' : Int) (l' : List ByteArray) : cmpV a' b' c' l' a b c l = -cmpV a b c l a' b' c' l' := by
  unfold cmpV
  rw [cmpI_anti a a', cmpI_anti b b', cmpI_anti c c', cmpP_anti l l']
  simp only [orI]
  by_cases h1 : cmpI a a' = 0 <;> by_cases h2 : cmpI b b' = 0 <;> by_cases h3 : cmpI c c' = 0 <;> simp [h1, h2, h3]
theorem cmpWs_zero : ∀ (a b : List ByteArray), cmpWs a b = 0 ↔ a = b
  | [], [] => by simp [cmpWs]
  | [], _ :: _ => by simp [cmpWs]
  | _ :: _, [] => by simp [cmpWs]
  | x :: a, y :: b => by
    simp only [cmpWs, List.cons.injEq]
    by_cases h : cmpW x y = 0
    · have e := (cmpW_zero x y).1 h
      subst e
      simp only [h, if_true, cmpWs_zero a b, true_and]
    · have : ¬ x = y := fun e => h ((cmpW_zero x y).2 e)
      simp only [h, if_false, this, false_and]
theorem cmpP_zero (a b : List ByteArray) : cmpP a b = 0 ↔ a = b := by
  unfold cmpP
  by_cases h : (((a.length : Int) == 0) != ((b.length : Int) == 0)) = true
  · simp only [h, if_true]
    constructor
    · intro h'; split at h' <;> omega
    · rintro rfl; simp at h
  · simp only [h, if_false, Bool.false_eq_true]
    exact cmpWs_zero a b
theorem cmpV_zero (a b c : Int) (l : List ByteArray) (a' b' c' : Int) (l' : List ByteArray) : cmpV a b c l a' b' c' l' = 0 ↔ (a = a' ∧ b = b' ∧ c = c' ∧ l = l') := by
  unfold cmpV
  rw [← cmpP_zero l l', ← cmpI_zero a a', ← cmpI_zero b b', ← cmpI_zero c c']
  simp only [orI]
  by_cases h1 : cmpI a a' = 0 <;> by_cases h2 : cmpI b b' = 0 <;> by_cases h3 : cmpI c c' = 0 <;> simp [h1, h2, h3]

def cmpOkB (o a b c : Int) (l : List ByteArray) (a' b' c' : Int) (l' : List ByteArray) : Bool :=
  if o = 0 then decide (a = a' ∧ b = b' ∧ c = c' ∧ l = l') else if o = 1 then lessV a' b' c' l' a b c l else if o = 2 then !lessV a b c l a' b' c' l'
  else if o = 3 then lessV a b c l a' b' c' l' else if o = 4 then !lessV a' b' c' l' a b c l else false
theorem spec_cmpOk (o a b c : Int) (l : List ByteArray) (a' b' c' : Int) (l' : List ByteArray) (hl : l.length ≤ 9223372036854775807) (hl' : l'.length ≤ 9223372036854775807) (hs : ∀ x ∈ l, x.size ≤ 9223372036854775807) (hs' : ∀ x ∈ l', x.size ≤ 9223372036854775807) :
    Ev (fun k => spec_CmpOk.f k o a b c l a' b' c' l') (cmpOkB o a b c l a' b' c' l') := by
  unfold spec_CmpOk.f cmpOkB
  by_cases h0 : o = 0
  · simp only [h0, if_true]
    refine Ev.bind (spec_same _ _ _ _ _ _ _ _ (by omega)) (Ev.cast Ev.some ?_)
    unfold sameV
    simp only [Bool.decide_and]
  simp only [h0, if_false]
  by_cases h1 : o = 1
  · simp only [h1, if_true]
    exact Ev.bind (spec_less _ _ _ _ _ _ _ _ hl' hs' hs) Ev.some
  simp only [h1, if_false]
  by_cases h2 : o = 2
  · simp only [h2, if_true]
    exact Ev.bind (spec_less _ _ _ _ _ _ _ _ hl hs hs') Ev.some
  simp only [h2, if_false]
  by_cases h3 : o = 3
  · simp only [h3, if_true]
    exact Ev.bind (spec_less _ _ _ _ _ _ _ _ hl hs hs') Ev.some
  simp only [h3, if_false]
  by_cases h4 : o = 4
  · simp only [h4, if_true]
    exact Ev.bind (spec_less _ _ _ _ _ _ _ _ hl' hs' hs) Ev.some
  simp only [h4, if_false]
  exact Ev.some
theorem impl_cmpOk (o a b c : Int) (l : List ByteArray) (a' b' c' : Int) (l' : List ByteArray) (hl : l.length ≤ 9223372036854775807) (hl' : l'.length ≤ 9223372036854775807) (hs : ∀ x ∈ l, x.size ≤ 9223372036854775807) (hs' : ∀ x ∈ l', x.size ≤ 9223372036854775807) :
    Ev (fun k => impl_CmpOk.f k o a b c l a' b' c' l') (cmpOkB o a b c l a' b' c' l') := by
  unfold impl_CmpOk.f cmpOkB
  refine Ev.bind (compareVer _ _ _ _ _ _ _ _ hl' hs' hs) ?_
  have e1 := cmpV_neg a' b' c' l' a b c l
  have e2 := cmpV_neg a b c l a' b' c' l'
  have e3 := cmpV_anti a' b' c' l' a b c l
  have e4 := cmpV_zero a' b' c' l' a b c l
  rw [← e1, ← e2, e3]
  by_cases h0 : o = 0
  · simp only [h0, if_true]
    refine Ev.cast Ev.some ?_
    rw [Bool.eq_iff_iff, beq_iff_eq, decide_eq_true_iff, e4]
    constructor <;> (rintro ⟨p1, p2, p3, p4⟩; exact ⟨p1.symm, p2.symm, p3.symm, p4.symm⟩)
  simp only [h0, if_false]
  by_cases h1 : o = 1
  · simp only [h1, if_true]
    exact Ev.some
  simp only [h1, if_false]
  by_cases h2 : o = 2
  · simp only [h2, if_true]
    refine Ev.cast Ev.some ?_
    rw [← decide_not, decide_eq_decide]
    omega
  simp only [h2, if_false]
  by_cases h3 : o = 3
  · simp only [h3, if_true]
    refine Ev.cast Ev.some ?_
    rw [decide_eq_decide]
    omega
  simp only [h3, if_false]
  by_cases h4 : o = 4
  · simp only [h4, if_true]
    refine Ev.cast Ev.some ?_
    rw [← decide_not, decide_eq_decide]
    omega
  simp only [h4, if_false]
  exact Ev.some
end Go.Proofs.Ytfbbagddhfeefaa.Pure

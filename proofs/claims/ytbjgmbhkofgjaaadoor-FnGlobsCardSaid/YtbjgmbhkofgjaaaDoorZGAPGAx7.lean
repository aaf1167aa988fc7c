/- The walks of the functions that these laws reach, and what each comes to: printed by this session's program. -/
import Derived.Test.YtbjgmbhkofgjaaaDoorZGAPGAx0
import Derived.Test.YtbjgmbhkofgjaaaDoorZGAPGAx6
import Derived.Test.YtbjgmbhkofgjaaaDoorZGASays
namespace Go.Proofs.YtbjgmbhkofgjaaaDoor.PGA
open Go.RowKit Go.Proofs.YtbjgmbhkofgjaaaDoorW.PrintWords Go.Proofs.YtbjgmbhkofgjaaaDoorW.PrintLast Go.Proofs.YtbjgmbhkofgjaaaDoorW.PrintMore
attribute [local go_sem high] Go.Proofs.YtbjgmbhkofgjaaaDoor.Mine.str_gtr Go.Proofs.YtbjgmbhkofgjaaaDoor.Mine.str_leq Go.Proofs.YtbjgmbhkofgjaaaDoor.Mine.str_geq
attribute [local go_sem] max2_int min2_int max_two min_two max_three min_three max_four min_four   -- for this text's walks alone
set_option linter.unusedVariables false
set_option maxHeartbeats 8000000
set_option maxRecDepth 100000
set_option linter.unusedSimpArgs false
/-! ### impl_unitTakes: function 94 -/
def impl_unitTakes.f (a0 : ByteArray) (a1 : Int) : Option (Bool) := if a0.toList = ([63] : List UInt8) then (some true) else (if (a0.size : Int) = 1 then (if 0 < (a0.size : Int) then (some ((bt a0 0) == a1)) else (none)) else (if 1 ≤ (wrap64 ((a0.size : Int) - 1)) then (if (wrap64 ((a0.size : Int) - 1)) ≤ (a0.size : Int) then ((strings_CutPrefix.f (a0.extract 1 ((wrap64 ((a0.size : Int) - 1)) : Int).toNat) (⟨#[33]⟩ : ByteArray)).bind fun bt336 => ((strings_IndexByte.f bt336.1 a1).bind fun t338 => (some ((decide (t338 ≥ 0)) != bt336.2)))) else (none)) else (none)))
theorem impl_unitTakes.calls (a0 : ByteArray) (a1 : Int) (r : Bool) (w : World) (h : impl_unitTakes.f a0 a1 = some r) :
  Calls Tryd.prog 94 #[.string a0, .int .u8 a1] w fun e w' => e = .returned (.bool r) ∧ Drawn0 w w' := by
 have H : (if a0.toList = ([63] : List UInt8) then (some true) else (if (a0.size : Int) = 1 then (if 0 < (a0.size : Int) then (some ((bt a0 0) == a1)) else (none)) else (if 1 ≤ (wrap64 ((a0.size : Int) - 1)) then (if (wrap64 ((a0.size : Int) - 1)) ≤ (a0.size : Int) then ((strings_CutPrefix.f (a0.extract 1 ((wrap64 ((a0.size : Int) - 1)) : Int).toNat) (⟨#[33]⟩ : ByteArray)).bind fun bt336 => ((strings_IndexByte.f bt336.1 a1).bind fun t338 => (some ((decide (t338 ≥ 0)) != bt336.2)))) else (none)) else (none)))) = some r := h
 clear h
 by_cases c3 : a0.toList = ([63] : List UInt8)
 ·rw [if_pos c3] at H
  have c3b0 : (a0.toList == ([63] : List UInt8)) = true := beq_iff_eq.mpr c3
  have c3b1 : (a0.toList != ([63] : List UInt8)) = false := bne_eq_false_iff_eq.mpr c3
  clear c3
  obtain rfl := Option.some.inj H
  go_enter Tryd.func94, Tryd.ntmps94
  go_wp2
  go_ret
  exact ⟨by first | rfl | (simp; done) | (simp [*]; done) | (simp; rw [Bool.eq_iff_iff]; simp; done), by repeat (first | exact Drawn0.refl _ | apply Drawn0.step)⟩
 ·rw [if_neg c3] at H
  have c3b0 : (a0.toList == ([63] : List UInt8)) = false := beq_eq_false_iff_ne.mpr c3
  have c3b1 : (a0.toList != ([63] : List UInt8)) = true := bne_iff_ne.mpr c3
  by_cases c4 : (a0.size : Int) = 1
  ·rw [if_pos c4] at H
   have c4b0 : ((a0.size : Int) == 1) = true := beq_iff_eq.mpr c4
   have c4b1 : ((a0.size : Int) != 1) = false := bne_eq_false_iff_eq.mpr c4
   clear c4
   by_cases c5 : 0 < (a0.size : Int)
   ·rw [if_pos c5] at H
    have c5b0 : decide (0 < (a0.size : Int)) = true := decide_eq_true c5
    have c5b1 : decide (0 < a0.size) = true := decide_eq_true (by omega)
    clear c5
    obtain rfl := Option.some.inj H
    have p6 : 0 ≤ (0 : Int) := (by omega)
    have q6 : 0 < a0.size := (by have : (0 : Int) < (a0.size : Int) := zD; omega)
    have hx6 : ∀ h : 0 < a0.size, ((a0[0]'h).toNat : Int) = bt a0 0 := bt_at a0 0
    clear p6
    have qi6 : (0 < (a0.size : Int)) = True := eq_true (zD)
    replace q6 := eq_true q6
    go_enter Tryd.func94, Tryd.ntmps94
    go_wp2
    go_ret
    exact ⟨by first | rfl | (simp; done) | (simp [*]; done) | (simp; rw [Bool.eq_iff_iff]; simp; done), by repeat (first | exact Drawn0.refl _ | apply Drawn0.step)⟩
   ·rw [if_neg c5] at H
    exact absurd H (by simp)
  ·rw [if_neg c4] at H
   have c4b0 : ((a0.size : Int) == 1) = false := beq_eq_false_iff_ne.mpr c4
   have c4b1 : ((a0.size : Int) != 1) = true := bne_iff_ne.mpr c4
   by_cases c7 : 1 ≤ (wrap64 ((a0.size : Int) - 1))
   ·rw [if_pos c7] at H
    have c7b0 := eq_true c7
    have c7b1 : decide (1 ≤ (wrap64 ((a0.size : Int) - 1))) = true := decide_eq_true c7
    clear c7
    by_cases c8 : (wrap64 ((a0.size : Int) - 1)) ≤ (a0.size : Int)
    ·rw [if_pos c8] at H
     have c8b0 := eq_true c8
     have c8b1 : decide ((wrap64 ((a0.size : Int) - 1)) ≤ (a0.size : Int)) = true := decide_eq_true c8
     clear c8
     replace H := Option.bind_eq_some_iff.mp H
     obtain ⟨⟨t336, t337⟩, A90, H⟩ := H
     replace H : ((strings_IndexByte.f t336 a1).bind fun t338 => (some ((decide (t338 ≥ 0)) != t337))) = some r := H
     have A9 := Aside0.mk A90
     clear A90
     replace H := Option.bind_eq_some_iff.mp H
     obtain ⟨t338, A100, H⟩ := H
     replace H : (some ((decide (t338 ≥ 0)) != t337)) = some r := H
     have A10 := Aside0.mk A100
     clear A100
     obtain rfl := Option.some.inj H
     go_enter Tryd.func94, Tryd.ntmps94
     go_wp2_with (first | ((with_reducible refine gate_callee (f := 110) rfl ?_); refine goesL_ (some 24) rfl rfl Tryd.func110 (by kernel_rfl) rfl #[.string (a0.extract 1 ((wrap64 ((a0.size : Int) - 1)) : Int).toNat), .string (⟨#[33]⟩ : ByteArray)] rfl zM ?_; (with_reducible refine (strings_CutPrefix.calls (a0.extract 1 ((wrap64 ((a0.size : Int) - 1)) : Int).toNat) (⟨#[33]⟩ : ByteArray) t336 t337 _ A9.out).mono ?_); rintro e w' ⟨rfl, ⟨nd, rfl⟩⟩; refine ⟨_, rfl, ?_⟩) | ((with_reducible refine gate_callee (f := 111) rfl ?_); refine goesL_ (some 29) rfl rfl Tryd.func111 (by kernel_rfl) rfl #[.string t336, .int .u8 a1] rfl zM ?_; (with_reducible refine (strings_IndexByte.calls t336 a1 t338 _ A10.out).mono ?_); rintro e w' ⟨rfl, ⟨nd, rfl⟩⟩; refine ⟨_, rfl, ?_⟩))
     go_ret
     exact ⟨by first | rfl | (simp; done) | (simp [*]; done) | (simp; rw [Bool.eq_iff_iff]; simp; done), by repeat (first | exact Drawn0.refl _ | apply Drawn0.step)⟩
    ·rw [if_neg c8] at H
     exact absurd H (by simp)
   ·rw [if_neg c7] at H
    exact absurd H (by simp)
/-! ### impl_pieceTakes: function 77 -/
mutual
def impl_pieceTakes.j0 : Nat → ByteArray → ByteArray → Option (Bool)
 | 0, _, _ => none
 | k + 1, x0, x1 => (impl_unitOf.f k x0).bind fun t339 => (if 0 ≤ t339 then (if t339 ≤ (x0.size : Int) then (if (x0.extract 0 (t339 : Int).toNat).toList = ([42] : List UInt8) then (impl_pieceTakes.l0 k x1 (x0.extract (t339 : Int).toNat x0.size) (wrap64 ((x1.size : Int) + 1)) 0) else (if x1.toList = ([] : List UInt8) then (some false) else (if 0 < (x1.size : Int) then ((impl_unitTakes.f (x0.extract 0 (t339 : Int).toNat) (bt x1 0)).bind fun t341 => (if t341 = true then (if 1 ≤ (x1.size : Int) then ((impl_pieceTakes.f k (x0.extract (t339 : Int).toNat x0.size) (x1.extract 1 x1.size)).bind fun t342 => (some t342)) else (none)) else (some false))) else (none)))) else (none)) else (none))
def impl_pieceTakes.l0 : Nat → ByteArray → ByteArray → Int → Int → Option (Bool)
 | 0, _, _, _, _ => none
 | k + 1, x1, x7, x25, x26 => if x26 < x25 then (if 0 ≤ x26 then (if x26 ≤ (x1.size : Int) then ((impl_pieceTakes.f k x7 (x1.extract (x26 : Int).toNat x1.size)).bind fun t340 => (if t340 = true then (some true) else (impl_pieceTakes.l0 k x1 x7 x25 (wrap64 (x26 + 1))))) else (none)) else (none)) else (some false)
def impl_pieceTakes.f : Nat → ByteArray → ByteArray → Option (Bool)
 | 0, _, _ => none
 | k + 1, a0, a1 => if a0.toList = ([] : List UInt8) then (some (a1.toList == ([] : List UInt8))) else (impl_pieceTakes.j0 k a0 a1)
end
theorem impl_pieceTakes.calls (k : Nat) : ∀ (a0 : ByteArray) (a1 : ByteArray) (r : Bool) (w : World) (h : impl_pieceTakes.f k a0 a1 = some r),
  Calls Tryd.prog 77 #[.string a0, .string a1] w fun e w' => e = .returned (.bool r) ∧ Drawn0 w w' := by
 induction k using Nat.strongRecOn with
 | _ k ih =>
 intro a0 a1 r w h
 cases k with
 | zero => exact absurd h (by simp [impl_pieceTakes.f])
 | succ k =>
 simp only [impl_pieceTakes.f] at h
 have H : (if a0.toList = ([] : List UInt8) then (some (a1.toList == ([] : List UInt8))) else (impl_pieceTakes.j0 k a0 a1)) = some r := h
 clear h
 have HC3 := Aside0.mk H
 clear H
 go_enter Tryd.func77, Tryd.ntmps77
 go_upto_if 10 with (fail)
 repeat (go_quiet (fail); go_upto_if 10 with (fail))
 go_cut [] (fun wc => ∃ (kq : Nat), Aside0 (impl_pieceTakes.j0 kq a0 a1 = some r) ∧ Aside0 (kq ≤ k) ∧ Drawn0 w wc)
 case first =>
  have H := HC3.out
  clear HC3
  by_cases c4 : a0.toList = ([] : List UInt8)
  ·rw [if_pos c4] at H
   have c4b0 : (a0.toList == ([] : List UInt8)) = true := beq_iff_eq.mpr c4
   have c4b1 : (a0.toList != ([] : List UInt8)) = false := bne_eq_false_iff_eq.mpr c4
   clear c4
   (first | rw [c4b0] | (simp only [i64_w, i32_w]; rw [c4b0]) | rw [show a0.toList.isEmpty = true from by simpa using c4b0] | skip)
   obtain rfl := Option.some.inj H
   go_wp2
   repeat (go_quiet (fail); try go_wp2)
   go_ret
   exact ⟨by first | rfl | (simp; done) | (simp [*]; done) | (simp; rw [Bool.eq_iff_iff]; simp; done), by repeat (first | exact Drawn0.refl _ | apply Drawn0.step)⟩
  ·rw [if_neg c4] at H
   have c4b0 : (a0.toList == ([] : List UInt8)) = false := beq_eq_false_iff_ne.mpr c4
   have c4b1 : (a0.toList != ([] : List UInt8)) = true := bne_iff_ne.mpr c4
   (first | rw [c4b0] | (simp only [i64_w, i32_w]; rw [c4b0]) | rw [show a0.toList.isEmpty = false from by simpa using c4b0] | skip)
   have H' := Aside0.mk H
   clear H
   go_wp2
   repeat (go_quiet (fail); try go_wp2)
   go_meet
   case rel => exact ⟨_, (by first | exact H' | (subst_vars; exact H')), ⟨by first | omega | exact Nat.le_refl _⟩, by repeat (first | exact Drawn0.refl _ | apply Drawn0.step)⟩
 case rest =>
  clear HC3
  try clear p2
  try clear c4
  try clear c4b0
  try clear c4b1
  obtain ⟨kq, HA, HJ2, ⟨mc2, rfl⟩⟩ := hcut
  cases kq with
  | zero => exact absurd HA.out (by simp [impl_pieceTakes.j0])
  | succ kj2 =>
   have H := HA.out
   clear HA
   simp only [impl_pieceTakes.j0] at H
   replace H := Option.bind_eq_some_iff.mp H
   obtain ⟨t339, A50, H⟩ := H
   replace H : (if 0 ≤ t339 then (if t339 ≤ (a0.size : Int) then (if (a0.extract 0 (t339 : Int).toNat).toList = ([42] : List UInt8) then (impl_pieceTakes.l0 kj2 a1 (a0.extract (t339 : Int).toNat a0.size) (wrap64 ((a1.size : Int) + 1)) 0) else (if a1.toList = ([] : List UInt8) then (some false) else (if 0 < (a1.size : Int) then ((impl_unitTakes.f (a0.extract 0 (t339 : Int).toNat) (bt a1 0)).bind fun t341 => (if t341 = true then (if 1 ≤ (a1.size : Int) then ((impl_pieceTakes.f kj2 (a0.extract (t339 : Int).toNat a0.size) (a1.extract 1 a1.size)).bind fun t342 => (some t342)) else (none)) else (some false))) else (none)))) else (none)) else (none)) = some r := H
   have A5 := Aside0.mk A50
   clear A50
   by_cases c6 : 0 ≤ t339
   ·rw [if_pos c6] at H
    have c6b0 := eq_true c6
    have c6b1 : decide (0 ≤ t339) = true := decide_eq_true c6
    clear c6
    by_cases c7 : t339 ≤ (a0.size : Int)
    ·rw [if_pos c7] at H
     have c7b0 := eq_true c7
     have c7b1 : decide (t339 ≤ (a0.size : Int)) = true := decide_eq_true c7
     clear c7
     have c8b0 := eq_true (zD : 0 ≤ t339)
     have c9b0 := eq_true (zD : t339 ≤ (a0.size : Int))
     by_cases c10 : (a0.extract 0 (t339 : Int).toNat).toList = ([42] : List UInt8)
     ·rw [if_pos c10] at H
      have c10b0 : ((a0.extract 0 (t339 : Int).toNat).toList == ([42] : List UInt8)) = true := beq_iff_eq.mpr c10
      have c10b1 : ((a0.extract 0 (t339 : Int).toNat).toList != ([42] : List UInt8)) = false := bne_eq_false_iff_eq.mpr c10
      clear c10
      have H' := Aside0.mk H
      clear H
      go_wp2_with (first | (go_at_call 81; (with_reducible refine (impl_unitOf.calls kj2 a0 t339 _ A5.out).mono ?_); rintro e w' ⟨rfl, ⟨nd, rfl⟩⟩; (try first | exact ⟨rfl, _, World.drewN_drewN _ _ _⟩ | exact ⟨rfl, _, Eq.trans (World.drewN_drewN _ _ _) (congrArg (World.drewN _) (Nat.add_assoc _ _ _))⟩)))
      repeat (go_quiet (first | (go_at_call 81; (with_reducible refine (impl_unitOf.calls kj2 a0 t339 _ A5.out).mono ?_); rintro e w' ⟨rfl, ⟨nd, rfl⟩⟩; (try first | exact ⟨rfl, _, World.drewN_drewN _ _ _⟩ | exact ⟨rfl, _, Eq.trans (World.drewN_drewN _ _ _) (congrArg (World.drewN _) (Nat.add_assoc _ _ _))⟩))); try go_wp2_with (first | (go_at_call 81; (with_reducible refine (impl_unitOf.calls kj2 a0 t339 _ A5.out).mono ?_); rintro e w' ⟨rfl, ⟨nd, rfl⟩⟩; (try first | exact ⟨rfl, _, World.drewN_drewN _ _ _⟩ | exact ⟨rfl, _, Eq.trans (World.drewN_drewN _ _ _) (congrArg (World.drewN _) (Nat.add_assoc _ _ _))⟩))))
      go_loopg [26] kj2 (fun kq v26 w' => ∃ (x26_2 : Int), v26 = .int .i64 x26_2 ∧ Aside0 (impl_pieceTakes.l0 kq a1 (a0.extract (t339 : Int).toNat a0.size) (wrap64 ((a1.size : Int) + 1)) x26_2 = some r) ∧ Aside0 (kq ≤ kj2) ∧ Drawn0 w w')
      case atStart => exact ⟨(0), zS, H', ⟨Nat.le_refl _⟩, by repeat (first | exact Drawn0.refl _ | apply Drawn0.step)⟩
      case round =>
       clear H'
       try clear c1
       try clear c2
       try clear p2
       try clear c4
       try clear c4b0
       try clear c4b1
       try clear c6
       try clear c6b0
       try clear c6b1
       try clear p6
       try clear c7
       try clear c7b0
       try clear c7b1
       try clear c8
       try clear c8b0
       try clear c9
       try clear c9b0
       try clear c10
       try clear c10b0
       try clear c10b1
       try clear p2
       obtain ⟨x26_2, rfl, HA, HK2, ⟨m2, rfl⟩⟩ := hrel
       cases gk with
       | zero => exact absurd HA.out (by simp [impl_pieceTakes.l0])
       | succ k2 =>
        have H := HA.out
        clear HA
        simp only [impl_pieceTakes.l0] at H
        by_cases c11 : x26_2 < (wrap64 ((a1.size : Int) + 1))
        ·rw [if_pos c11] at H
         have c11b0 : decide (x26_2 < (wrap64 ((a1.size : Int) + 1))) = true := decide_eq_true c11
         clear c11
         by_cases c12 : 0 ≤ x26_2
         ·rw [if_pos c12] at H
          have c12b0 := eq_true c12
          have c12b1 : decide (0 ≤ x26_2) = true := decide_eq_true c12
          clear c12
          by_cases c13 : x26_2 ≤ (a1.size : Int)
          ·rw [if_pos c13] at H
           have c13b0 := eq_true c13
           have c13b1 : decide (x26_2 ≤ (a1.size : Int)) = true := decide_eq_true c13
           clear c13
           replace H := Option.bind_eq_some_iff.mp H
           obtain ⟨t340, A140, H⟩ := H
           replace H : (if t340 = true then (some true) else (impl_pieceTakes.l0 k2 a1 (a0.extract (t339 : Int).toNat a0.size) (wrap64 ((a1.size : Int) + 1)) (wrap64 (x26_2 + 1)))) = some r := H
           have A14 := Aside0.mk A140
           clear A140
           by_cases c15 : t340 = true
           ·subst c15
            have H1 : (some true) = some r := by rw [if_pos rfl] at H; exact H
            clear H
            have H := H1
            clear H1
            obtain rfl := Option.some.inj H
            go_wp2_with (first | (go_at_call 77; (with_reducible refine (ih k2 (by have := HJ2.out; have := HK2.out; omega) (a0.extract (t339 : Int).toNat a0.size) (a1.extract (x26_2 : Int).toNat a1.size) true _ A14.out).mono ?_); rintro e w' ⟨rfl, ⟨nd, rfl⟩⟩; (try first | exact ⟨rfl, _, World.drewN_drewN _ _ _⟩ | exact ⟨rfl, _, Eq.trans (World.drewN_drewN _ _ _) (congrArg (World.drewN _) (Nat.add_assoc _ _ _))⟩)))
            repeat (go_quiet (first | (go_at_call 77; (with_reducible refine (ih k2 (by have := HJ2.out; have := HK2.out; omega) (a0.extract (t339 : Int).toNat a0.size) (a1.extract (x26_2 : Int).toNat a1.size) true _ A14.out).mono ?_); rintro e w' ⟨rfl, ⟨nd, rfl⟩⟩; (try first | exact ⟨rfl, _, World.drewN_drewN _ _ _⟩ | exact ⟨rfl, _, Eq.trans (World.drewN_drewN _ _ _) (congrArg (World.drewN _) (Nat.add_assoc _ _ _))⟩))); try go_wp2_with (first | (go_at_call 77; (with_reducible refine (ih k2 (by have := HJ2.out; have := HK2.out; omega) (a0.extract (t339 : Int).toNat a0.size) (a1.extract (x26_2 : Int).toNat a1.size) true _ A14.out).mono ?_); rintro e w' ⟨rfl, ⟨nd, rfl⟩⟩; (try first | exact ⟨rfl, _, World.drewN_drewN _ _ _⟩ | exact ⟨rfl, _, Eq.trans (World.drewN_drewN _ _ _) (congrArg (World.drewN _) (Nat.add_assoc _ _ _))⟩))))
            go_ret
            exact ⟨by first | rfl | (simp; done) | (simp [*]; done) | (simp; rw [Bool.eq_iff_iff]; simp; done), by repeat (first | exact Drawn0.refl _ | apply Drawn0.step)⟩
           ·replace c15 := Bool.eq_false_iff.mpr c15
            subst c15
            have H1 : (impl_pieceTakes.l0 k2 a1 (a0.extract (t339 : Int).toNat a0.size) (wrap64 ((a1.size : Int) + 1)) (wrap64 (x26_2 + 1))) = some r := by rw [if_neg (show ¬ (false = true) by decide)] at H; exact H
            clear H
            have H := H1
            clear H1
            have H' := Aside0.mk H
            clear H
            go_wp2_with (first | (go_at_call 77; (with_reducible refine (ih k2 (by have := HJ2.out; have := HK2.out; omega) (a0.extract (t339 : Int).toNat a0.size) (a1.extract (x26_2 : Int).toNat a1.size) false _ A14.out).mono ?_); rintro e w' ⟨rfl, ⟨nd, rfl⟩⟩; (try first | exact ⟨rfl, _, World.drewN_drewN _ _ _⟩ | exact ⟨rfl, _, Eq.trans (World.drewN_drewN _ _ _) (congrArg (World.drewN _) (Nat.add_assoc _ _ _))⟩)))
            repeat (go_quiet (first | (go_at_call 77; (with_reducible refine (ih k2 (by have := HJ2.out; have := HK2.out; omega) (a0.extract (t339 : Int).toNat a0.size) (a1.extract (x26_2 : Int).toNat a1.size) false _ A14.out).mono ?_); rintro e w' ⟨rfl, ⟨nd, rfl⟩⟩; (try first | exact ⟨rfl, _, World.drewN_drewN _ _ _⟩ | exact ⟨rfl, _, Eq.trans (World.drewN_drewN _ _ _) (congrArg (World.drewN _) (Nat.add_assoc _ _ _))⟩))); try go_wp2_with (first | (go_at_call 77; (with_reducible refine (ih k2 (by have := HJ2.out; have := HK2.out; omega) (a0.extract (t339 : Int).toNat a0.size) (a1.extract (x26_2 : Int).toNat a1.size) false _ A14.out).mono ?_); rintro e w' ⟨rfl, ⟨nd, rfl⟩⟩; (try first | exact ⟨rfl, _, World.drewN_drewN _ _ _⟩ | exact ⟨rfl, _, Eq.trans (World.drewN_drewN _ _ _) (congrArg (World.drewN _) (Nat.add_assoc _ _ _))⟩))))
            go_roundg k2
            case measure => have := HJ2.out; have := HK2.out; omega
            case rel => exact ⟨(wrap64 (x26_2 + 1)), zS, H', ⟨by have := HJ2.out; have := HK2.out; omega⟩, by repeat (first | exact Drawn0.refl _ | apply Drawn0.step)⟩
          ·rw [if_neg c13] at H
           exact absurd H (by simp)
         ·rw [if_neg c12] at H
          exact absurd H (by simp)
        ·rw [if_neg c11] at H
         have c11b0 : decide (x26_2 < (wrap64 ((a1.size : Int) + 1))) = false := decide_eq_false c11
         clear c11
         obtain rfl := Option.some.inj H
         go_wp2
         repeat (go_quiet (fail); try go_wp2)
         go_ret
         exact ⟨by first | rfl | (simp; done) | (simp [*]; done) | (simp; rw [Bool.eq_iff_iff]; simp; done), by repeat (first | exact Drawn0.refl _ | apply Drawn0.step)⟩
     ·rw [if_neg c10] at H
      have c10b0 : ((a0.extract 0 (t339 : Int).toNat).toList == ([42] : List UInt8)) = false := beq_eq_false_iff_ne.mpr c10
      have c10b1 : ((a0.extract 0 (t339 : Int).toNat).toList != ([42] : List UInt8)) = true := bne_iff_ne.mpr c10
      by_cases c16 : a1.toList = ([] : List UInt8)
      ·rw [if_pos c16] at H
       have c16b0 : (a1.toList == ([] : List UInt8)) = true := beq_iff_eq.mpr c16
       have c16b1 : (a1.toList != ([] : List UInt8)) = false := bne_eq_false_iff_eq.mpr c16
       clear c16
       obtain rfl := Option.some.inj H
       go_wp2_with (first | (go_at_call 81; (with_reducible refine (impl_unitOf.calls kj2 a0 t339 _ A5.out).mono ?_); rintro e w' ⟨rfl, ⟨nd, rfl⟩⟩; (try first | exact ⟨rfl, _, World.drewN_drewN _ _ _⟩ | exact ⟨rfl, _, Eq.trans (World.drewN_drewN _ _ _) (congrArg (World.drewN _) (Nat.add_assoc _ _ _))⟩)))
       repeat (go_quiet (first | (go_at_call 81; (with_reducible refine (impl_unitOf.calls kj2 a0 t339 _ A5.out).mono ?_); rintro e w' ⟨rfl, ⟨nd, rfl⟩⟩; (try first | exact ⟨rfl, _, World.drewN_drewN _ _ _⟩ | exact ⟨rfl, _, Eq.trans (World.drewN_drewN _ _ _) (congrArg (World.drewN _) (Nat.add_assoc _ _ _))⟩))); try go_wp2_with (first | (go_at_call 81; (with_reducible refine (impl_unitOf.calls kj2 a0 t339 _ A5.out).mono ?_); rintro e w' ⟨rfl, ⟨nd, rfl⟩⟩; (try first | exact ⟨rfl, _, World.drewN_drewN _ _ _⟩ | exact ⟨rfl, _, Eq.trans (World.drewN_drewN _ _ _) (congrArg (World.drewN _) (Nat.add_assoc _ _ _))⟩))))
       go_ret
       exact ⟨by first | rfl | (simp; done) | (simp [*]; done) | (simp; rw [Bool.eq_iff_iff]; simp; done), by repeat (first | exact Drawn0.refl _ | apply Drawn0.step)⟩
      ·rw [if_neg c16] at H
       have c16b0 : (a1.toList == ([] : List UInt8)) = false := beq_eq_false_iff_ne.mpr c16
       have c16b1 : (a1.toList != ([] : List UInt8)) = true := bne_iff_ne.mpr c16
       by_cases c17 : 0 < (a1.size : Int)
       ·rw [if_pos c17] at H
        have c17b0 : decide (0 < (a1.size : Int)) = true := decide_eq_true c17
        have c17b1 : decide (0 < a1.size) = true := decide_eq_true (by omega)
        clear c17
        replace H := Option.bind_eq_some_iff.mp H
        obtain ⟨t341, A190, H⟩ := H
        replace H : (if t341 = true then (if 1 ≤ (a1.size : Int) then ((impl_pieceTakes.f kj2 (a0.extract (t339 : Int).toNat a0.size) (a1.extract 1 a1.size)).bind fun t342 => (some t342)) else (none)) else (some false)) = some r := H
        have A19 := Aside0.mk A190
        clear A190
        by_cases c20 : t341 = true
        ·subst c20
         have H1 : (if 1 ≤ (a1.size : Int) then ((impl_pieceTakes.f kj2 (a0.extract (t339 : Int).toNat a0.size) (a1.extract 1 a1.size)).bind fun t342 => (some t342)) else (none)) = some r := by rw [if_pos rfl] at H; exact H
         clear H
         have H := H1
         clear H1
         by_cases c21 : 1 ≤ (a1.size : Int)
         ·rw [if_pos c21] at H
          have c21b0 := eq_true c21
          have c21b1 : decide (1 ≤ (a1.size : Int)) = true := decide_eq_true c21
          clear c21
          replace H := Option.bind_eq_some_iff.mp H
          obtain ⟨t342, A220, H⟩ := H
          replace H : (some t342) = some r := H
          have A22 := Aside0.mk A220
          clear A220
          obtain rfl := Option.some.inj H
          go_wp2_with (first | (go_at_call 81; (with_reducible refine (impl_unitOf.calls kj2 a0 t339 _ A5.out).mono ?_); rintro e w' ⟨rfl, ⟨nd, rfl⟩⟩; (try first | exact ⟨rfl, _, World.drewN_drewN _ _ _⟩ | exact ⟨rfl, _, Eq.trans (World.drewN_drewN _ _ _) (congrArg (World.drewN _) (Nat.add_assoc _ _ _))⟩); have p18 : 0 ≤ (0 : Int) := (by omega); have q18 : 0 < a1.size := (by have : (0 : Int) < (a1.size : Int) := zD; omega); have hx18 : ∀ h : 0 < a1.size, ((a1[0]'h).toNat : Int) = bt a1 0 := bt_at a1 0; clear p18; have qi18 : (0 < (a1.size : Int)) = True := eq_true (zD); replace q18 := eq_true q18) | (go_at_call 94; (with_reducible refine (impl_unitTakes.calls (a0.extract 0 (t339 : Int).toNat) (bt a1 0) true _ A19.out).mono ?_); rintro e w' ⟨rfl, ⟨nd, rfl⟩⟩; (try first | exact ⟨rfl, _, World.drewN_drewN _ _ _⟩ | exact ⟨rfl, _, Eq.trans (World.drewN_drewN _ _ _) (congrArg (World.drewN _) (Nat.add_assoc _ _ _))⟩)) | (go_at_call 77; (with_reducible refine (ih kj2 (by have := HJ2.out; omega) (a0.extract (t339 : Int).toNat a0.size) (a1.extract 1 a1.size) t342 _ A22.out).mono ?_); rintro e w' ⟨rfl, ⟨nd, rfl⟩⟩; (try first | exact ⟨rfl, _, World.drewN_drewN _ _ _⟩ | exact ⟨rfl, _, Eq.trans (World.drewN_drewN _ _ _) (congrArg (World.drewN _) (Nat.add_assoc _ _ _))⟩)))
          repeat (go_quiet (first | (go_at_call 81; (with_reducible refine (impl_unitOf.calls kj2 a0 t339 _ A5.out).mono ?_); rintro e w' ⟨rfl, ⟨nd, rfl⟩⟩; (try first | exact ⟨rfl, _, World.drewN_drewN _ _ _⟩ | exact ⟨rfl, _, Eq.trans (World.drewN_drewN _ _ _) (congrArg (World.drewN _) (Nat.add_assoc _ _ _))⟩); have p18 : 0 ≤ (0 : Int) := (by omega); have q18 : 0 < a1.size := (by have : (0 : Int) < (a1.size : Int) := zD; omega); have hx18 : ∀ h : 0 < a1.size, ((a1[0]'h).toNat : Int) = bt a1 0 := bt_at a1 0; clear p18; have qi18 : (0 < (a1.size : Int)) = True := eq_true (zD); replace q18 := eq_true q18) | (go_at_call 94; (with_reducible refine (impl_unitTakes.calls (a0.extract 0 (t339 : Int).toNat) (bt a1 0) true _ A19.out).mono ?_); rintro e w' ⟨rfl, ⟨nd, rfl⟩⟩; (try first | exact ⟨rfl, _, World.drewN_drewN _ _ _⟩ | exact ⟨rfl, _, Eq.trans (World.drewN_drewN _ _ _) (congrArg (World.drewN _) (Nat.add_assoc _ _ _))⟩)) | (go_at_call 77; (with_reducible refine (ih kj2 (by have := HJ2.out; omega) (a0.extract (t339 : Int).toNat a0.size) (a1.extract 1 a1.size) t342 _ A22.out).mono ?_); rintro e w' ⟨rfl, ⟨nd, rfl⟩⟩; (try first | exact ⟨rfl, _, World.drewN_drewN _ _ _⟩ | exact ⟨rfl, _, Eq.trans (World.drewN_drewN _ _ _) (congrArg (World.drewN _) (Nat.add_assoc _ _ _))⟩))); try go_wp2_with (first | (go_at_call 81; (with_reducible refine (impl_unitOf.calls kj2 a0 t339 _ A5.out).mono ?_); rintro e w' ⟨rfl, ⟨nd, rfl⟩⟩; (try first | exact ⟨rfl, _, World.drewN_drewN _ _ _⟩ | exact ⟨rfl, _, Eq.trans (World.drewN_drewN _ _ _) (congrArg (World.drewN _) (Nat.add_assoc _ _ _))⟩); have p18 : 0 ≤ (0 : Int) := (by omega); have q18 : 0 < a1.size := (by have : (0 : Int) < (a1.size : Int) := zD; omega); have hx18 : ∀ h : 0 < a1.size, ((a1[0]'h).toNat : Int) = bt a1 0 := bt_at a1 0; clear p18; have qi18 : (0 < (a1.size : Int)) = True := eq_true (zD); replace q18 := eq_true q18) | (go_at_call 94; (with_reducible refine (impl_unitTakes.calls (a0.extract 0 (t339 : Int).toNat) (bt a1 0) true _ A19.out).mono ?_); rintro e w' ⟨rfl, ⟨nd, rfl⟩⟩; (try first | exact ⟨rfl, _, World.drewN_drewN _ _ _⟩ | exact ⟨rfl, _, Eq.trans (World.drewN_drewN _ _ _) (congrArg (World.drewN _) (Nat.add_assoc _ _ _))⟩)) | (go_at_call 77; (with_reducible refine (ih kj2 (by have := HJ2.out; omega) (a0.extract (t339 : Int).toNat a0.size) (a1.extract 1 a1.size) t342 _ A22.out).mono ?_); rintro e w' ⟨rfl, ⟨nd, rfl⟩⟩; (try first | exact ⟨rfl, _, World.drewN_drewN _ _ _⟩ | exact ⟨rfl, _, Eq.trans (World.drewN_drewN _ _ _) (congrArg (World.drewN _) (Nat.add_assoc _ _ _))⟩))))
          go_ret
          exact ⟨by first | rfl | (simp; done) | (simp [*]; done) | (simp; rw [Bool.eq_iff_iff]; simp; done), by repeat (first | exact Drawn0.refl _ | apply Drawn0.step)⟩
         ·rw [if_neg c21] at H
          exact absurd H (by simp)
        ·replace c20 := Bool.eq_false_iff.mpr c20
         subst c20
         have H1 : (some false) = some r := by rw [if_neg (show ¬ (false = true) by decide)] at H; exact H
         clear H
         have H := H1
         clear H1
         obtain rfl := Option.some.inj H
         go_wp2_with (first | (go_at_call 81; (with_reducible refine (impl_unitOf.calls kj2 a0 t339 _ A5.out).mono ?_); rintro e w' ⟨rfl, ⟨nd, rfl⟩⟩; (try first | exact ⟨rfl, _, World.drewN_drewN _ _ _⟩ | exact ⟨rfl, _, Eq.trans (World.drewN_drewN _ _ _) (congrArg (World.drewN _) (Nat.add_assoc _ _ _))⟩); have p18 : 0 ≤ (0 : Int) := (by omega); have q18 : 0 < a1.size := (by have : (0 : Int) < (a1.size : Int) := zD; omega); have hx18 : ∀ h : 0 < a1.size, ((a1[0]'h).toNat : Int) = bt a1 0 := bt_at a1 0; clear p18; have qi18 : (0 < (a1.size : Int)) = True := eq_true (zD); replace q18 := eq_true q18) | (go_at_call 94; (with_reducible refine (impl_unitTakes.calls (a0.extract 0 (t339 : Int).toNat) (bt a1 0) false _ A19.out).mono ?_); rintro e w' ⟨rfl, ⟨nd, rfl⟩⟩; (try first | exact ⟨rfl, _, World.drewN_drewN _ _ _⟩ | exact ⟨rfl, _, Eq.trans (World.drewN_drewN _ _ _) (congrArg (World.drewN _) (Nat.add_assoc _ _ _))⟩)))
         repeat (go_quiet (first | (go_at_call 81; (with_reducible refine (impl_unitOf.calls kj2 a0 t339 _ A5.out).mono ?_); rintro e w' ⟨rfl, ⟨nd, rfl⟩⟩; (try first | exact ⟨rfl, _, World.drewN_drewN _ _ _⟩ | exact ⟨rfl, _, Eq.trans (World.drewN_drewN _ _ _) (congrArg (World.drewN _) (Nat.add_assoc _ _ _))⟩); have p18 : 0 ≤ (0 : Int) := (by omega); have q18 : 0 < a1.size := (by have : (0 : Int) < (a1.size : Int) := zD; omega); have hx18 : ∀ h : 0 < a1.size, ((a1[0]'h).toNat : Int) = bt a1 0 := bt_at a1 0; clear p18; have qi18 : (0 < (a1.size : Int)) = True := eq_true (zD); replace q18 := eq_true q18) | (go_at_call 94; (with_reducible refine (impl_unitTakes.calls (a0.extract 0 (t339 : Int).toNat) (bt a1 0) false _ A19.out).mono ?_); rintro e w' ⟨rfl, ⟨nd, rfl⟩⟩; (try first | exact ⟨rfl, _, World.drewN_drewN _ _ _⟩ | exact ⟨rfl, _, Eq.trans (World.drewN_drewN _ _ _) (congrArg (World.drewN _) (Nat.add_assoc _ _ _))⟩))); try go_wp2_with (first | (go_at_call 81; (with_reducible refine (impl_unitOf.calls kj2 a0 t339 _ A5.out).mono ?_); rintro e w' ⟨rfl, ⟨nd, rfl⟩⟩; (try first | exact ⟨rfl, _, World.drewN_drewN _ _ _⟩ | exact ⟨rfl, _, Eq.trans (World.drewN_drewN _ _ _) (congrArg (World.drewN _) (Nat.add_assoc _ _ _))⟩); have p18 : 0 ≤ (0 : Int) := (by omega); have q18 : 0 < a1.size := (by have : (0 : Int) < (a1.size : Int) := zD; omega); have hx18 : ∀ h : 0 < a1.size, ((a1[0]'h).toNat : Int) = bt a1 0 := bt_at a1 0; clear p18; have qi18 : (0 < (a1.size : Int)) = True := eq_true (zD); replace q18 := eq_true q18) | (go_at_call 94; (with_reducible refine (impl_unitTakes.calls (a0.extract 0 (t339 : Int).toNat) (bt a1 0) false _ A19.out).mono ?_); rintro e w' ⟨rfl, ⟨nd, rfl⟩⟩; (try first | exact ⟨rfl, _, World.drewN_drewN _ _ _⟩ | exact ⟨rfl, _, Eq.trans (World.drewN_drewN _ _ _) (congrArg (World.drewN _) (Nat.add_assoc _ _ _))⟩))))
         go_ret
         exact ⟨by first | rfl | (simp; done) | (simp [*]; done) | (simp; rw [Bool.eq_iff_iff]; simp; done), by repeat (first | exact Drawn0.refl _ | apply Drawn0.step)⟩
       ·rw [if_neg c17] at H
        exact absurd H (by simp)
    ·rw [if_neg c7] at H
     exact absurd H (by simp)
   ·rw [if_neg c6] at H
    exact absurd H (by simp)
end Go.Proofs.YtbjgmbhkofgjaaaDoor.PGA

/- The walks of the functions that these laws reach, and what each comes to: printed by this session's program. -/
import Derived.Test.YtpcdhoeoefoeoaaDoorZGAPGAx0
import Derived.Test.YtpcdhoeoefoeoaaDoorZGAPGAx1
import Derived.Test.YtpcdhoeoefoeoaaDoorZGASays
import Derived.Test.YtpcdhoeoefoeoaaDoorZGARegs
namespace Go.Proofs.YtpcdhoeoefoeoaaDoor.PGA
open Go.RowKit Go.Proofs.YtpcdhoeoefoeoaaDoorW.PrintWords Go.Proofs.YtpcdhoeoefoeoaaDoorW.PrintLast Go.Proofs.YtpcdhoeoefoeoaaDoorW.PrintMore
attribute [local go_sem high] Go.Proofs.YtpcdhoeoefoeoaaDoor.Mine.str_gtr Go.Proofs.YtpcdhoeoefoeoaaDoor.Mine.str_leq Go.Proofs.YtpcdhoeoefoeoaaDoor.Mine.str_geq
attribute [local go_sem] max2_int min2_int max_two min_two max_three min_three max_four min_four   -- for this text's walks alone
set_option linter.unusedVariables false
set_option maxHeartbeats 8000000
set_option maxRecDepth 100000
set_option linter.unusedSimpArgs false
/-! ### spec_l3Draw: function 11 -/
def spec_l3Draw.f (k : Nat) (s0_0 : List Int) (s0_1 : Int) (s0_2 : Int) : Option (Int × Int × Int × List ByteArray × Int × Int) := (spec_l1Below.f k s0_0 s0_1 s0_2 3).bind fun bt125 => ((spec_l1Below.f k s0_0 bt125.2.1 bt125.2.2 3).bind fun bt128 => ((spec_l1Below.f k s0_0 bt128.2.1 bt128.2.2 3).bind fun bt131 => ((spec_l1Once.f k s0_0 bt131.2.1 bt131.2.2 3).bind fun bt135 => (if bt135.1 = true then ((spec_l1Str.f k s0_0 bt135.2.1 bt135.2.2 (([(⟨#[48]⟩ : ByteArray), (⟨#[49]⟩ : ByteArray), (⟨#[49, 48]⟩ : ByteArray), (⟨#[97]⟩ : ByteArray), (⟨#[114, 99]⟩ : ByteArray), (⟨#[98, 45, 49]⟩ : ByteArray)] : List ByteArray))).bind fun bt141 => (if ([] : List ByteArray).length < 8796093022208 then ((some (([] : List ByteArray) ++ [bt141.1] : List ByteArray)).bind fun y144 => ((spec_l1Once.f k s0_0 bt141.2.1 bt141.2.2 3).bind fun bt147 => (if bt147.1 = true then ((spec_l1Str.f k s0_0 bt147.2.1 bt147.2.2 (([(⟨#[48]⟩ : ByteArray), (⟨#[50]⟩ : ByteArray), (⟨#[120]⟩ : ByteArray)] : List ByteArray))).bind fun bt153 => (if y144.length < 8796093022208 then (some (bt125.1, bt128.1, bt131.1, (y144 ++ [bt153.1]), bt153.2.1, bt153.2.2)) else (none))) else (some (bt125.1, bt128.1, bt131.1, y144, bt147.2.1, bt147.2.2))))) else (none))) else (some (bt125.1, bt128.1, bt131.1, ([] : List ByteArray), bt135.2.1, bt135.2.2))))))
def spec_l3Draw.T3 : Bool × List (List Nat × List Nat) := (true, [([], []), ([0], [0]), ([], []), ([], []), ([2, 3], [2, 3]), ([4], [4]), ([1, 5, 4], [1, 5]), ([0, 1, 2, 3, 4, 5, 6], []), ([7, 6, 6, 0, 1, 2, 3, 4, 5, 6], [6, 7])])
def spec_l3Draw.B3 : List Nat := [0, 1, 0, 0, 12, 28, 63, 127, 255]
theorem spec_l3Draw.tab3 : rtab .any (opsOf Tryd.f11 3) = spec_l3Draw.T3 := by kernel_rfl
theorem spec_l3Draw.bits3 : waitsOk spec_l3Draw.T3.2 spec_l3Draw.B3 = true := by kernel_rfl
def spec_l3Draw.T5 : Bool × List (List Nat × List Nat) := (true, [([], []), ([0], [0]), ([], []), ([], []), ([2, 3], [2, 3]), ([4], [4]), ([1, 5, 4], [1, 5]), ([0, 1, 2, 3, 4, 5, 6], []), ([7, 6, 6, 0, 1, 2, 3, 4, 5, 6], [6, 7])])
def spec_l3Draw.B5 : List Nat := [0, 1, 0, 0, 12, 28, 63, 127, 255]
theorem spec_l3Draw.tab5 : rtab .any (opsOf Tryd.f11 5) = spec_l3Draw.T5 := by kernel_rfl
theorem spec_l3Draw.bits5 : waitsOk spec_l3Draw.T5.2 spec_l3Draw.B5 = true := by kernel_rfl
theorem spec_l3Draw.calls (k : Nat) (g : Nat) (s0_0 : List Int) (s0_1 : Int) (s0_2 : Int) (r1 : Int) (r2 : Int) (r3 : Int) (r4 : List ByteArray) (r5 : Int) (r6 : Int) (w0 w : World) (hI : IsS48 w0 w g s0_0 s0_1 s0_2) (hB : Below w0.heap.size w0 w) (h : spec_l3Draw.f k s0_0 s0_1 s0_2 = some (r1, r2, r3, r4, r5, r6)) :
  Calls Tryd.prog 11 #[.pointer (some ⟨g, 0, none⟩)] w fun e w' => ∃ v3_ : Value, e = .returned (.agg #[.int .i64 r1, .int .i64 r2, .int .i64 r3, v3_]) ∧ Kd.R Kd.string 9 w' w.heap.size (fun _ => True) v3_ r4 ∧ IsS48 w0 w' g s0_0 r5 r6 ∧ Below w0.heap.size w0 w' ∧ KeepBut w w' g none := by
 have hu26 := Tryd.underlying26
 have HI0 := Aside0.mk hI
 have HK := zA (KeepBut.refl w g none)
 have HL := Aside0.mk hB.size
 clear hI
 have HW0 := Aside0.mk hB.size
 have HB := Aside0.mk hB
 clear hB
 have H : ((spec_l1Below.f k s0_0 s0_1 s0_2 3).bind fun bt125 => ((spec_l1Below.f k s0_0 bt125.2.1 bt125.2.2 3).bind fun bt128 => ((spec_l1Below.f k s0_0 bt128.2.1 bt128.2.2 3).bind fun bt131 => ((spec_l1Once.f k s0_0 bt131.2.1 bt131.2.2 3).bind fun bt135 => (if bt135.1 = true then ((spec_l1Str.f k s0_0 bt135.2.1 bt135.2.2 (([(⟨#[48]⟩ : ByteArray), (⟨#[49]⟩ : ByteArray), (⟨#[49, 48]⟩ : ByteArray), (⟨#[97]⟩ : ByteArray), (⟨#[114, 99]⟩ : ByteArray), (⟨#[98, 45, 49]⟩ : ByteArray)] : List ByteArray))).bind fun bt141 => (if ([] : List ByteArray).length < 8796093022208 then ((some (([] : List ByteArray) ++ [bt141.1] : List ByteArray)).bind fun y144 => ((spec_l1Once.f k s0_0 bt141.2.1 bt141.2.2 3).bind fun bt147 => (if bt147.1 = true then ((spec_l1Str.f k s0_0 bt147.2.1 bt147.2.2 (([(⟨#[48]⟩ : ByteArray), (⟨#[50]⟩ : ByteArray), (⟨#[120]⟩ : ByteArray)] : List ByteArray))).bind fun bt153 => (if y144.length < 8796093022208 then (some (bt125.1, bt128.1, bt131.1, (y144 ++ [bt153.1]), bt153.2.1, bt153.2.2)) else (none))) else (some (bt125.1, bt128.1, bt131.1, y144, bt147.2.1, bt147.2.2))))) else (none))) else (some (bt125.1, bt128.1, bt131.1, ([] : List ByteArray), bt135.2.1, bt135.2.2))))))) = some (r1, r2, r3, r4, r5, r6) := h
 clear h
 replace H := Option.bind_eq_some_iff.mp H
 obtain ⟨⟨t125, t126, t127⟩, A20, H⟩ := H
 try dsimp only at H
 have A2 := Aside0.mk A20
 clear A20
 replace H := Option.bind_eq_some_iff.mp H
 obtain ⟨⟨t128, t129, t130⟩, A30, H⟩ := H
 try dsimp only at H
 have A3 := Aside0.mk A30
 clear A30
 replace H := Option.bind_eq_some_iff.mp H
 obtain ⟨⟨t131, t132, t133⟩, A40, H⟩ := H
 try dsimp only at H
 have A4 := Aside0.mk A40
 clear A40
 replace H := Option.bind_eq_some_iff.mp H
 obtain ⟨⟨t135, t136, t137⟩, A50, H⟩ := H
 try dsimp only at H
 have A5 := Aside0.mk A50
 clear A50
 by_cases c6 : t135 = true
 ·subst c6
  rw [if_pos rfl] at H
  obtain ⟨y138, hy138⟩ : ∃ y_ : List ByteArray, y_ = (([(⟨#[48]⟩ : ByteArray), (⟨#[49]⟩ : ByteArray), (⟨#[49, 48]⟩ : ByteArray), (⟨#[97]⟩ : ByteArray), (⟨#[114, 99]⟩ : ByteArray), (⟨#[98, 45, 49]⟩ : ByteArray)] : List ByteArray)) := ⟨_, rfl⟩
  replace H : ((spec_l1Str.f k s0_0 t136 t137 y138).bind fun bt141 => (if ([] : List ByteArray).length < 8796093022208 then ((some (([] : List ByteArray) ++ [bt141.1] : List ByteArray)).bind fun y144 => ((spec_l1Once.f k s0_0 bt141.2.1 bt141.2.2 3).bind fun bt147 => (if bt147.1 = true then ((spec_l1Str.f k s0_0 bt147.2.1 bt147.2.2 (([(⟨#[48]⟩ : ByteArray), (⟨#[50]⟩ : ByteArray), (⟨#[120]⟩ : ByteArray)] : List ByteArray))).bind fun bt153 => (if y144.length < 8796093022208 then (some (t125, t128, t131, (y144 ++ [bt153.1]), bt153.2.1, bt153.2.2)) else (none))) else (some (t125, t128, t131, y144, bt147.2.1, bt147.2.2))))) else (none))) = some (r1, r2, r3, r4, r5, r6) := by first | (rw [hy138]; with_reducible exact H) | (have H2_ := (Option.bind_some _ _).symm.trans H; rw [hy138]; with_reducible exact H2_) | (have H2_ := (Option.bind_some _ _).symm.trans H; with_reducible exact H2_) | with_reducible exact H | (rw [hy138]; exact H) | exact H
  have Ny138 := Aside0.mk hy138
  clear hy138
  replace H := Option.bind_eq_some_iff.mp H
  obtain ⟨⟨t141, t142, t143⟩, A70, H⟩ := H
  try dsimp only at H
  have A7 := Aside0.mk A70
  clear A70
  by_cases c8 : ([] : List ByteArray).length < 8796093022208
  ·rw [if_pos c8] at H
   have LMc8 := Aside0.mk c8
   clear c8
   obtain ⟨y144, hy144⟩ : ∃ y_ : List ByteArray, y_ = (([] : List ByteArray) ++ [t141]) := ⟨_, rfl⟩
   replace H : ((spec_l1Once.f k s0_0 t142 t143 3).bind fun bt147 => (if bt147.1 = true then ((spec_l1Str.f k s0_0 bt147.2.1 bt147.2.2 (([(⟨#[48]⟩ : ByteArray), (⟨#[50]⟩ : ByteArray), (⟨#[120]⟩ : ByteArray)] : List ByteArray))).bind fun bt153 => (if y144.length < 8796093022208 then (some (t125, t128, t131, (y144 ++ [bt153.1]), bt153.2.1, bt153.2.2)) else (none))) else (some (t125, t128, t131, y144, bt147.2.1, bt147.2.2)))) = some (r1, r2, r3, r4, r5, r6) := by first | (rw [hy144]; with_reducible exact H) | (have H2_ := (Option.bind_some _ _).symm.trans H; rw [hy144]; with_reducible exact H2_) | (have H2_ := (Option.bind_some _ _).symm.trans H; with_reducible exact H2_) | with_reducible exact H | (rw [hy144]; exact H) | exact H
   have Ny144 := Aside0.mk hy144
   clear hy144
   replace H := Option.bind_eq_some_iff.mp H
   obtain ⟨⟨t147, t148, t149⟩, A90, H⟩ := H
   try dsimp only at H
   have A9 := Aside0.mk A90
   clear A90
   by_cases c10 : t147 = true
   ·subst c10
    rw [if_pos rfl] at H
    obtain ⟨y150, hy150⟩ : ∃ y_ : List ByteArray, y_ = (([(⟨#[48]⟩ : ByteArray), (⟨#[50]⟩ : ByteArray), (⟨#[120]⟩ : ByteArray)] : List ByteArray)) := ⟨_, rfl⟩
    replace H : ((spec_l1Str.f k s0_0 t148 t149 y150).bind fun bt153 => (if y144.length < 8796093022208 then (some (t125, t128, t131, (y144 ++ [bt153.1]), bt153.2.1, bt153.2.2)) else (none))) = some (r1, r2, r3, r4, r5, r6) := by first | (rw [hy150]; with_reducible exact H) | (have H2_ := (Option.bind_some _ _).symm.trans H; rw [hy150]; with_reducible exact H2_) | (have H2_ := (Option.bind_some _ _).symm.trans H; with_reducible exact H2_) | with_reducible exact H | (rw [hy150]; exact H) | exact H
    have Ny150 := Aside0.mk hy150
    clear hy150
    replace H := Option.bind_eq_some_iff.mp H
    obtain ⟨⟨t153, t154, t155⟩, A110, H⟩ := H
    try dsimp only at H
    have A11 := Aside0.mk A110
    clear A110
    by_cases c12 : y144.length < 8796093022208
    ·rw [if_pos c12] at H
     have LMc12 := Aside0.mk c12
     clear c12
     obtain ⟨y156, hy156⟩ : ∃ y_ : List ByteArray, y_ = (y144 ++ [t153]) := ⟨_, rfl⟩
     replace H : (some (t125, t128, t131, y156, t154, t155)) = some (r1, r2, r3, r4, r5, r6) := by first | (rw [hy156]; with_reducible exact H) | (have H2_ := (Option.bind_some _ _).symm.trans H; rw [hy156]; with_reducible exact H2_) | (have H2_ := (Option.bind_some _ _).symm.trans H; with_reducible exact H2_) | with_reducible exact H | (rw [hy156]; exact H) | exact H
     have Ny156 := Aside0.mk hy156
     clear hy156
     simp only [Option.some.injEq, Prod.mk.injEq] at H
     obtain ⟨rfl, rfl, rfl, rfl, rfl, rfl⟩ := H
     go_enter Tryd.func11, Tryd.ntmps11
     try go_wp2_with (first | ((with_reducible refine zd 2 ?_); refine ze 2 26 #[.int .i64 0, .int .i64 0, .int .i64 0, .slice none 0 0] ?_; intro gb124 hg w13 hbox hb; replace HB := zA (below_step (zX HB.out (IsS48.ge HI0.out)) hb); have BK124 := zA (hbox); have GW124 := zA ((by rw [hg]; exact (keep_size (w := w) (g := g) (row := none) (zQ HK.out)) : w.heap.size ≤ gb124)); have GE124 := zA ((Nat.le_trans HW0.out (by rw [hg]; exact (keep_size (w := w) (g := g) (row := none) (zQ HK.out)) : w.heap.size ≤ gb124) : w0.heap.size ≤ gb124)); replace HK := zA (KeepBut.trans (zQ HK.out) (KeepBut.of_below hb g none) (.inl rfl)); have NB0_124 := zA ((by rw [hg]; exact Nat.ne_of_lt (IsS48.lt (show IsS48 w0 _ g s0_0 s0_1 s0_2 from by repeat (first | (with_reducible first | exact HI0.out | apply IsS48.alloc | apply IsS48.drewN | apply IsS48.drew | apply IsS48.set_1 | apply IsS48.set_2) | exact HI0.out))) : g ≠ gb124)); have NB124_0 := zA ((by rw [hg]; exact Nat.ne_of_gt (IsS48.lt (show IsS48 w0 _ g s0_0 s0_1 s0_2 from by repeat (first | (with_reducible first | exact HI0.out | apply IsS48.alloc | apply IsS48.drewN | apply IsS48.drew | apply IsS48.set_1 | apply IsS48.set_2) | exact HI0.out))) : gb124 ≠ g)); replace HI0 := zA (IsS48.below (by repeat (first | (with_reducible first | exact HI0.out | apply IsS48.alloc | apply IsS48.drewN | apply IsS48.drew | apply IsS48.set_1 | apply IsS48.set_2) | exact HI0.out)) hb); clear hb hbox hg) | ((with_reducible refine zq 19 ?_); refine zg (some 5) Tryd.func19 #[.pointer (some ⟨g, 0, none⟩), .int .i64 3] ?_; (with_reducible refine (spec_l1Below.calls k g s0_0 s0_1 s0_2 3 t125 t126 t127 w0 _ ?side1 ?side2 A2.out).mono ?_); (case side1 => repeat (first | (with_reducible first | exact HI0.out | apply IsS48.alloc | apply IsS48.drewN | apply IsS48.drew | apply IsS48.set_1 | apply IsS48.set_2 | refine IsS48.far ?_ NB0_124.out _) | exact HI0.out)); (case side2 => repeat (first | (with_reducible first | exact HB.out | apply below_alloc | apply pw_below_drewN | apply below_drew1 | refine below_set ?_ (IsS48.ge HI0.out) | refine below_set ?_ GE124.out) | exact HB.out)); rintro e w14 ⟨rfl, hi, hb, hk⟩; refine ⟨_, rfl, ?_⟩; replace BK124 := zA (KeepBut.blk hk (g' := gb124) (o := .cells #[.int .i64 0, .int .i64 0, .int .i64 0, .slice none 0 0] 26 (0, 0)) (zK BK124.out) NB124_0.out (by simp)); replace HK := zA (KeepBut.trans (zQ HK.out) hk (.inl rfl)); replace HB := zA (hb); replace HI0 := zA (hi); (try clear hb hk hi)) | ((with_reducible refine zq 19 ?_); refine zg (some 7) Tryd.func19 #[.pointer (some ⟨g, 0, none⟩), .int .i64 3] ?_; (with_reducible refine (spec_l1Below.calls k g s0_0 t126 t127 3 t128 t129 t130 w0 _ ?side1 ?side2 A3.out).mono ?_); (case side1 => repeat (first | (with_reducible first | exact HI0.out | apply IsS48.alloc | apply IsS48.drewN | apply IsS48.drew | apply IsS48.set_1 | apply IsS48.set_2 | refine IsS48.far ?_ NB0_124.out _) | exact HI0.out)); (case side2 => repeat (first | (with_reducible first | exact HB.out | apply below_alloc | apply pw_below_drewN | apply below_drew1 | refine below_set ?_ (IsS48.ge HI0.out) | refine below_set ?_ GE124.out) | exact HB.out)); rintro e w15 ⟨rfl, hi, hb, hk⟩; refine ⟨_, rfl, ?_⟩; replace BK124 := zA (KeepBut.blk hk (g' := gb124) (o := .cells #[.int .i64 0, .int .i64 0, .int .i64 0, .slice none 0 0] 26 (0, 0)) (zK BK124.out) NB124_0.out (by simp)); replace HK := zA (KeepBut.trans (zQ HK.out) hk (.inl rfl)); replace HB := zA (hb); replace HI0 := zA (hi); (try clear hb hk hi)) | ((with_reducible refine zq 19 ?_); refine zg (some 9) Tryd.func19 #[.pointer (some ⟨g, 0, none⟩), .int .i64 3] ?_; (with_reducible refine (spec_l1Below.calls k g s0_0 t129 t130 3 t131 t132 t133 w0 _ ?side1 ?side2 A4.out).mono ?_); (case side1 => repeat (first | (with_reducible first | exact HI0.out | apply IsS48.alloc | apply IsS48.drewN | apply IsS48.drew | apply IsS48.set_1 | apply IsS48.set_2 | refine IsS48.far ?_ NB0_124.out _) | exact HI0.out)); (case side2 => repeat (first | (with_reducible first | exact HB.out | apply below_alloc | apply pw_below_drewN | apply below_drew1 | refine below_set ?_ (IsS48.ge HI0.out) | refine below_set ?_ GE124.out) | exact HB.out)); rintro e w16 ⟨rfl, hi, hb, hk⟩; refine ⟨_, rfl, ?_⟩; replace BK124 := zA (KeepBut.blk hk (g' := gb124) (o := .cells #[.int .i64 0, .int .i64 0, .int .i64 0, .slice none 0 0] 26 (0, 0)) (zK BK124.out) NB124_0.out (by simp)); replace HK := zA (KeepBut.trans (zQ HK.out) hk (.inl rfl)); replace HB := zA (hb); replace HI0 := zA (hi); (try clear hb hk hi)) | ((with_reducible refine zd 3 ?_); refine ze 3 26 #[.int .i64 0, .int .i64 0, .int .i64 0, .slice none 0 0] ?_; intro gb134 hg w17 hbox hb; replace HB := zA (below_step (zX HB.out (IsS48.ge HI0.out)) hb); have BK134 := zA (hbox); have GW134 := zA ((by rw [hg]; exact (keep_size (w := w) (g := g) (row := none) (zQ HK.out)) : w.heap.size ≤ gb134)); have GE134 := zA ((Nat.le_trans HW0.out (by rw [hg]; exact (keep_size (w := w) (g := g) (row := none) (zQ HK.out)) : w.heap.size ≤ gb134) : w0.heap.size ≤ gb134)); replace HK := zA (KeepBut.trans (zQ HK.out) (KeepBut.of_below hb g none) (.inl rfl)); have NB124_134 := zA (zL hg (zK BK124.out)); have NB134_124 := zA (zJ hg (zK BK124.out)); replace BK124 := zb BK124 hb; have NB0_134 := zA ((by rw [hg]; exact Nat.ne_of_lt (IsS48.lt (show IsS48 w0 _ g s0_0 t132 t133 from by repeat (first | (with_reducible first | exact HI0.out | apply IsS48.alloc | apply IsS48.drewN | apply IsS48.drew | apply IsS48.set_1 | apply IsS48.set_2 | refine IsS48.far ?_ NB0_124.out _) | exact HI0.out))) : g ≠ gb134)); have NB134_0 := zA ((by rw [hg]; exact Nat.ne_of_gt (IsS48.lt (show IsS48 w0 _ g s0_0 t132 t133 from by repeat (first | (with_reducible first | exact HI0.out | apply IsS48.alloc | apply IsS48.drewN | apply IsS48.drew | apply IsS48.set_1 | apply IsS48.set_2 | refine IsS48.far ?_ NB0_124.out _) | exact HI0.out))) : gb134 ≠ g)); replace HI0 := zA (IsS48.below (by repeat (first | (with_reducible first | exact HI0.out | apply IsS48.alloc | apply IsS48.drewN | apply IsS48.drew | apply IsS48.set_1 | apply IsS48.set_2 | refine IsS48.far ?_ NB0_124.out _) | exact HI0.out)) hb); clear hb hbox hg; have hnb18 := NB134_124.out; have hnc18 := NB124_134.out; have hnb19 := NB134_0.out; have hnc19 := NB0_134.out; obtain ⟨hcz20_0, hcz20_1, hcz20_2, hcz20_3, hfz20_0, hfz20_1, hfz20_2, hfz20_3⟩ := ze4 BK134.out) | ((with_reducible refine zq 20 ?_); refine zg (some 12) Tryd.func20 #[.pointer (some ⟨g, 0, none⟩), .int .i64 3] ?_; (with_reducible refine (spec_l1Once.calls k g s0_0 t132 t133 3 true t136 t137 w0 _ ?side1 ?side2 A5.out).mono ?_); (case side1 => repeat (first | (with_reducible first | exact HI0.out | apply IsS48.alloc | apply IsS48.drewN | apply IsS48.drew | apply IsS48.set_1 | apply IsS48.set_2 | refine IsS48.far ?_ NB0_124.out _ | refine IsS48.far ?_ NB0_134.out _) | exact HI0.out)); (case side2 => repeat (first | (with_reducible first | exact HB.out | apply below_alloc | apply pw_below_drewN | apply below_drew1 | refine below_set ?_ (IsS48.ge HI0.out) | refine below_set ?_ GE124.out | refine below_set ?_ GE134.out) | exact HB.out)); rintro e w21 ⟨rfl, hi, hb, hk⟩; refine ⟨_, rfl, ?_⟩; replace BK124 := zA (KeepBut.blk hk (g' := gb124) (o := .cells #[.int .i64 0, .int .i64 0, .int .i64 0, .slice none 0 0] 26 (0, 0)) (zK BK124.out) NB124_0.out (by simp)); replace BK134 := zA (KeepBut.blk hk (g' := gb134) (o := .cells #[.int .i64 t125, .int .i64 t128, .int .i64 t131, .slice none 0 0] 26 (0, 0)) (by (with_reducible repeat (first | refine blk_drewN ?_ _ | refine blk_drew ?_ | refine blk_alloc ?_ _)); refine blk_put (cs := #[.int .i64 t125, .int .i64 t128, .int .i64 t131, .slice none 0 0]) ?_ 3 _ rfl; (with_reducible repeat (first | refine blk_drewN ?_ _ | refine blk_drew ?_ | refine blk_alloc ?_ _)); refine blk_put (cs := #[.int .i64 t125, .int .i64 t128, .int .i64 0, .slice none 0 0]) ?_ 2 _ rfl; (with_reducible repeat (first | refine blk_drewN ?_ _ | refine blk_drew ?_ | refine blk_alloc ?_ _)); refine blk_put (cs := #[.int .i64 t125, .int .i64 0, .int .i64 0, .slice none 0 0]) ?_ 1 _ rfl; (with_reducible repeat (first | refine blk_drewN ?_ _ | refine blk_drew ?_ | refine blk_alloc ?_ _)); refine blk_put (cs := #[.int .i64 0, .int .i64 0, .int .i64 0, .slice none 0 0]) ?_ 0 _ rfl; (with_reducible repeat (first | refine blk_drewN ?_ _ | refine blk_drew ?_ | refine blk_alloc ?_ _)); exact BK134.out) NB134_0.out (by simp)); replace HK := zA (KeepBut.trans (zQ HK.out) hk (.inl rfl)); replace HB := zA (hb); replace HI0 := zA (hi); (try clear hb hk hi)))
     replace BK124 := zA (blk_drew BK124.out)
     replace BK134 := zA (blk_drew BK134.out)
     replace HI0 := zA (IsS48.drew HI0.out)
     replace HK := zA (keep_drew HK.out)
     replace HB := zA (below_drew1 HB.out)
     refine start_ (n := 9) (S := fun w' => w'.cell? ⟨gb134, 0, none⟩ = some (.int .i64 t125) ∧ w'.cell? ⟨gb134, 1, none⟩ = some (.int .i64 t128) ∧ w'.cell? ⟨gb134, 2, none⟩ = some (.int .i64 t131) ∧ w'.cell? ⟨gb134, 3, none⟩ = some (.slice none 0 0)) (ds := [8]) (Array.replicate 9 false) (by kernel_rfl) rfl rfl ⟨(blk_cell BK134.out 0).trans rfl, (blk_cell BK134.out 1).trans rfl, (blk_cell BK134.out 2).trans rfl, (blk_cell BK134.out 3).trans rfl⟩ (fun hHeld => ?_); refine with_tabW spec_l3Draw.tab3 spec_l3Draw.bits3 (fun HT_ HW_ => ?_)
     generalize w21.drew = w22 at BK124 BK134 HI0 HK HB hHeld ⊢
     refine zp 0 13 ?_
     refine zp 2 15 ?_
     refine zt 1 14 ?_
     refine zo 3 (some 16) fun K hK => ?_
     refine Kd.R_lit_step Kd.string _ 9 ?hg (N := 16) ?hd (xs := ([(⟨#[48]⟩ : ByteArray), (⟨#[49]⟩ : ByteArray), (⟨#[49, 48]⟩ : ByteArray), (⟨#[97]⟩ : ByteArray), (⟨#[114, 99]⟩ : ByteArray), (⟨#[98, 45, 49]⟩ : ByteArray)] : List ByteArray)) (inner := [.string (⟨#[48]⟩ : ByteArray), .string (⟨#[49]⟩ : ByteArray), .string (⟨#[49, 48]⟩ : ByteArray), .string (⟨#[97]⟩ : ByteArray), .string (⟨#[114, 99]⟩ : ByteArray), .string (⟨#[98, 45, 49]⟩ : ByteArray)]) (ok := fun _ => True) (okp := fun _ => True) ?hr ?hp (fun _ hk => hk) trivial (Below.refl _ _) (Nat.le_refl _) (by simp) ?_; (case hd => rfl); (case hg => rfl); (case hr => first | (go_simp; done) | (go_simp; rfl)); (case hp => exact (Reps.one (show Kd.M Kd.string _ _ _ (⟨#[48]⟩ : ByteArray) [.string (⟨#[48]⟩ : ByteArray)] from rfl) (Reps.one (show Kd.M Kd.string _ _ _ (⟨#[49]⟩ : ByteArray) [.string (⟨#[49]⟩ : ByteArray)] from rfl) (Reps.one (show Kd.M Kd.string _ _ _ (⟨#[49, 48]⟩ : ByteArray) [.string (⟨#[49, 48]⟩ : ByteArray)] from rfl) (Reps.one (show Kd.M Kd.string _ _ _ (⟨#[97]⟩ : ByteArray) [.string (⟨#[97]⟩ : ByteArray)] from rfl) (Reps.one (show Kd.M Kd.string _ _ _ (⟨#[114, 99]⟩ : ByteArray) [.string (⟨#[114, 99]⟩ : ByteArray)] from rfl) (Reps.one (show Kd.M Kd.string _ _ _ (⟨#[98, 45, 49]⟩ : ByteArray) [.string (⟨#[98, 45, 49]⟩ : ByteArray)] from rfl) (Reps.none _ _))))))))
     intro v139 w23 ho24 hb hg_ hnew_
     clear hg_ hnew_
     (first | rw [← Ny138.out] at ho24 | (simp only [Int.reduceToNat] at ho24; rw [← Ny138.out] at ho24))
     have HO140 := zA (Kd.R_lower ho24 (keep_size (w := w) (g := g) (row := none) (zQ HK.out)))
     replace BK124 := zb BK124 hb
     replace BK134 := zb BK134 hb
     replace HK := zA (KeepBut.trans (zQ HK.out) (KeepBut.of_below hb g none) (.inl rfl))
     replace HB := zA (below_step (zX HB.out (IsS48.ge HI0.out)) hb)
     replace HI0 := zA (IsS48.below (by repeat (first | (with_reducible first | exact HI0.out | apply IsS48.alloc | apply IsS48.drewN | apply IsS48.drew | apply IsS48.set_1 | apply IsS48.set_2 | refine IsS48.far ?_ NB0_124.out _ | refine IsS48.far ?_ NB0_134.out _) | exact HI0.out)) hb)
     clear hb ho24
     obtain ⟨Ao25, co25, eo25⟩ := Kd.R_slice HO140.out
     (first | subst eo25 | (injection eo25 with f1_ f2_ f3_; have f4_ := f1_.symm; have f5_ := f3_.symm; clear f1_ f2_ f3_; subst f4_; subst f5_))
     refine hK.out _ _ ⟨(blk_cell BK134.out 0).trans rfl, (blk_cell BK134.out 1).trans rfl, (blk_cell BK134.out 2).trans rfl, (blk_cell BK134.out 3).trans rfl⟩ (fun hHeld => ?_)
     clear hK K
     refine zn ?_
     refine zo 4 (some 17) fun K hK => ?_
     refine goes_ Tryd.func21 (by kernel_rfl) rfl #[.pointer (some ⟨g, 0, none⟩), .slice Ao25 y138.length co25] (by rfl) rfl rfl zM ?_
     with_reducible refine (spec_l1Str.calls k g s0_0 t136 t137 _ _ y138 t141 t142 t143 w0 _ ?side1 ?side2 ?side3 ?side4 ?side5 A7.out).mono ?_
     (case side1 => repeat (first | (with_reducible first | exact HI0.out | apply IsS48.alloc | apply IsS48.drewN | apply IsS48.drew | apply IsS48.set_1 | apply IsS48.set_2 | refine IsS48.far ?_ NB0_124.out _ | refine IsS48.far ?_ NB0_134.out _) | exact HI0.out))
     (case side2 => repeat (first | (with_reducible first | exact HB.out | apply below_alloc | apply pw_below_drewN | apply below_drew1 | refine below_set ?_ (IsS48.ge HI0.out) | refine below_set ?_ GE124.out | refine below_set ?_ GE134.out) | exact HB.out))
     (case side3 => repeat (first | exact (Kd.R_reads' HO140.out).2.2 | (with_reducible refine Kd.C_alloc ?_ _) | (with_reducible refine Kd.C_drewN ?_ _) | (with_reducible refine Kd.C_drew ?_)))
     (case side4 => exact (Kd.R_reads' HO140.out).2.1)
     (case side5 => exact far_slice (IsS48.own_ne HI0.out HO140.out (by decide)))
     rintro e w26 ⟨rfl, hi, hb, hk⟩
     refine ⟨_, rfl, ?_⟩
     replace BK124 := zA (KeepBut.blk hk (g' := gb124) (o := .cells #[.int .i64 0, .int .i64 0, .int .i64 0, .slice none 0 0] 26 (0, 0)) (zK BK124.out) NB124_0.out (by simp))
     replace BK134 := zA (KeepBut.blk hk (g' := gb134) (o := .cells #[.int .i64 t125, .int .i64 t128, .int .i64 t131, .slice none 0 0] 26 (0, 0)) (zK BK134.out) NB134_0.out (by simp))
     replace HO140 := zA (Kd.R_mono (Kd.R_keep (IsS48.apart (show IsS48 w0 _ g s0_0 t136 t137 from by repeat (first | (with_reducible first | exact HI0.out | apply IsS48.alloc | apply IsS48.drewN | apply IsS48.drew | apply IsS48.set_1 | apply IsS48.set_2 | refine IsS48.far ?_ NB0_124.out _ | refine IsS48.far ?_ NB0_134.out _) | exact HI0.out)) (zR HO140.out) (by decide)) hk (fun _ h => h.2)) (fun _ h => h.1))
     replace HK := zA (KeepBut.trans (zQ HK.out) hk (.inl rfl))
     replace HB := zA (hb)
     replace HI0 := zA (hi)
     (try clear hb hk hi)
     refine hK.out _ _ ⟨(blk_cell BK134.out 0).trans rfl, (blk_cell BK134.out 1).trans rfl, (blk_cell BK134.out 2).trans rfl, (blk_cell BK134.out 3).trans rfl⟩ (fun hHeld => ?_)
     clear hK K
     refine zn ?_
     refine zo 5 (some 18) fun K hK => ?_
     refine value_ (w1 := ?_) (v := ?_) (by rfl) rfl ?_ ?_
     rotate_left 2
     ·go_simp
      constructor
      ·rfl
      ·rfl
     refine hK.out _ _ ⟨(blk_cell (blk_alloc BK134.out _) 0).trans rfl, (blk_cell (blk_alloc BK134.out _) 1).trans rfl, (blk_cell (blk_alloc BK134.out _) 2).trans rfl, (blk_cell (blk_alloc BK134.out _) 3).trans rfl⟩ (fun hHeld => ?_)
     clear hK K
     refine zn ?_
     refine zo 6 (some 19) fun K hK => ?_
     refine Kd.R_append_step Kd.string w.heap.size (by rfl) (.tmp 14) (.tmp 18) 24 9 (.string ⟨#[]⟩) 16 rfl Tryd.underlying24 info9 rfl (by decide) (by omega) (.slice none 0 0) ([] : List ByteArray) t141 [.string t141] (fun k_ => some k_ ≠ (.slice Ao25 y138.length co25 : Value).ownBlock) (fun _ => False) rfl rfl ?aP (fun _ hk => hk.elim) ?aF ?aO (Below.refl _ _) ?aS ?aL ?_
     (case aP => exact rfl)
     (case aF => exact (fun k_ hk => Kd.fresh' (Kd.R_lt (zR HO140.out)) k_ hk))
     (case aO => exact ((Kd.R_nil _ _ _ _ (fun k_ => some k_ ≠ (.slice Ao25 y138.length co25 : Value).ownBlock))))
     (case aS => exact (keep_size (w := w) (g := g) (row := none) (zQ HK.out)))
     (case aL => have := LMc8.out; omega)
     intro v145 w27 ho hb hg hat
     rw [← Ny144.out] at ho
     replace BK124 := zA (blk_grown (g := gb124) (o := .cells #[.int .i64 0, .int .i64 0, .int .i64 0, .slice none 0 0] 26 (0, 0)) (zK BK124.out) hg (by simp [Value.ownBlock]))
     replace BK134 := zA (blk_grown (g := gb134) (o := .cells #[.int .i64 t125, .int .i64 t128, .int .i64 t131, .slice none 0 0] 26 (0, 0)) (zK BK134.out) hg (by simp [Value.ownBlock]))
     replace HO140 := zA (Kd.R_after (Kd.R_apart_nil (zR HO140.out)) hg hat)
     replace HB := zA (below_weaken (zX HB.out (IsS48.ge HI0.out)) HL.out hb)
     replace HI0 := zA (IsS48.grown (by repeat (first | (with_reducible first | exact HI0.out | apply IsS48.alloc | apply IsS48.drewN | apply IsS48.drew | apply IsS48.set_1 | apply IsS48.set_2 | refine IsS48.far ?_ NB0_124.out _ | refine IsS48.far ?_ NB0_134.out _) | exact HI0.out)) hg (by simp [Value.ownBlock]))
     replace HK := zA (KeepBut.trans (zQ HK.out) (KeepBut.of_grown hg g) (.inl (by simp [Value.ownBlock])))
     have HO146 := zA (ho)
     clear ho hb hg hat
     obtain ⟨Ao28, co28, eo28⟩ := Kd.R_slice HO146.out
     (first | subst eo28 | (injection eo28 with f1_ f2_ f3_; have f4_ := f1_.symm; have f5_ := f3_.symm; clear f1_ f2_ f3_; subst f4_; subst f5_))
     refine hK.out _ _ ⟨(blk_cell BK134.out 0).trans rfl, (blk_cell BK134.out 1).trans rfl, (blk_cell BK134.out 2).trans rfl, (blk_cell BK134.out 3).trans rfl⟩ (fun hHeld => ?_)
     clear hK K
     refine zn ?_
     refine zp 7 20 ?_
     refine last_ (i := 8) (N := none) #[true, true, true, true, true, true, true, true, true] rfl rfl (one_of HT_.out (by kernel_rfl)) (by decide) (fun K hK => ?_)
     have hs29 : w27.cell? ⟨gb134, 3, none⟩ = some (.slice none 0 0) := (blk_cell BK134.out 3).trans rfl
     have hfs29 := zF BK134.out 3
     have hns29_0 := NB124_134.out
     have hms29_0 := NB134_124.out
     refine skip_ (w1 := ?_) (by rfl) rfl ?_ ?_
     rotate_left
     ·go_simp
      rfl
     refine hK.out _ _ ?_
     clear hK K
     refine done_ (done_of HT_.out (by kernel_rfl)) ?_
     try go_wp2_with (first | ((with_reducible refine zq 20 ?_); refine zg (some 22) Tryd.func20 #[.pointer (some ⟨g, 0, none⟩), .int .i64 3] ?_; (with_reducible refine (spec_l1Once.calls k g s0_0 t142 t143 3 true t148 t149 w0 _ ?side1 ?side2 A9.out).mono ?_); (case side1 => repeat (first | (with_reducible first | exact HI0.out | apply IsS48.alloc | apply IsS48.drewN | apply IsS48.drew | apply IsS48.set_1 | apply IsS48.set_2 | refine IsS48.far ?_ NB0_124.out _ | refine IsS48.far ?_ NB0_134.out _) | exact HI0.out)); (case side2 => repeat (first | (with_reducible first | exact HB.out | apply below_alloc | apply pw_below_drewN | apply below_drew1 | refine below_set ?_ (IsS48.ge HI0.out) | refine below_set ?_ GE124.out | refine below_set ?_ GE134.out) | exact HB.out)); rintro e w30 ⟨rfl, hi, hb, hk⟩; refine ⟨_, rfl, ?_⟩; replace BK124 := zA (KeepBut.blk hk (g' := gb124) (o := .cells #[.int .i64 0, .int .i64 0, .int .i64 0, .slice none 0 0] 26 (0, 0)) (zK BK124.out) NB124_0.out (by simp)); replace HO140 := zA (Kd.R_mono (Kd.R_keep (IsS48.apart (show IsS48 w0 _ g s0_0 t142 t143 from by repeat (first | (with_reducible first | exact HI0.out | apply IsS48.alloc | apply IsS48.drewN | apply IsS48.drew | apply IsS48.set_1 | apply IsS48.set_2 | refine IsS48.far ?_ NB0_124.out _ | refine IsS48.far ?_ NB0_134.out _) | exact HI0.out)) (zR (Kd.R_mono (Kd.R_far (p := ⟨gb134, 3, none⟩) (Kd.R_types HO140.out BK134.out (by decide)) (fun _ hk => hk.2) (.slice Ao28 y144.length co28)) (fun _ h_ => h_.1))) (by decide)) hk (fun _ h => h.2)) (fun _ h => h.1)); replace HO146 := zA (Kd.R_mono (Kd.R_keep (IsS48.apart (show IsS48 w0 _ g s0_0 t142 t143 from by repeat (first | (with_reducible first | exact HI0.out | apply IsS48.alloc | apply IsS48.drewN | apply IsS48.drew | apply IsS48.set_1 | apply IsS48.set_2 | refine IsS48.far ?_ NB0_124.out _ | refine IsS48.far ?_ NB0_134.out _) | exact HI0.out)) (zR (Kd.R_mono (Kd.R_far (p := ⟨gb134, 3, none⟩) (Kd.R_types HO146.out BK134.out (by decide)) (fun _ hk => hk.2) (.slice Ao28 y144.length co28)) (fun _ h_ => h_.1))) (by decide)) hk (fun _ h => h.2)) (fun _ h => h.1)); replace BK134 := zA (KeepBut.blk hk (g' := gb134) (o := .cells #[.int .i64 t125, .int .i64 t128, .int .i64 t131, .slice Ao28 y144.length co28] 26 (0, 0)) (by (with_reducible repeat (first | refine blk_drewN ?_ _ | refine blk_drew ?_ | refine blk_alloc ?_ _)); refine blk_put (cs := #[.int .i64 t125, .int .i64 t128, .int .i64 t131, .slice none 0 0]) ?_ 3 _ rfl; (with_reducible repeat (first | refine blk_drewN ?_ _ | refine blk_drew ?_ | refine blk_alloc ?_ _)); exact BK134.out) NB134_0.out (by simp)); replace HK := zA (KeepBut.trans (zQ HK.out) hk (.inl rfl)); replace HB := zA (hb); replace HI0 := zA (hi); (try clear hb hk hi)))
     replace HO140 := zA (Kd.R_drew HO140.out)
     replace HO146 := zA (Kd.R_drew HO146.out)
     replace BK124 := zA (blk_drew BK124.out)
     replace BK134 := zA (blk_drew BK134.out)
     replace HI0 := zA (IsS48.drew HI0.out)
     replace HK := zA (keep_drew HK.out)
     replace HB := zA (below_drew1 HB.out)
     refine start_ (n := 9) (S := fun w' => w'.cell? ⟨gb134, 0, none⟩ = some (.int .i64 t125) ∧ w'.cell? ⟨gb134, 1, none⟩ = some (.int .i64 t128) ∧ w'.cell? ⟨gb134, 2, none⟩ = some (.int .i64 t131) ∧ w'.cell? ⟨gb134, 3, none⟩ = some (.slice Ao28 y144.length co28)) (ds := [8]) (Array.replicate 9 false) (by kernel_rfl) rfl rfl ⟨(blk_cell BK134.out 0).trans rfl, (blk_cell BK134.out 1).trans rfl, (blk_cell BK134.out 2).trans rfl, (blk_cell BK134.out 3).trans rfl⟩ (fun hHeld => ?_); refine with_tabW spec_l3Draw.tab5 spec_l3Draw.bits5 (fun HT_ HW_ => ?_)
     generalize w30.drew = w31 at HO140 HO146 BK124 BK134 HI0 HK HB hHeld ⊢
     refine zp 0 23 ?_
     refine zp 2 25 ?_
     refine zt 1 24 ?_
     refine zo 3 (some 26) fun K hK => ?_
     refine Kd.R_lit_step Kd.string _ 9 ?hg (N := 26) ?hd (xs := ([(⟨#[48]⟩ : ByteArray), (⟨#[50]⟩ : ByteArray), (⟨#[120]⟩ : ByteArray)] : List ByteArray)) (inner := [.string (⟨#[48]⟩ : ByteArray), .string (⟨#[50]⟩ : ByteArray), .string (⟨#[120]⟩ : ByteArray)]) (ok := fun _ => True) (okp := fun _ => True) ?hr ?hp (fun _ hk => hk) trivial (Below.refl _ _) (Nat.le_refl _) (by simp) ?_; (case hd => rfl); (case hg => rfl); (case hr => first | (go_simp; done) | (go_simp; rfl)); (case hp => exact (Reps.one (show Kd.M Kd.string _ _ _ (⟨#[48]⟩ : ByteArray) [.string (⟨#[48]⟩ : ByteArray)] from rfl) (Reps.one (show Kd.M Kd.string _ _ _ (⟨#[50]⟩ : ByteArray) [.string (⟨#[50]⟩ : ByteArray)] from rfl) (Reps.one (show Kd.M Kd.string _ _ _ (⟨#[120]⟩ : ByteArray) [.string (⟨#[120]⟩ : ByteArray)] from rfl) (Reps.none _ _)))))
     intro v151 w32 ho33 hb hg_ hnew_
     clear hg_ hnew_
     (first | rw [← Ny150.out] at ho33 | (simp only [Int.reduceToNat] at ho33; rw [← Ny150.out] at ho33))
     have HO152 := zA (Kd.R_lower (Kd.R_new' (Kd.R_new' ho33 (Kd.R_lt (zR HO140.out))) (Kd.R_lt (zR HO146.out))) (keep_size (w := w) (g := g) (row := none) (zQ HK.out)))
     replace HO140 := zA (Kd.R_elder' (zR HO140.out) (Kd.R_base ho33) hb)
     replace HO146 := zA (Kd.R_elder' (zR HO146.out) (Kd.R_base ho33) hb)
     replace BK124 := zb BK124 hb
     replace BK134 := zb BK134 hb
     replace HK := zA (KeepBut.trans (zQ HK.out) (KeepBut.of_below hb g none) (.inl rfl))
     replace HB := zA (below_step (zX HB.out (IsS48.ge HI0.out)) hb)
     replace HI0 := zA (IsS48.below (by repeat (first | (with_reducible first | exact HI0.out | apply IsS48.alloc | apply IsS48.drewN | apply IsS48.drew | apply IsS48.set_1 | apply IsS48.set_2 | refine IsS48.far ?_ NB0_124.out _ | refine IsS48.far ?_ NB0_134.out _) | exact HI0.out)) hb)
     clear hb ho33
     obtain ⟨Ao34, co34, eo34⟩ := Kd.R_slice HO152.out
     (first | subst eo34 | (injection eo34 with f1_ f2_ f3_; have f4_ := f1_.symm; have f5_ := f3_.symm; clear f1_ f2_ f3_; subst f4_; subst f5_))
     refine hK.out _ _ ⟨(blk_cell BK134.out 0).trans rfl, (blk_cell BK134.out 1).trans rfl, (blk_cell BK134.out 2).trans rfl, (blk_cell BK134.out 3).trans rfl⟩ (fun hHeld => ?_)
     clear hK K
     refine zn ?_
     refine zo 4 (some 27) fun K hK => ?_
     refine goes_ Tryd.func21 (by kernel_rfl) rfl #[.pointer (some ⟨g, 0, none⟩), .slice Ao34 y150.length co34] (by rfl) rfl rfl zM ?_
     with_reducible refine (spec_l1Str.calls k g s0_0 t148 t149 _ _ y150 t153 t154 t155 w0 _ ?side1 ?side2 ?side3 ?side4 ?side5 A11.out).mono ?_
     (case side1 => repeat (first | (with_reducible first | exact HI0.out | apply IsS48.alloc | apply IsS48.drewN | apply IsS48.drew | apply IsS48.set_1 | apply IsS48.set_2 | refine IsS48.far ?_ NB0_124.out _ | refine IsS48.far ?_ NB0_134.out _) | exact HI0.out))
     (case side2 => repeat (first | (with_reducible first | exact HB.out | apply below_alloc | apply pw_below_drewN | apply below_drew1 | refine below_set ?_ (IsS48.ge HI0.out) | refine below_set ?_ GE124.out | refine below_set ?_ GE134.out) | exact HB.out))
     (case side3 => repeat (first | exact (Kd.R_reads' HO152.out).2.2 | (with_reducible refine Kd.C_alloc ?_ _) | (with_reducible refine Kd.C_drewN ?_ _) | (with_reducible refine Kd.C_drew ?_)))
     (case side4 => exact (Kd.R_reads' HO152.out).2.1)
     (case side5 => exact far_slice (IsS48.own_ne HI0.out HO152.out (by decide)))
     rintro e w35 ⟨rfl, hi, hb, hk⟩
     refine ⟨_, rfl, ?_⟩
     replace BK124 := zA (KeepBut.blk hk (g' := gb124) (o := .cells #[.int .i64 0, .int .i64 0, .int .i64 0, .slice none 0 0] 26 (0, 0)) (zK BK124.out) NB124_0.out (by simp))
     replace BK134 := zA (KeepBut.blk hk (g' := gb134) (o := .cells #[.int .i64 t125, .int .i64 t128, .int .i64 t131, .slice Ao28 y144.length co28] 26 (0, 0)) (zK BK134.out) NB134_0.out (by simp))
     replace HO140 := zA (Kd.R_mono (Kd.R_keep (IsS48.apart (show IsS48 w0 _ g s0_0 t148 t149 from by repeat (first | (with_reducible first | exact HI0.out | apply IsS48.alloc | apply IsS48.drewN | apply IsS48.drew | apply IsS48.set_1 | apply IsS48.set_2 | refine IsS48.far ?_ NB0_124.out _ | refine IsS48.far ?_ NB0_134.out _) | exact HI0.out)) (zR HO140.out) (by decide)) hk (fun _ h => h.2)) (fun _ h => h.1))
     replace HO146 := zA (Kd.R_mono (Kd.R_keep (IsS48.apart (show IsS48 w0 _ g s0_0 t148 t149 from by repeat (first | (with_reducible first | exact HI0.out | apply IsS48.alloc | apply IsS48.drewN | apply IsS48.drew | apply IsS48.set_1 | apply IsS48.set_2 | refine IsS48.far ?_ NB0_124.out _ | refine IsS48.far ?_ NB0_134.out _) | exact HI0.out)) (zR HO146.out) (by decide)) hk (fun _ h => h.2)) (fun _ h => h.1))
     replace HO152 := zA (Kd.R_mono (Kd.R_keep (IsS48.apart (show IsS48 w0 _ g s0_0 t148 t149 from by repeat (first | (with_reducible first | exact HI0.out | apply IsS48.alloc | apply IsS48.drewN | apply IsS48.drew | apply IsS48.set_1 | apply IsS48.set_2 | refine IsS48.far ?_ NB0_124.out _ | refine IsS48.far ?_ NB0_134.out _) | exact HI0.out)) (zR HO152.out) (by decide)) hk (fun _ h => h.2)) (fun _ h => h.1))
     replace HK := zA (KeepBut.trans (zQ HK.out) hk (.inl rfl))
     replace HB := zA (hb)
     replace HI0 := zA (hi)
     (try clear hb hk hi)
     refine hK.out _ _ ⟨(blk_cell BK134.out 0).trans rfl, (blk_cell BK134.out 1).trans rfl, (blk_cell BK134.out 2).trans rfl, (blk_cell BK134.out 3).trans rfl⟩ (fun hHeld => ?_)
     clear hK K
     refine zn ?_
     refine zo 5 (some 28) fun K hK => ?_
     refine value_ (w1 := ?_) (v := ?_) (by rfl) rfl ?_ ?_
     rotate_left 2
     ·go_simp
      constructor
      ·rfl
      ·rfl
     refine hK.out _ _ ⟨(blk_cell (blk_alloc BK134.out _) 0).trans rfl, (blk_cell (blk_alloc BK134.out _) 1).trans rfl, (blk_cell (blk_alloc BK134.out _) 2).trans rfl, (blk_cell (blk_alloc BK134.out _) 3).trans rfl⟩ (fun hHeld => ?_)
     clear hK K
     refine zn ?_
     refine zo 6 (some 29) fun K hK => ?_
     refine Kd.R_append_step Kd.string w.heap.size (by rfl) (.tmp 24) (.tmp 28) 24 9 (.string ⟨#[]⟩) 16 rfl Tryd.underlying24 info9 rfl (by decide) (by omega) (.slice Ao28 y144.length co28) y144 t153 [.string t153] (fun k_ => some k_ ≠ (.slice Ao25 y138.length co25 : Value).ownBlock ∧ some k_ ≠ (.slice Ao34 y150.length co34 : Value).ownBlock) (fun _ => False) rfl rfl ?aP (fun _ hk => hk.elim) ?aF ?aO (Below.refl _ _) ?aS ?aL ?_
     (case aP => exact rfl)
     (case aF => exact (fun k_ hk => ⟨Kd.fresh' (Kd.R_lt (zR HO140.out)) k_ hk, Kd.fresh' (Kd.R_lt (zR HO152.out)) k_ hk⟩))
     (case aO => exact (zR HO146.out))
     (case aS => exact (keep_size (w := w) (g := g) (row := none) (zQ HK.out)))
     (case aL => have := LMc12.out; omega)
     intro v157 w36 ho hb hg hat
     rw [← Ny156.out] at ho
     replace BK124 := zA (blk_grown (g := gb124) (o := .cells #[.int .i64 0, .int .i64 0, .int .i64 0, .slice none 0 0] 26 (0, 0)) (zK BK124.out) hg (Kd.R_ne HO146.out BK124.out (by decide)))
     replace BK134 := zA (blk_grown (g := gb134) (o := .cells #[.int .i64 t125, .int .i64 t128, .int .i64 t131, .slice Ao28 y144.length co28] 26 (0, 0)) (zK BK134.out) hg (Kd.R_ne HO146.out BK134.out (by decide)))
     replace HO140 := zA (Kd.R_after (ok := (fun k_ => some k_ ≠ (.slice Ao34 y150.length co34 : Value).ownBlock)) (by (with_reducible repeat (first | apply Kd.R_alloc | apply Kd.R_drewN | apply Kd.R_drew)); exact Kd.R_mono HO140.out (fun _ hk => ⟨hk.2, hk.1.2⟩)) hg hat)
     replace HO152 := zA (Kd.R_after (ok := (fun k_ => some k_ ≠ (.slice Ao25 y138.length co25 : Value).ownBlock)) (by (with_reducible repeat (first | apply Kd.R_alloc | apply Kd.R_drewN | apply Kd.R_drew)); exact Kd.R_mono HO152.out (fun _ hk => ⟨hk.1.2, hk.2⟩)) hg hat)
     replace HB := zA (below_weaken (zX HB.out (IsS48.ge HI0.out)) HL.out hb)
     replace HI0 := zA (IsS48.grown (by repeat (first | (with_reducible first | exact HI0.out | apply IsS48.alloc | apply IsS48.drewN | apply IsS48.drew | apply IsS48.set_1 | apply IsS48.set_2 | refine IsS48.far ?_ NB0_124.out _ | refine IsS48.far ?_ NB0_134.out _) | exact HI0.out)) hg (IsS48.own_ne HI0.out HO146.out (by decide)))
     replace HK := zA (KeepBut.trans (zQ HK.out) (KeepBut.of_grown hg g) (Kd.R_base2 HO146.out))
     have HO158 := zA (ho)
     clear HO146
     clear ho hb hg hat
     obtain ⟨Ao37, co37, eo37⟩ := Kd.R_slice HO158.out
     (first | subst eo37 | (injection eo37 with f1_ f2_ f3_; have f4_ := f1_.symm; have f5_ := f3_.symm; clear f1_ f2_ f3_; subst f4_; subst f5_))
     refine hK.out _ _ ⟨(blk_cell BK134.out 0).trans rfl, (blk_cell BK134.out 1).trans rfl, (blk_cell BK134.out 2).trans rfl, (blk_cell BK134.out 3).trans rfl⟩ (fun hHeld => ?_)
     clear hK K
     refine zn ?_
     refine zp 7 30 ?_
     refine last_ (i := 8) (N := none) #[true, true, true, true, true, true, true, true, true] rfl rfl (one_of HT_.out (by kernel_rfl)) (by decide) (fun K hK => ?_)
     have hs38 : w36.cell? ⟨gb134, 3, none⟩ = some (.slice Ao28 y144.length co28) := (blk_cell BK134.out 3).trans rfl
     have hfs38 := zF BK134.out 3
     have hns38_0 := NB124_134.out
     have hms38_0 := NB134_124.out
     refine skip_ (w1 := ?_) (by rfl) rfl ?_ ?_
     rotate_left
     ·go_simp
      rfl
     refine hK.out _ _ ?_
     clear hK K
     refine done_ (done_of HT_.out (by kernel_rfl)) ?_
     obtain ⟨hcz39_0, hcz39_1, hcz39_2, hcz39_3, hfz39_0, hfz39_1, hfz39_2, hfz39_3⟩ := ze4 BK134.out
     have hnb40 := NB124_0.out
     have hnc40 := NB0_124.out
     obtain ⟨hcz41_0, hcz41_1, hcz41_2, hcz41_3, hfz41_0, hfz41_1, hfz41_2, hfz41_3⟩ := ze4 BK124.out
     try go_wp2
     refine bodyPost_ret (results_cell_row rfl _ _ gb124 26 #[.int .i64 t125, .int .i64 t128, .int .i64 t131, .slice Ao37 y156.length co37] (0, 0) _ rfl (by (with_reducible repeat (first | refine blk_drewN ?_ _ | refine blk_drew ?_ | refine blk_alloc ?_ _)); refine blk_put (cs := #[.int .i64 t125, .int .i64 t128, .int .i64 t131, .slice none 0 0]) ?_ 3 _ rfl; (with_reducible repeat (first | refine blk_drewN ?_ _ | refine blk_drew ?_ | refine blk_alloc ?_ _)); refine blk_put (cs := #[.int .i64 t125, .int .i64 t128, .int .i64 0, .slice none 0 0]) ?_ 2 _ rfl; (with_reducible repeat (first | refine blk_drewN ?_ _ | refine blk_drew ?_ | refine blk_alloc ?_ _)); refine blk_put (cs := #[.int .i64 t125, .int .i64 0, .int .i64 0, .slice none 0 0]) ?_ 1 _ rfl; (with_reducible repeat (first | refine blk_drewN ?_ _ | refine blk_drew ?_ | refine blk_alloc ?_ _)); refine blk_put (cs := #[.int .i64 0, .int .i64 0, .int .i64 0, .slice none 0 0]) ?_ 0 _ rfl; (with_reducible repeat (first | refine blk_drewN ?_ _ | refine blk_drew ?_ | refine blk_alloc ?_ _)); refine blk_far ?_ NB124_134.out _; (with_reducible repeat (first | refine blk_drewN ?_ _ | refine blk_drew ?_ | refine blk_alloc ?_ _)); exact BK124.out) Tryd.underlying26 rfl (by kernel_rfl)) rfl ?_
     exact ⟨_, zE, by (with_reducible repeat (first | apply Kd.R_alloc | apply Kd.R_drewN | apply Kd.R_drew)); exact Kd.R_mono (Kd.R_far (p := ⟨gb124, 3, none⟩) (Kd.R_far (p := ⟨gb124, 2, none⟩) (Kd.R_far (p := ⟨gb124, 1, none⟩) (Kd.R_far (p := ⟨gb124, 0, none⟩) (Kd.R_far (p := ⟨gb134, 3, none⟩) (Kd.R_types (Kd.R_types HO158.out BK134.out (by decide)) BK124.out (by decide)) (fun _ hk => hk.1.2) (.slice Ao37 y156.length co37)) (fun _ hk => hk.2) (.int .i64 t125)) (fun _ hk => hk.2) (.int .i64 t128)) (fun _ hk => hk.2) (.int .i64 t131)) (fun _ hk => hk.2) (.slice Ao37 y156.length co37)) (fun _ hk => trivial), by repeat (first | (with_reducible first | exact HI0.out | apply IsS48.alloc | apply IsS48.drewN | apply IsS48.drew | apply IsS48.set_1 | apply IsS48.set_2 | refine IsS48.far ?_ NB0_124.out _ | refine IsS48.far ?_ NB0_134.out _) | exact HI0.out), zX HB.out (IsS48.ge HI0.out), zQ HK.out⟩
    ·rw [if_neg c12] at H
     exact absurd H (by simp)
   ·replace c10 := Bool.eq_false_iff.mpr c10
    subst c10
    rw [if_neg zFT] at H
    simp only [Option.some.injEq, Prod.mk.injEq] at H
    obtain ⟨rfl, rfl, rfl, rfl, rfl, rfl⟩ := H
    go_enter Tryd.func11, Tryd.ntmps11
    try go_wp2_with (first | ((with_reducible refine zd 2 ?_); refine ze 2 26 #[.int .i64 0, .int .i64 0, .int .i64 0, .slice none 0 0] ?_; intro gb124 hg w42 hbox hb; replace HB := zA (below_step (zX HB.out (IsS48.ge HI0.out)) hb); have BK124 := zA (hbox); have GW124 := zA ((by rw [hg]; exact (keep_size (w := w) (g := g) (row := none) (zQ HK.out)) : w.heap.size ≤ gb124)); have GE124 := zA ((Nat.le_trans HW0.out (by rw [hg]; exact (keep_size (w := w) (g := g) (row := none) (zQ HK.out)) : w.heap.size ≤ gb124) : w0.heap.size ≤ gb124)); replace HK := zA (KeepBut.trans (zQ HK.out) (KeepBut.of_below hb g none) (.inl rfl)); have NB0_124 := zA ((by rw [hg]; exact Nat.ne_of_lt (IsS48.lt (show IsS48 w0 _ g s0_0 s0_1 s0_2 from by repeat (first | (with_reducible first | exact HI0.out | apply IsS48.alloc | apply IsS48.drewN | apply IsS48.drew | apply IsS48.set_1 | apply IsS48.set_2) | exact HI0.out))) : g ≠ gb124)); have NB124_0 := zA ((by rw [hg]; exact Nat.ne_of_gt (IsS48.lt (show IsS48 w0 _ g s0_0 s0_1 s0_2 from by repeat (first | (with_reducible first | exact HI0.out | apply IsS48.alloc | apply IsS48.drewN | apply IsS48.drew | apply IsS48.set_1 | apply IsS48.set_2) | exact HI0.out))) : gb124 ≠ g)); replace HI0 := zA (IsS48.below (by repeat (first | (with_reducible first | exact HI0.out | apply IsS48.alloc | apply IsS48.drewN | apply IsS48.drew | apply IsS48.set_1 | apply IsS48.set_2) | exact HI0.out)) hb); clear hb hbox hg) | ((with_reducible refine zq 19 ?_); refine zg (some 5) Tryd.func19 #[.pointer (some ⟨g, 0, none⟩), .int .i64 3] ?_; (with_reducible refine (spec_l1Below.calls k g s0_0 s0_1 s0_2 3 t125 t126 t127 w0 _ ?side1 ?side2 A2.out).mono ?_); (case side1 => repeat (first | (with_reducible first | exact HI0.out | apply IsS48.alloc | apply IsS48.drewN | apply IsS48.drew | apply IsS48.set_1 | apply IsS48.set_2 | refine IsS48.far ?_ NB0_124.out _) | exact HI0.out)); (case side2 => repeat (first | (with_reducible first | exact HB.out | apply below_alloc | apply pw_below_drewN | apply below_drew1 | refine below_set ?_ (IsS48.ge HI0.out) | refine below_set ?_ GE124.out) | exact HB.out)); rintro e w43 ⟨rfl, hi, hb, hk⟩; refine ⟨_, rfl, ?_⟩; replace BK124 := zA (KeepBut.blk hk (g' := gb124) (o := .cells #[.int .i64 0, .int .i64 0, .int .i64 0, .slice none 0 0] 26 (0, 0)) (zK BK124.out) NB124_0.out (by simp)); replace HK := zA (KeepBut.trans (zQ HK.out) hk (.inl rfl)); replace HB := zA (hb); replace HI0 := zA (hi); (try clear hb hk hi)) | ((with_reducible refine zq 19 ?_); refine zg (some 7) Tryd.func19 #[.pointer (some ⟨g, 0, none⟩), .int .i64 3] ?_; (with_reducible refine (spec_l1Below.calls k g s0_0 t126 t127 3 t128 t129 t130 w0 _ ?side1 ?side2 A3.out).mono ?_); (case side1 => repeat (first | (with_reducible first | exact HI0.out | apply IsS48.alloc | apply IsS48.drewN | apply IsS48.drew | apply IsS48.set_1 | apply IsS48.set_2 | refine IsS48.far ?_ NB0_124.out _) | exact HI0.out)); (case side2 => repeat (first | (with_reducible first | exact HB.out | apply below_alloc | apply pw_below_drewN | apply below_drew1 | refine below_set ?_ (IsS48.ge HI0.out) | refine below_set ?_ GE124.out) | exact HB.out)); rintro e w44 ⟨rfl, hi, hb, hk⟩; refine ⟨_, rfl, ?_⟩; replace BK124 := zA (KeepBut.blk hk (g' := gb124) (o := .cells #[.int .i64 0, .int .i64 0, .int .i64 0, .slice none 0 0] 26 (0, 0)) (zK BK124.out) NB124_0.out (by simp)); replace HK := zA (KeepBut.trans (zQ HK.out) hk (.inl rfl)); replace HB := zA (hb); replace HI0 := zA (hi); (try clear hb hk hi)) | ((with_reducible refine zq 19 ?_); refine zg (some 9) Tryd.func19 #[.pointer (some ⟨g, 0, none⟩), .int .i64 3] ?_; (with_reducible refine (spec_l1Below.calls k g s0_0 t129 t130 3 t131 t132 t133 w0 _ ?side1 ?side2 A4.out).mono ?_); (case side1 => repeat (first | (with_reducible first | exact HI0.out | apply IsS48.alloc | apply IsS48.drewN | apply IsS48.drew | apply IsS48.set_1 | apply IsS48.set_2 | refine IsS48.far ?_ NB0_124.out _) | exact HI0.out)); (case side2 => repeat (first | (with_reducible first | exact HB.out | apply below_alloc | apply pw_below_drewN | apply below_drew1 | refine below_set ?_ (IsS48.ge HI0.out) | refine below_set ?_ GE124.out) | exact HB.out)); rintro e w45 ⟨rfl, hi, hb, hk⟩; refine ⟨_, rfl, ?_⟩; replace BK124 := zA (KeepBut.blk hk (g' := gb124) (o := .cells #[.int .i64 0, .int .i64 0, .int .i64 0, .slice none 0 0] 26 (0, 0)) (zK BK124.out) NB124_0.out (by simp)); replace HK := zA (KeepBut.trans (zQ HK.out) hk (.inl rfl)); replace HB := zA (hb); replace HI0 := zA (hi); (try clear hb hk hi)) | ((with_reducible refine zd 3 ?_); refine ze 3 26 #[.int .i64 0, .int .i64 0, .int .i64 0, .slice none 0 0] ?_; intro gb134 hg w46 hbox hb; replace HB := zA (below_step (zX HB.out (IsS48.ge HI0.out)) hb); have BK134 := zA (hbox); have GW134 := zA ((by rw [hg]; exact (keep_size (w := w) (g := g) (row := none) (zQ HK.out)) : w.heap.size ≤ gb134)); have GE134 := zA ((Nat.le_trans HW0.out (by rw [hg]; exact (keep_size (w := w) (g := g) (row := none) (zQ HK.out)) : w.heap.size ≤ gb134) : w0.heap.size ≤ gb134)); replace HK := zA (KeepBut.trans (zQ HK.out) (KeepBut.of_below hb g none) (.inl rfl)); have NB124_134 := zA (zL hg (zK BK124.out)); have NB134_124 := zA (zJ hg (zK BK124.out)); replace BK124 := zb BK124 hb; have NB0_134 := zA ((by rw [hg]; exact Nat.ne_of_lt (IsS48.lt (show IsS48 w0 _ g s0_0 t132 t133 from by repeat (first | (with_reducible first | exact HI0.out | apply IsS48.alloc | apply IsS48.drewN | apply IsS48.drew | apply IsS48.set_1 | apply IsS48.set_2 | refine IsS48.far ?_ NB0_124.out _) | exact HI0.out))) : g ≠ gb134)); have NB134_0 := zA ((by rw [hg]; exact Nat.ne_of_gt (IsS48.lt (show IsS48 w0 _ g s0_0 t132 t133 from by repeat (first | (with_reducible first | exact HI0.out | apply IsS48.alloc | apply IsS48.drewN | apply IsS48.drew | apply IsS48.set_1 | apply IsS48.set_2 | refine IsS48.far ?_ NB0_124.out _) | exact HI0.out))) : gb134 ≠ g)); replace HI0 := zA (IsS48.below (by repeat (first | (with_reducible first | exact HI0.out | apply IsS48.alloc | apply IsS48.drewN | apply IsS48.drew | apply IsS48.set_1 | apply IsS48.set_2 | refine IsS48.far ?_ NB0_124.out _) | exact HI0.out)) hb); clear hb hbox hg; have hnb47 := NB134_124.out; have hnc47 := NB124_134.out; have hnb48 := NB134_0.out; have hnc48 := NB0_134.out; obtain ⟨hcz49_0, hcz49_1, hcz49_2, hcz49_3, hfz49_0, hfz49_1, hfz49_2, hfz49_3⟩ := ze4 BK134.out) | ((with_reducible refine zq 20 ?_); refine zg (some 12) Tryd.func20 #[.pointer (some ⟨g, 0, none⟩), .int .i64 3] ?_; (with_reducible refine (spec_l1Once.calls k g s0_0 t132 t133 3 true t136 t137 w0 _ ?side1 ?side2 A5.out).mono ?_); (case side1 => repeat (first | (with_reducible first | exact HI0.out | apply IsS48.alloc | apply IsS48.drewN | apply IsS48.drew | apply IsS48.set_1 | apply IsS48.set_2 | refine IsS48.far ?_ NB0_124.out _ | refine IsS48.far ?_ NB0_134.out _) | exact HI0.out)); (case side2 => repeat (first | (with_reducible first | exact HB.out | apply below_alloc | apply pw_below_drewN | apply below_drew1 | refine below_set ?_ (IsS48.ge HI0.out) | refine below_set ?_ GE124.out | refine below_set ?_ GE134.out) | exact HB.out)); rintro e w50 ⟨rfl, hi, hb, hk⟩; refine ⟨_, rfl, ?_⟩; replace BK124 := zA (KeepBut.blk hk (g' := gb124) (o := .cells #[.int .i64 0, .int .i64 0, .int .i64 0, .slice none 0 0] 26 (0, 0)) (zK BK124.out) NB124_0.out (by simp)); replace BK134 := zA (KeepBut.blk hk (g' := gb134) (o := .cells #[.int .i64 t125, .int .i64 t128, .int .i64 t131, .slice none 0 0] 26 (0, 0)) (by (with_reducible repeat (first | refine blk_drewN ?_ _ | refine blk_drew ?_ | refine blk_alloc ?_ _)); refine blk_put (cs := #[.int .i64 t125, .int .i64 t128, .int .i64 t131, .slice none 0 0]) ?_ 3 _ rfl; (with_reducible repeat (first | refine blk_drewN ?_ _ | refine blk_drew ?_ | refine blk_alloc ?_ _)); refine blk_put (cs := #[.int .i64 t125, .int .i64 t128, .int .i64 0, .slice none 0 0]) ?_ 2 _ rfl; (with_reducible repeat (first | refine blk_drewN ?_ _ | refine blk_drew ?_ | refine blk_alloc ?_ _)); refine blk_put (cs := #[.int .i64 t125, .int .i64 0, .int .i64 0, .slice none 0 0]) ?_ 1 _ rfl; (with_reducible repeat (first | refine blk_drewN ?_ _ | refine blk_drew ?_ | refine blk_alloc ?_ _)); refine blk_put (cs := #[.int .i64 0, .int .i64 0, .int .i64 0, .slice none 0 0]) ?_ 0 _ rfl; (with_reducible repeat (first | refine blk_drewN ?_ _ | refine blk_drew ?_ | refine blk_alloc ?_ _)); exact BK134.out) NB134_0.out (by simp)); replace HK := zA (KeepBut.trans (zQ HK.out) hk (.inl rfl)); replace HB := zA (hb); replace HI0 := zA (hi); (try clear hb hk hi)))
    replace BK124 := zA (blk_drew BK124.out)
    replace BK134 := zA (blk_drew BK134.out)
    replace HI0 := zA (IsS48.drew HI0.out)
    replace HK := zA (keep_drew HK.out)
    replace HB := zA (below_drew1 HB.out)
    refine start_ (n := 9) (S := fun w' => w'.cell? ⟨gb134, 0, none⟩ = some (.int .i64 t125) ∧ w'.cell? ⟨gb134, 1, none⟩ = some (.int .i64 t128) ∧ w'.cell? ⟨gb134, 2, none⟩ = some (.int .i64 t131) ∧ w'.cell? ⟨gb134, 3, none⟩ = some (.slice none 0 0)) (ds := [8]) (Array.replicate 9 false) (by kernel_rfl) rfl rfl ⟨(blk_cell BK134.out 0).trans rfl, (blk_cell BK134.out 1).trans rfl, (blk_cell BK134.out 2).trans rfl, (blk_cell BK134.out 3).trans rfl⟩ (fun hHeld => ?_); refine with_tabW spec_l3Draw.tab3 spec_l3Draw.bits3 (fun HT_ HW_ => ?_)
    generalize w50.drew = w51 at BK124 BK134 HI0 HK HB hHeld ⊢
    refine zp 0 13 ?_
    refine zp 2 15 ?_
    refine zt 1 14 ?_
    refine zo 3 (some 16) fun K hK => ?_
    refine Kd.R_lit_step Kd.string _ 9 ?hg (N := 16) ?hd (xs := ([(⟨#[48]⟩ : ByteArray), (⟨#[49]⟩ : ByteArray), (⟨#[49, 48]⟩ : ByteArray), (⟨#[97]⟩ : ByteArray), (⟨#[114, 99]⟩ : ByteArray), (⟨#[98, 45, 49]⟩ : ByteArray)] : List ByteArray)) (inner := [.string (⟨#[48]⟩ : ByteArray), .string (⟨#[49]⟩ : ByteArray), .string (⟨#[49, 48]⟩ : ByteArray), .string (⟨#[97]⟩ : ByteArray), .string (⟨#[114, 99]⟩ : ByteArray), .string (⟨#[98, 45, 49]⟩ : ByteArray)]) (ok := fun _ => True) (okp := fun _ => True) ?hr ?hp (fun _ hk => hk) trivial (Below.refl _ _) (Nat.le_refl _) (by simp) ?_; (case hd => rfl); (case hg => rfl); (case hr => first | (go_simp; done) | (go_simp; rfl)); (case hp => exact (Reps.one (show Kd.M Kd.string _ _ _ (⟨#[48]⟩ : ByteArray) [.string (⟨#[48]⟩ : ByteArray)] from rfl) (Reps.one (show Kd.M Kd.string _ _ _ (⟨#[49]⟩ : ByteArray) [.string (⟨#[49]⟩ : ByteArray)] from rfl) (Reps.one (show Kd.M Kd.string _ _ _ (⟨#[49, 48]⟩ : ByteArray) [.string (⟨#[49, 48]⟩ : ByteArray)] from rfl) (Reps.one (show Kd.M Kd.string _ _ _ (⟨#[97]⟩ : ByteArray) [.string (⟨#[97]⟩ : ByteArray)] from rfl) (Reps.one (show Kd.M Kd.string _ _ _ (⟨#[114, 99]⟩ : ByteArray) [.string (⟨#[114, 99]⟩ : ByteArray)] from rfl) (Reps.one (show Kd.M Kd.string _ _ _ (⟨#[98, 45, 49]⟩ : ByteArray) [.string (⟨#[98, 45, 49]⟩ : ByteArray)] from rfl) (Reps.none _ _))))))))
    intro v139 w52 ho53 hb hg_ hnew_
    clear hg_ hnew_
    (first | rw [← Ny138.out] at ho53 | (simp only [Int.reduceToNat] at ho53; rw [← Ny138.out] at ho53))
    have HO140 := zA (Kd.R_lower ho53 (keep_size (w := w) (g := g) (row := none) (zQ HK.out)))
    replace BK124 := zb BK124 hb
    replace BK134 := zb BK134 hb
    replace HK := zA (KeepBut.trans (zQ HK.out) (KeepBut.of_below hb g none) (.inl rfl))
    replace HB := zA (below_step (zX HB.out (IsS48.ge HI0.out)) hb)
    replace HI0 := zA (IsS48.below (by repeat (first | (with_reducible first | exact HI0.out | apply IsS48.alloc | apply IsS48.drewN | apply IsS48.drew | apply IsS48.set_1 | apply IsS48.set_2 | refine IsS48.far ?_ NB0_124.out _ | refine IsS48.far ?_ NB0_134.out _) | exact HI0.out)) hb)
    clear hb ho53
    obtain ⟨Ao54, co54, eo54⟩ := Kd.R_slice HO140.out
    (first | subst eo54 | (injection eo54 with f1_ f2_ f3_; have f4_ := f1_.symm; have f5_ := f3_.symm; clear f1_ f2_ f3_; subst f4_; subst f5_))
    refine hK.out _ _ ⟨(blk_cell BK134.out 0).trans rfl, (blk_cell BK134.out 1).trans rfl, (blk_cell BK134.out 2).trans rfl, (blk_cell BK134.out 3).trans rfl⟩ (fun hHeld => ?_)
    clear hK K
    refine zn ?_
    refine zo 4 (some 17) fun K hK => ?_
    refine goes_ Tryd.func21 (by kernel_rfl) rfl #[.pointer (some ⟨g, 0, none⟩), .slice Ao54 y138.length co54] (by rfl) rfl rfl zM ?_
    with_reducible refine (spec_l1Str.calls k g s0_0 t136 t137 _ _ y138 t141 t142 t143 w0 _ ?side1 ?side2 ?side3 ?side4 ?side5 A7.out).mono ?_
    (case side1 => repeat (first | (with_reducible first | exact HI0.out | apply IsS48.alloc | apply IsS48.drewN | apply IsS48.drew | apply IsS48.set_1 | apply IsS48.set_2 | refine IsS48.far ?_ NB0_124.out _ | refine IsS48.far ?_ NB0_134.out _) | exact HI0.out))
    (case side2 => repeat (first | (with_reducible first | exact HB.out | apply below_alloc | apply pw_below_drewN | apply below_drew1 | refine below_set ?_ (IsS48.ge HI0.out) | refine below_set ?_ GE124.out | refine below_set ?_ GE134.out) | exact HB.out))
    (case side3 => repeat (first | exact (Kd.R_reads' HO140.out).2.2 | (with_reducible refine Kd.C_alloc ?_ _) | (with_reducible refine Kd.C_drewN ?_ _) | (with_reducible refine Kd.C_drew ?_)))
    (case side4 => exact (Kd.R_reads' HO140.out).2.1)
    (case side5 => exact far_slice (IsS48.own_ne HI0.out HO140.out (by decide)))
    rintro e w55 ⟨rfl, hi, hb, hk⟩
    refine ⟨_, rfl, ?_⟩
    replace BK124 := zA (KeepBut.blk hk (g' := gb124) (o := .cells #[.int .i64 0, .int .i64 0, .int .i64 0, .slice none 0 0] 26 (0, 0)) (zK BK124.out) NB124_0.out (by simp))
    replace BK134 := zA (KeepBut.blk hk (g' := gb134) (o := .cells #[.int .i64 t125, .int .i64 t128, .int .i64 t131, .slice none 0 0] 26 (0, 0)) (zK BK134.out) NB134_0.out (by simp))
    replace HO140 := zA (Kd.R_mono (Kd.R_keep (IsS48.apart (show IsS48 w0 _ g s0_0 t136 t137 from by repeat (first | (with_reducible first | exact HI0.out | apply IsS48.alloc | apply IsS48.drewN | apply IsS48.drew | apply IsS48.set_1 | apply IsS48.set_2 | refine IsS48.far ?_ NB0_124.out _ | refine IsS48.far ?_ NB0_134.out _) | exact HI0.out)) (zR HO140.out) (by decide)) hk (fun _ h => h.2)) (fun _ h => h.1))
    replace HK := zA (KeepBut.trans (zQ HK.out) hk (.inl rfl))
    replace HB := zA (hb)
    replace HI0 := zA (hi)
    (try clear hb hk hi)
    refine hK.out _ _ ⟨(blk_cell BK134.out 0).trans rfl, (blk_cell BK134.out 1).trans rfl, (blk_cell BK134.out 2).trans rfl, (blk_cell BK134.out 3).trans rfl⟩ (fun hHeld => ?_)
    clear hK K
    refine zn ?_
    refine zo 5 (some 18) fun K hK => ?_
    refine value_ (w1 := ?_) (v := ?_) (by rfl) rfl ?_ ?_
    rotate_left 2
    ·go_simp
     constructor
     ·rfl
     ·rfl
    refine hK.out _ _ ⟨(blk_cell (blk_alloc BK134.out _) 0).trans rfl, (blk_cell (blk_alloc BK134.out _) 1).trans rfl, (blk_cell (blk_alloc BK134.out _) 2).trans rfl, (blk_cell (blk_alloc BK134.out _) 3).trans rfl⟩ (fun hHeld => ?_)
    clear hK K
    refine zn ?_
    refine zo 6 (some 19) fun K hK => ?_
    refine Kd.R_append_step Kd.string w.heap.size (by rfl) (.tmp 14) (.tmp 18) 24 9 (.string ⟨#[]⟩) 16 rfl Tryd.underlying24 info9 rfl (by decide) (by omega) (.slice none 0 0) ([] : List ByteArray) t141 [.string t141] (fun k_ => some k_ ≠ (.slice Ao54 y138.length co54 : Value).ownBlock) (fun _ => False) rfl rfl ?aP (fun _ hk => hk.elim) ?aF ?aO (Below.refl _ _) ?aS ?aL ?_
    (case aP => exact rfl)
    (case aF => exact (fun k_ hk => Kd.fresh' (Kd.R_lt (zR HO140.out)) k_ hk))
    (case aO => exact ((Kd.R_nil _ _ _ _ (fun k_ => some k_ ≠ (.slice Ao54 y138.length co54 : Value).ownBlock))))
    (case aS => exact (keep_size (w := w) (g := g) (row := none) (zQ HK.out)))
    (case aL => have := LMc8.out; omega)
    intro v145 w56 ho hb hg hat
    rw [← Ny144.out] at ho
    replace BK124 := zA (blk_grown (g := gb124) (o := .cells #[.int .i64 0, .int .i64 0, .int .i64 0, .slice none 0 0] 26 (0, 0)) (zK BK124.out) hg (by simp [Value.ownBlock]))
    replace BK134 := zA (blk_grown (g := gb134) (o := .cells #[.int .i64 t125, .int .i64 t128, .int .i64 t131, .slice none 0 0] 26 (0, 0)) (zK BK134.out) hg (by simp [Value.ownBlock]))
    replace HO140 := zA (Kd.R_after (Kd.R_apart_nil (zR HO140.out)) hg hat)
    replace HB := zA (below_weaken (zX HB.out (IsS48.ge HI0.out)) HL.out hb)
    replace HI0 := zA (IsS48.grown (by repeat (first | (with_reducible first | exact HI0.out | apply IsS48.alloc | apply IsS48.drewN | apply IsS48.drew | apply IsS48.set_1 | apply IsS48.set_2 | refine IsS48.far ?_ NB0_124.out _ | refine IsS48.far ?_ NB0_134.out _) | exact HI0.out)) hg (by simp [Value.ownBlock]))
    replace HK := zA (KeepBut.trans (zQ HK.out) (KeepBut.of_grown hg g) (.inl (by simp [Value.ownBlock])))
    have HO146 := zA (ho)
    clear ho hb hg hat
    obtain ⟨Ao57, co57, eo57⟩ := Kd.R_slice HO146.out
    (first | subst eo57 | (injection eo57 with f1_ f2_ f3_; have f4_ := f1_.symm; have f5_ := f3_.symm; clear f1_ f2_ f3_; subst f4_; subst f5_))
    refine hK.out _ _ ⟨(blk_cell BK134.out 0).trans rfl, (blk_cell BK134.out 1).trans rfl, (blk_cell BK134.out 2).trans rfl, (blk_cell BK134.out 3).trans rfl⟩ (fun hHeld => ?_)
    clear hK K
    refine zn ?_
    refine zp 7 20 ?_
    refine last_ (i := 8) (N := none) #[true, true, true, true, true, true, true, true, true] rfl rfl (one_of HT_.out (by kernel_rfl)) (by decide) (fun K hK => ?_)
    have hs58 : w56.cell? ⟨gb134, 3, none⟩ = some (.slice none 0 0) := (blk_cell BK134.out 3).trans rfl
    have hfs58 := zF BK134.out 3
    have hns58_0 := NB124_134.out
    have hms58_0 := NB134_124.out
    refine skip_ (w1 := ?_) (by rfl) rfl ?_ ?_
    rotate_left
    ·go_simp
     rfl
    refine hK.out _ _ ?_
    clear hK K
    refine done_ (done_of HT_.out (by kernel_rfl)) ?_
    try go_wp2_with (first | ((with_reducible refine zq 20 ?_); refine zg (some 22) Tryd.func20 #[.pointer (some ⟨g, 0, none⟩), .int .i64 3] ?_; (with_reducible refine (spec_l1Once.calls k g s0_0 t142 t143 3 false t148 t149 w0 _ ?side1 ?side2 A9.out).mono ?_); (case side1 => repeat (first | (with_reducible first | exact HI0.out | apply IsS48.alloc | apply IsS48.drewN | apply IsS48.drew | apply IsS48.set_1 | apply IsS48.set_2 | refine IsS48.far ?_ NB0_124.out _ | refine IsS48.far ?_ NB0_134.out _) | exact HI0.out)); (case side2 => repeat (first | (with_reducible first | exact HB.out | apply below_alloc | apply pw_below_drewN | apply below_drew1 | refine below_set ?_ (IsS48.ge HI0.out) | refine below_set ?_ GE124.out | refine below_set ?_ GE134.out) | exact HB.out)); rintro e w59 ⟨rfl, hi, hb, hk⟩; refine ⟨_, rfl, ?_⟩; replace BK124 := zA (KeepBut.blk hk (g' := gb124) (o := .cells #[.int .i64 0, .int .i64 0, .int .i64 0, .slice none 0 0] 26 (0, 0)) (zK BK124.out) NB124_0.out (by simp)); replace HO140 := zA (Kd.R_mono (Kd.R_keep (IsS48.apart (show IsS48 w0 _ g s0_0 t142 t143 from by repeat (first | (with_reducible first | exact HI0.out | apply IsS48.alloc | apply IsS48.drewN | apply IsS48.drew | apply IsS48.set_1 | apply IsS48.set_2 | refine IsS48.far ?_ NB0_124.out _ | refine IsS48.far ?_ NB0_134.out _) | exact HI0.out)) (zR (Kd.R_mono (Kd.R_far (p := ⟨gb134, 3, none⟩) (Kd.R_types HO140.out BK134.out (by decide)) (fun _ hk => hk.2) (.slice Ao57 y144.length co57)) (fun _ h_ => h_.1))) (by decide)) hk (fun _ h => h.2)) (fun _ h => h.1)); replace HO146 := zA (Kd.R_mono (Kd.R_keep (IsS48.apart (show IsS48 w0 _ g s0_0 t142 t143 from by repeat (first | (with_reducible first | exact HI0.out | apply IsS48.alloc | apply IsS48.drewN | apply IsS48.drew | apply IsS48.set_1 | apply IsS48.set_2 | refine IsS48.far ?_ NB0_124.out _ | refine IsS48.far ?_ NB0_134.out _) | exact HI0.out)) (zR (Kd.R_mono (Kd.R_far (p := ⟨gb134, 3, none⟩) (Kd.R_types HO146.out BK134.out (by decide)) (fun _ hk => hk.2) (.slice Ao57 y144.length co57)) (fun _ h_ => h_.1))) (by decide)) hk (fun _ h => h.2)) (fun _ h => h.1)); replace BK134 := zA (KeepBut.blk hk (g' := gb134) (o := .cells #[.int .i64 t125, .int .i64 t128, .int .i64 t131, .slice Ao57 y144.length co57] 26 (0, 0)) (by (with_reducible repeat (first | refine blk_drewN ?_ _ | refine blk_drew ?_ | refine blk_alloc ?_ _)); refine blk_put (cs := #[.int .i64 t125, .int .i64 t128, .int .i64 t131, .slice none 0 0]) ?_ 3 _ rfl; (with_reducible repeat (first | refine blk_drewN ?_ _ | refine blk_drew ?_ | refine blk_alloc ?_ _)); exact BK134.out) NB134_0.out (by simp)); replace HK := zA (KeepBut.trans (zQ HK.out) hk (.inl rfl)); replace HB := zA (hb); replace HI0 := zA (hi); (try clear hb hk hi); obtain ⟨hcz60_0, hcz60_1, hcz60_2, hcz60_3, hfz60_0, hfz60_1, hfz60_2, hfz60_3⟩ := ze4 BK134.out; have hnb61 := NB124_0.out; have hnc61 := NB0_124.out; obtain ⟨hcz62_0, hcz62_1, hcz62_2, hcz62_3, hfz62_0, hfz62_1, hfz62_2, hfz62_3⟩ := ze4 BK124.out))
    refine bodyPost_ret (results_cell_row rfl _ _ gb124 26 #[.int .i64 t125, .int .i64 t128, .int .i64 t131, .slice Ao57 y144.length co57] (0, 0) _ rfl (by (with_reducible repeat (first | refine blk_drewN ?_ _ | refine blk_drew ?_ | refine blk_alloc ?_ _)); refine blk_put (cs := #[.int .i64 t125, .int .i64 t128, .int .i64 t131, .slice none 0 0]) ?_ 3 _ rfl; (with_reducible repeat (first | refine blk_drewN ?_ _ | refine blk_drew ?_ | refine blk_alloc ?_ _)); refine blk_put (cs := #[.int .i64 t125, .int .i64 t128, .int .i64 0, .slice none 0 0]) ?_ 2 _ rfl; (with_reducible repeat (first | refine blk_drewN ?_ _ | refine blk_drew ?_ | refine blk_alloc ?_ _)); refine blk_put (cs := #[.int .i64 t125, .int .i64 0, .int .i64 0, .slice none 0 0]) ?_ 1 _ rfl; (with_reducible repeat (first | refine blk_drewN ?_ _ | refine blk_drew ?_ | refine blk_alloc ?_ _)); refine blk_put (cs := #[.int .i64 0, .int .i64 0, .int .i64 0, .slice none 0 0]) ?_ 0 _ rfl; (with_reducible repeat (first | refine blk_drewN ?_ _ | refine blk_drew ?_ | refine blk_alloc ?_ _)); exact BK124.out) Tryd.underlying26 rfl (by kernel_rfl)) rfl ?_
    exact ⟨_, zE, by (with_reducible repeat (first | apply Kd.R_alloc | apply Kd.R_drewN | apply Kd.R_drew)); exact Kd.R_mono (Kd.R_far (p := ⟨gb124, 3, none⟩) (Kd.R_far (p := ⟨gb124, 2, none⟩) (Kd.R_far (p := ⟨gb124, 1, none⟩) (Kd.R_far (p := ⟨gb124, 0, none⟩) (Kd.R_types HO146.out BK124.out (by decide)) (fun _ hk => hk.2) (.int .i64 t125)) (fun _ hk => hk.2) (.int .i64 t128)) (fun _ hk => hk.2) (.int .i64 t131)) (fun _ hk => hk.2) (.slice Ao57 y144.length co57)) (fun _ hk => trivial), by repeat (first | (with_reducible first | exact HI0.out | apply IsS48.alloc | apply IsS48.drewN | apply IsS48.drew | apply IsS48.set_1 | apply IsS48.set_2 | refine IsS48.far ?_ NB0_124.out _ | refine IsS48.far ?_ NB0_134.out _) | exact HI0.out), zX HB.out (IsS48.ge HI0.out), zQ HK.out⟩
  ·rw [if_neg c8] at H
   exact absurd H (by simp)
 ·replace c6 := Bool.eq_false_iff.mpr c6
  subst c6
  rw [if_neg zFT] at H
  simp only [Option.some.injEq, Prod.mk.injEq] at H
  obtain ⟨rfl, rfl, rfl, rfl, rfl, rfl⟩ := H
  go_enter Tryd.func11, Tryd.ntmps11
  go_wp2_with (first | ((with_reducible refine zd 2 ?_); refine ze 2 26 #[.int .i64 0, .int .i64 0, .int .i64 0, .slice none 0 0] ?_; intro gb124 hg w63 hbox hb; replace HB := zA (below_step (zX HB.out (IsS48.ge HI0.out)) hb); have BK124 := zA (hbox); have GW124 := zA ((by rw [hg]; exact (keep_size (w := w) (g := g) (row := none) (zQ HK.out)) : w.heap.size ≤ gb124)); have GE124 := zA ((Nat.le_trans HW0.out (by rw [hg]; exact (keep_size (w := w) (g := g) (row := none) (zQ HK.out)) : w.heap.size ≤ gb124) : w0.heap.size ≤ gb124)); replace HK := zA (KeepBut.trans (zQ HK.out) (KeepBut.of_below hb g none) (.inl rfl)); have NB0_124 := zA ((by rw [hg]; exact Nat.ne_of_lt (IsS48.lt (show IsS48 w0 _ g s0_0 s0_1 s0_2 from by repeat (first | (with_reducible first | exact HI0.out | apply IsS48.alloc | apply IsS48.drewN | apply IsS48.drew | apply IsS48.set_1 | apply IsS48.set_2) | exact HI0.out))) : g ≠ gb124)); have NB124_0 := zA ((by rw [hg]; exact Nat.ne_of_gt (IsS48.lt (show IsS48 w0 _ g s0_0 s0_1 s0_2 from by repeat (first | (with_reducible first | exact HI0.out | apply IsS48.alloc | apply IsS48.drewN | apply IsS48.drew | apply IsS48.set_1 | apply IsS48.set_2) | exact HI0.out))) : gb124 ≠ g)); replace HI0 := zA (IsS48.below (by repeat (first | (with_reducible first | exact HI0.out | apply IsS48.alloc | apply IsS48.drewN | apply IsS48.drew | apply IsS48.set_1 | apply IsS48.set_2) | exact HI0.out)) hb); clear hb hbox hg) | ((with_reducible refine zq 19 ?_); refine zg (some 5) Tryd.func19 #[.pointer (some ⟨g, 0, none⟩), .int .i64 3] ?_; (with_reducible refine (spec_l1Below.calls k g s0_0 s0_1 s0_2 3 t125 t126 t127 w0 _ ?side1 ?side2 A2.out).mono ?_); (case side1 => repeat (first | (with_reducible first | exact HI0.out | apply IsS48.alloc | apply IsS48.drewN | apply IsS48.drew | apply IsS48.set_1 | apply IsS48.set_2 | refine IsS48.far ?_ NB0_124.out _) | exact HI0.out)); (case side2 => repeat (first | (with_reducible first | exact HB.out | apply below_alloc | apply pw_below_drewN | apply below_drew1 | refine below_set ?_ (IsS48.ge HI0.out) | refine below_set ?_ GE124.out) | exact HB.out)); rintro e w64 ⟨rfl, hi, hb, hk⟩; refine ⟨_, rfl, ?_⟩; replace BK124 := zA (KeepBut.blk hk (g' := gb124) (o := .cells #[.int .i64 0, .int .i64 0, .int .i64 0, .slice none 0 0] 26 (0, 0)) (zK BK124.out) NB124_0.out (by simp)); replace HK := zA (KeepBut.trans (zQ HK.out) hk (.inl rfl)); replace HB := zA (hb); replace HI0 := zA (hi); (try clear hb hk hi)) | ((with_reducible refine zq 19 ?_); refine zg (some 7) Tryd.func19 #[.pointer (some ⟨g, 0, none⟩), .int .i64 3] ?_; (with_reducible refine (spec_l1Below.calls k g s0_0 t126 t127 3 t128 t129 t130 w0 _ ?side1 ?side2 A3.out).mono ?_); (case side1 => repeat (first | (with_reducible first | exact HI0.out | apply IsS48.alloc | apply IsS48.drewN | apply IsS48.drew | apply IsS48.set_1 | apply IsS48.set_2 | refine IsS48.far ?_ NB0_124.out _) | exact HI0.out)); (case side2 => repeat (first | (with_reducible first | exact HB.out | apply below_alloc | apply pw_below_drewN | apply below_drew1 | refine below_set ?_ (IsS48.ge HI0.out) | refine below_set ?_ GE124.out) | exact HB.out)); rintro e w65 ⟨rfl, hi, hb, hk⟩; refine ⟨_, rfl, ?_⟩; replace BK124 := zA (KeepBut.blk hk (g' := gb124) (o := .cells #[.int .i64 0, .int .i64 0, .int .i64 0, .slice none 0 0] 26 (0, 0)) (zK BK124.out) NB124_0.out (by simp)); replace HK := zA (KeepBut.trans (zQ HK.out) hk (.inl rfl)); replace HB := zA (hb); replace HI0 := zA (hi); (try clear hb hk hi)) | ((with_reducible refine zq 19 ?_); refine zg (some 9) Tryd.func19 #[.pointer (some ⟨g, 0, none⟩), .int .i64 3] ?_; (with_reducible refine (spec_l1Below.calls k g s0_0 t129 t130 3 t131 t132 t133 w0 _ ?side1 ?side2 A4.out).mono ?_); (case side1 => repeat (first | (with_reducible first | exact HI0.out | apply IsS48.alloc | apply IsS48.drewN | apply IsS48.drew | apply IsS48.set_1 | apply IsS48.set_2 | refine IsS48.far ?_ NB0_124.out _) | exact HI0.out)); (case side2 => repeat (first | (with_reducible first | exact HB.out | apply below_alloc | apply pw_below_drewN | apply below_drew1 | refine below_set ?_ (IsS48.ge HI0.out) | refine below_set ?_ GE124.out) | exact HB.out)); rintro e w66 ⟨rfl, hi, hb, hk⟩; refine ⟨_, rfl, ?_⟩; replace BK124 := zA (KeepBut.blk hk (g' := gb124) (o := .cells #[.int .i64 0, .int .i64 0, .int .i64 0, .slice none 0 0] 26 (0, 0)) (zK BK124.out) NB124_0.out (by simp)); replace HK := zA (KeepBut.trans (zQ HK.out) hk (.inl rfl)); replace HB := zA (hb); replace HI0 := zA (hi); (try clear hb hk hi)) | ((with_reducible refine zd 3 ?_); refine ze 3 26 #[.int .i64 0, .int .i64 0, .int .i64 0, .slice none 0 0] ?_; intro gb134 hg w67 hbox hb; replace HB := zA (below_step (zX HB.out (IsS48.ge HI0.out)) hb); have BK134 := zA (hbox); have GW134 := zA ((by rw [hg]; exact (keep_size (w := w) (g := g) (row := none) (zQ HK.out)) : w.heap.size ≤ gb134)); have GE134 := zA ((Nat.le_trans HW0.out (by rw [hg]; exact (keep_size (w := w) (g := g) (row := none) (zQ HK.out)) : w.heap.size ≤ gb134) : w0.heap.size ≤ gb134)); replace HK := zA (KeepBut.trans (zQ HK.out) (KeepBut.of_below hb g none) (.inl rfl)); have NB124_134 := zA (zL hg (zK BK124.out)); have NB134_124 := zA (zJ hg (zK BK124.out)); replace BK124 := zb BK124 hb; have NB0_134 := zA ((by rw [hg]; exact Nat.ne_of_lt (IsS48.lt (show IsS48 w0 _ g s0_0 t132 t133 from by repeat (first | (with_reducible first | exact HI0.out | apply IsS48.alloc | apply IsS48.drewN | apply IsS48.drew | apply IsS48.set_1 | apply IsS48.set_2 | refine IsS48.far ?_ NB0_124.out _) | exact HI0.out))) : g ≠ gb134)); have NB134_0 := zA ((by rw [hg]; exact Nat.ne_of_gt (IsS48.lt (show IsS48 w0 _ g s0_0 t132 t133 from by repeat (first | (with_reducible first | exact HI0.out | apply IsS48.alloc | apply IsS48.drewN | apply IsS48.drew | apply IsS48.set_1 | apply IsS48.set_2 | refine IsS48.far ?_ NB0_124.out _) | exact HI0.out))) : gb134 ≠ g)); replace HI0 := zA (IsS48.below (by repeat (first | (with_reducible first | exact HI0.out | apply IsS48.alloc | apply IsS48.drewN | apply IsS48.drew | apply IsS48.set_1 | apply IsS48.set_2 | refine IsS48.far ?_ NB0_124.out _) | exact HI0.out)) hb); clear hb hbox hg; have hnb68 := NB134_124.out; have hnc68 := NB124_134.out; have hnb69 := NB134_0.out; have hnc69 := NB0_134.out; obtain ⟨hcz70_0, hcz70_1, hcz70_2, hcz70_3, hfz70_0, hfz70_1, hfz70_2, hfz70_3⟩ := ze4 BK134.out) | ((with_reducible refine zq 20 ?_); refine zg (some 12) Tryd.func20 #[.pointer (some ⟨g, 0, none⟩), .int .i64 3] ?_; (with_reducible refine (spec_l1Once.calls k g s0_0 t132 t133 3 false t136 t137 w0 _ ?side1 ?side2 A5.out).mono ?_); (case side1 => repeat (first | (with_reducible first | exact HI0.out | apply IsS48.alloc | apply IsS48.drewN | apply IsS48.drew | apply IsS48.set_1 | apply IsS48.set_2 | refine IsS48.far ?_ NB0_124.out _ | refine IsS48.far ?_ NB0_134.out _) | exact HI0.out)); (case side2 => repeat (first | (with_reducible first | exact HB.out | apply below_alloc | apply pw_below_drewN | apply below_drew1 | refine below_set ?_ (IsS48.ge HI0.out) | refine below_set ?_ GE124.out | refine below_set ?_ GE134.out) | exact HB.out)); rintro e w71 ⟨rfl, hi, hb, hk⟩; refine ⟨_, rfl, ?_⟩; replace BK124 := zA (KeepBut.blk hk (g' := gb124) (o := .cells #[.int .i64 0, .int .i64 0, .int .i64 0, .slice none 0 0] 26 (0, 0)) (zK BK124.out) NB124_0.out (by simp)); replace BK134 := zA (KeepBut.blk hk (g' := gb134) (o := .cells #[.int .i64 t125, .int .i64 t128, .int .i64 t131, .slice none 0 0] 26 (0, 0)) (by (with_reducible repeat (first | refine blk_drewN ?_ _ | refine blk_drew ?_ | refine blk_alloc ?_ _)); refine blk_put (cs := #[.int .i64 t125, .int .i64 t128, .int .i64 t131, .slice none 0 0]) ?_ 3 _ rfl; (with_reducible repeat (first | refine blk_drewN ?_ _ | refine blk_drew ?_ | refine blk_alloc ?_ _)); refine blk_put (cs := #[.int .i64 t125, .int .i64 t128, .int .i64 0, .slice none 0 0]) ?_ 2 _ rfl; (with_reducible repeat (first | refine blk_drewN ?_ _ | refine blk_drew ?_ | refine blk_alloc ?_ _)); refine blk_put (cs := #[.int .i64 t125, .int .i64 0, .int .i64 0, .slice none 0 0]) ?_ 1 _ rfl; (with_reducible repeat (first | refine blk_drewN ?_ _ | refine blk_drew ?_ | refine blk_alloc ?_ _)); refine blk_put (cs := #[.int .i64 0, .int .i64 0, .int .i64 0, .slice none 0 0]) ?_ 0 _ rfl; (with_reducible repeat (first | refine blk_drewN ?_ _ | refine blk_drew ?_ | refine blk_alloc ?_ _)); exact BK134.out) NB134_0.out (by simp)); replace HK := zA (KeepBut.trans (zQ HK.out) hk (.inl rfl)); replace HB := zA (hb); replace HI0 := zA (hi); (try clear hb hk hi); obtain ⟨hcz72_0, hcz72_1, hcz72_2, hcz72_3, hfz72_0, hfz72_1, hfz72_2, hfz72_3⟩ := ze4 BK134.out; have hnb73 := NB124_0.out; have hnc73 := NB0_124.out; obtain ⟨hcz74_0, hcz74_1, hcz74_2, hcz74_3, hfz74_0, hfz74_1, hfz74_2, hfz74_3⟩ := ze4 BK124.out))
  refine bodyPost_ret (results_cell_row rfl _ _ gb124 26 #[.int .i64 t125, .int .i64 t128, .int .i64 t131, .slice none 0 0] (0, 0) _ rfl (by (with_reducible repeat (first | refine blk_drewN ?_ _ | refine blk_drew ?_ | refine blk_alloc ?_ _)); refine blk_put (cs := #[.int .i64 t125, .int .i64 t128, .int .i64 t131, .slice none 0 0]) ?_ 3 _ rfl; (with_reducible repeat (first | refine blk_drewN ?_ _ | refine blk_drew ?_ | refine blk_alloc ?_ _)); refine blk_put (cs := #[.int .i64 t125, .int .i64 t128, .int .i64 0, .slice none 0 0]) ?_ 2 _ rfl; (with_reducible repeat (first | refine blk_drewN ?_ _ | refine blk_drew ?_ | refine blk_alloc ?_ _)); refine blk_put (cs := #[.int .i64 t125, .int .i64 0, .int .i64 0, .slice none 0 0]) ?_ 1 _ rfl; (with_reducible repeat (first | refine blk_drewN ?_ _ | refine blk_drew ?_ | refine blk_alloc ?_ _)); refine blk_put (cs := #[.int .i64 0, .int .i64 0, .int .i64 0, .slice none 0 0]) ?_ 0 _ rfl; (with_reducible repeat (first | refine blk_drewN ?_ _ | refine blk_drew ?_ | refine blk_alloc ?_ _)); exact BK124.out) Tryd.underlying26 rfl (by kernel_rfl)) rfl ?_
  exact ⟨_, zE, by first | exact Kd.R_nil _ _ _ _ _ | exact Kd.N_nil _ _ _ _ _ | exact Kd.V_nil _ _ _ _ _ | exact Kd.Q_nil _ _ _ _ _ | exact Kd.S_nil _ _ _ _ _, by repeat (first | (with_reducible first | exact HI0.out | apply IsS48.alloc | apply IsS48.drewN | apply IsS48.drew | apply IsS48.set_1 | apply IsS48.set_2 | refine IsS48.far ?_ NB0_124.out _ | refine IsS48.far ?_ NB0_134.out _) | exact HI0.out), zX HB.out (IsS48.ge HI0.out), zQ HK.out⟩
end Go.Proofs.YtpcdhoeoefoeoaaDoor.PGA

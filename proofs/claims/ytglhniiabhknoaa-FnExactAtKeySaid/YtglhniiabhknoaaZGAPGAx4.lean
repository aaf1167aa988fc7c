/- The walks of the functions that these laws reach, and what each comes to: printed by this session's program. -/
import Derived.Test.YtglhniiabhknoaaZGAPGAx0
import Derived.Test.YtglhniiabhknoaaZGAPGAx1
import Derived.Test.YtglhniiabhknoaaZGASays
import Derived.Test.YtglhniiabhknoaaZGARegs
namespace Go.Proofs.Ytglhniiabhknoaa.PGA
open Go.RowKit YtglhniiabhknoaaW.PrintWords YtglhniiabhknoaaW.PrintLast YtglhniiabhknoaaW.PrintMore
attribute [local go_sem high] Mine.str_gtr Mine.str_leq Mine.str_geq
attribute [local go_sem] max2_int min2_int max_two min_two max_three min_three max_four min_four   -- for this text's walks alone
set_option linter.unusedVariables false
set_option maxHeartbeats 8000000
set_option maxRecDepth 100000
set_option linter.unusedSimpArgs false
/-! ### impl_copyVal: function 33 -/
mutual
def impl_copyVal.l0 : Nat → List (S29) → Int → Int → Int → Int → ByteArray → List (S29) → List ByteArray → Option (Int × Int × ByteArray × (List (S29)) × List ByteArray)
 | 0, _, _, _, _, _, _, _, _ => none
 | k + 1, a1, a4, a0, a5, a6, a7, a3, a8 => if a0 < a4 then (if 0 ≤ a0 then (if a0 < (a1.length : Int) then ((impl_copyVal.f k ((rd_T29 a1 a0).f0) ((rd_T29 a1 a0).f1) ((rd_T29 a1 a0).f2) ((rd_T29 a1 a0).f3) ((rd_T29 a1 a0).f4)).bind fun a2 => (if a3.length < 1759218604441 then (impl_copyVal.l0 k a1 a4 (wrap64 (a0 + 1)) a5 a6 a7 (a3 ++ [(⟨a2.1, a2.2.1, a2.2.2.1, a2.2.2.2.1, a2.2.2.2.2⟩ : S29)]) a8) else (none))) else (none)) else (none)) else (some (a5, a6, a7, a3, a8))
def impl_copyVal.f : Nat → Int → Int → ByteArray → List (S29) → List ByteArray → Option (Int × Int × ByteArray × (List (S29)) × List ByteArray)
 | 0, _, _, _, _, _ => none
 | k + 1, b0, b1, b2, a9, b3 => (slices_Clone_string_string.f b3).bind fun b4 => (impl_copyVal.l0 k a9 (a9.length : Int) 0 b0 b1 b2 ([] : List (S29)) b4)
end
def impl_copyVal.T1 : Bool × List (List Nat × List Nat) := (true, [([], []), ([0], [0]), ([], []), ([2], [2]), ([], []), ([4], [4]), ([], []), ([6], [6]), ([7], [7]), ([1, 3, 5, 8], [1, 3, 5, 8]), ([], []), ([10, 9, 8, 0, 1, 2, 3, 4, 5, 6, 7, 8, 9, 10], [9, 10])])
def impl_copyVal.B1 : List Nat := [0, 1, 0, 4, 0, 16, 0, 64, 192, 511, 0, 2047]
theorem impl_copyVal.tab1 : rtab .any (opsOf Try.f33 1) = impl_copyVal.T1 := by kernel_rfl
theorem impl_copyVal.bits1 : waitsOk impl_copyVal.T1.2 impl_copyVal.B1 = true := by kernel_rfl
def impl_copyVal.T5 : Bool × List (List Nat × List Nat) := (true, [([], []), ([0], [0]), ([], []), ([2], [2]), ([3], [3]), ([1, 4, 3], [1, 4]), ([0, 1, 2, 3, 4, 5], []), ([6, 5, 5, 0, 1, 2, 3, 4, 5], [5, 6])])
def impl_copyVal.B5 : List Nat := [0, 1, 0, 4, 12, 31, 63, 127]
theorem impl_copyVal.tab5 : rtab .any (opsOf Try.f33 5) = impl_copyVal.T5 := by kernel_rfl
theorem impl_copyVal.bits5 : waitsOk impl_copyVal.T5.2 impl_copyVal.B5 = true := by kernel_rfl
theorem impl_copyVal.calls (k : Nat) : ∀ (a7 a9 : Int) (b0 : ByteArray) (d2 : Option Addr) (c4 : Nat) (a0 : List (S29)) (c0 : Option Addr) (c2 : Nat) (b5 : List ByteArray) (r1 r2 : Int) (r3 : ByteArray) (r4 : List (S29)) (r5 : List ByteArray) (w : World) (f6 : Kd.C k29 w d2 a0.length a0) (f7 : a0.length ≤ c4) (f8 : Kd.C Kd.string w c0 b5.length b5) (f9 : b5.length ≤ c2) (h : impl_copyVal.f k a7 a9 b0 a0 b5 = some (r1, r2, r3, r4, r5)),
  Calls Try.prog 33 #[.agg #[.int .i64 a7, .int .i64 a9, .string b0, .slice d2 a0.length c4, .slice c0 b5.length c2]] w fun e w' => ∃ h3 g0 : Value, e = .returned (.agg #[.int .i64 r1, .int .i64 r2, .string r3, h3, g0]) ∧ Kd.S k29 29 w' w.heap.size (fun k_ => some k_ ≠ (g0 : Value).ownBlock) h3 r4 ∧ Kd.R Kd.string 9 w' w.heap.size (fun _ => True) g0 r5 ∧ Below w.heap.size w w' := by
 induction k using Nat.strongRecOn with
 | _ k ih =>
 intro a7 a9 b0 d2 c4 a0 c0 c2 b5 r1 r2 r3 r4 r5 w f6 f7 f8 f9 h
 cases k with
 | zero => exact absurd h (by simp [impl_copyVal.f])
 | succ k =>
 simp only [impl_copyVal.f] at h
 have o8 := Try.underlying29
 have l5 := zA f6
 have o9 := zA f7
 clear f6 f7
 have h4 := zA f8
 have h5 := zA f9
 clear f8 f9
 have HB := zA (Below.refl w.heap.size w)
 have H := h
 clear h
 replace H := Option.bind_eq_some_iff.mp H
 obtain ⟨b1, h6, H⟩ := H
 try dsimp only at H
 have A2 := zA h6
 clear h6
 have H' := zA H
 clear H
 go_enter Try.func33, Try.ntmps33
 try go_wp2_with (first | ((with_reducible refine zd 1 ?_); refine ze 1 29 #[.int .i64 a7, .int .i64 a9, .string b0, .slice d2 a0.length c4, .slice c0 b5.length c2] ?_; intro a8 hg w3 hbox hb; have a4 := zA (hbox); have p0 := zi HB hg; have p1 := zi HB hg; replace HB := zA (below_step (zB) hb); clear hb hbox hg) | ((with_reducible refine zd 2 ?_); refine ze 2 29 #[.int .i64 0, .int .i64 0, .string (⟨#[]⟩ : ByteArray), .slice none 0 0, .slice none 0 0] ?_; intro b3 hg w4 hbox hb; have a5 := zA (hbox); have p3 := zi HB hg; have p4 := zi HB hg; replace HB := zh HB hb; have h7 := zA (zL hg (zK a4.out)); have h8 := zA (zJ hg (zK a4.out)); replace a4 := zb a4 hb; clear hb hbox hg))
 replace a4 := zA (blk_drew a4.out)
 replace a5 := zA (blk_drew a5.out)
 replace HB := zA (below_drew1 HB.out)
 refine start_ (n := 12) (S := fun w' => w'.cell? ⟨a8, 0, none⟩ = some (.int .i64 a7) ∧ w'.cell? ⟨a8, 1, none⟩ = some (.int .i64 a9) ∧ w'.cell? ⟨a8, 2, none⟩ = some (.string b0) ∧ w'.cell? ⟨a8, 3, none⟩ = some (.slice d2 a0.length c4) ∧ w'.cell? ⟨a8, 4, none⟩ = some (.slice c0 b5.length c2)) (ds := []) (Array.replicate 12 false) (by kernel_rfl) rfl rfl zO fun hHeld => ?_; refine with_tabW impl_copyVal.tab1 impl_copyVal.bits1 (fun HT_ HW_ => ?_)
 generalize w4.drew = w5 at a4 a5 HB hHeld ⊢
 refine zp 0 6 ?_
 refine zp 2 8 ?_
 refine zp 4 10 ?_
 refine zp 6 12 ?_
 refine zt 1 7 ?_
 refine zt 3 9 ?_
 refine zt 5 11 ?_
 refine zt 7 13 ?_
 refine join_ (σ := Value × Nat) 1 #[true, true, true, true, true, true, true, true, true, true, true, false] (fun s_ => [(14, s_.1), (3, .pointer (some ⟨s_.2, 0, none⟩)), (15, .agg #[.int .i64 a7, .int .i64 a9, .string b0, .slice none 0 0, s_.1])]) (fun s_ w' => (w'.cell? ⟨a8, 0, none⟩ = some (.int .i64 a7) ∧ w'.cell? ⟨a8, 1, none⟩ = some (.int .i64 a9) ∧ w'.cell? ⟨a8, 2, none⟩ = some (.string b0) ∧ w'.cell? ⟨a8, 3, none⟩ = some (.slice d2 a0.length c4) ∧ w'.cell? ⟨a8, 4, none⟩ = some (.slice c0 b5.length c2)) ∧ (Kd.R Kd.string 9 w' w.heap.size (fun _ => True) s_.1 b1) ∧ (w'.heap[a8]? = some (.cells #[.int .i64 a7, .int .i64 a9, .string b0, .slice d2 a0.length c4, .slice c0 b5.length c2] 29 (0, 0))) ∧ (w'.heap[b3]? = some (.cells #[.int .i64 0, .int .i64 0, .string (⟨#[]⟩ : ByteArray), .slice none 0 0, .slice none 0 0] 29 (0, 0))) ∧ (w'.heap[s_.2]? = some (.cells #[.int .i64 0, .int .i64 0, .string (⟨#[]⟩ : ByteArray), .slice none 0 0, .slice none 0 0] 29 (0, 0))) ∧ (w.heap.size ≤ s_.2) ∧ (w.heap.size ≤ s_.2) ∧ (a8 ≠ s_.2) ∧ (s_.2 ≠ a8) ∧ (b3 ≠ s_.2) ∧ (s_.2 ≠ b3) ∧ (Below w.heap.size w w')) ?_ ?_
 rotate_left
 ·intro hCont
  refine two_ (i := 8) (j := 10) (Ni := some 14) (Nj := some 3) #[true, true, true, true, true, true, true, true, true, false, false, false] #[true, true, true, true, true, true, true, true, false, false, true, false] rfl rfl rfl rfl (two_of HT_.out (by kernel_rfl)) (by decide) (by decide) (fun K hK => ?_) (fun K hK => ?_)
  ·skip
   refine goes_ Try.func62 (by kernel_rfl) rfl #[.slice c0 b5.length c2] (by rfl) rfl rfl zM ?_
   with_reducible refine (slices_Clone_string_string.calls _ _ b5 b1 _ ?s1 ?s2 A2.out).mono ?_
   (case s1 => exact zC (Kd.C_below h4.out HB.out))
   (case s2 => exact h5.out)
   rintro e w6 ⟨g1, rfl, d4, hb⟩
   refine ⟨_, rfl, ?_⟩
   have d3 := zA (Kd.R_lower d4 (below_size (zW HB.out))); replace a4 := zb a4 hb; replace a5 := zb a5 hb; replace HB := zh HB hb
   (try clear hb d4)
   obtain ⟨l6, l7, h9⟩ := Kd.R_slice d3.out
   (first | subst h9 | (injection h9 with f1_ f2_ f3_; have c8 := f1_.symm; have c9 := f3_.symm; clear f1_ f2_ f3_; subst c8; subst c9))
   refine hK.out _ _ zO fun hHeld => ?_
   clear hK K; refine zn ?_; refine zp 9 15 ?_
   refine zo 10 (some 3) fun K hK => ?_
   refine box_step ?hg (N := 3) ?hd (cs := #[.int .i64 0, .int .i64 0, .string (⟨#[]⟩ : ByteArray), .slice none 0 0, .slice none 0 0]) (t := 29) ?hr ?_; (case hd => rfl); (case hg => rfl); (case hr => first | (go_simp; done) | (go_simp; rfl))
   intro a2 hg w8 hbox hb
   replace d3 := zr d3 hb; have a3 := zA (hbox); have e6 := zi HB hg; have e7 := zi HB hg; replace HB := zh HB hb; have a6 := zA (zL hg (zK a4.out)); have c5 := zA (zJ hg (zK a4.out)); replace a4 := zb a4 hb; have d0 := zA (zL hg (zK a5.out)); have d1 := zA (zJ hg (zK a5.out)); replace a5 := zb a5 hb; clear hb hbox hg
   refine hK.out _ _ zO fun hHeld => ?_
   clear hK K; refine zn ?_
   exact norm_ (by simp only [putAll, Act.put, zT]) (hCont (.slice l6 b1.length l7, a2) _ ⟨hHeld, (zR d3.out), (zK a4.out), (zK a5.out), (zK a3.out), e6.out, e7.out, a6.out, c5.out, d0.out, d1.out, (zW HB.out)⟩)
  ·skip
   refine box_step ?hg (N := 3) ?hd (cs := #[.int .i64 0, .int .i64 0, .string (⟨#[]⟩ : ByteArray), .slice none 0 0, .slice none 0 0]) (t := 29) ?hr ?_; (case hd => rfl); (case hg => rfl); (case hr => first | (go_simp; done) | (go_simp; rfl))
   intro a2 hg w6 hbox hb
   have a3 := zA (hbox); have e6 := zi HB hg; have e7 := zi HB hg; replace HB := zh HB hb; have a6 := zA (zL hg (zK a4.out)); have c5 := zA (zJ hg (zK a4.out)); replace a4 := zb a4 hb; have d0 := zA (zL hg (zK a5.out)); have d1 := zA (zJ hg (zK a5.out)); replace a5 := zb a5 hb; clear hb hbox hg
   refine hK.out _ _ zO fun hHeld => ?_
   clear hK K; refine zn ?_
   refine zo 8 (some 14) fun K hK => ?_
   refine goes_ Try.func62 (by kernel_rfl) rfl #[.slice c0 b5.length c2] (by rfl) rfl rfl zM ?_
   with_reducible refine (slices_Clone_string_string.calls _ _ b5 b1 _ ?s1 ?s2 A2.out).mono ?_
   (case s1 => exact zC (Kd.C_below h4.out HB.out))
   (case s2 => exact h5.out)
   rintro e w7 ⟨g1, rfl, d4, hb⟩
   refine ⟨_, rfl, ?_⟩
   have d3 := zA (Kd.R_lower d4 (below_size (zW HB.out))); replace a4 := zb a4 hb; replace a5 := zb a5 hb; replace a3 := zb a3 hb; replace HB := zh HB hb
   (try clear hb d4)
   obtain ⟨l8, l9, i0⟩ := Kd.R_slice d3.out
   (first | subst i0 | (injection i0 with f1_ f2_ f3_; have c8 := f1_.symm; have c9 := f3_.symm; clear f1_ f2_ f3_; subst c8; subst c9))
   refine hK.out _ _ zO fun hHeld => ?_
   clear hK K; refine zn ?_; refine zp 9 15 ?_
   exact norm_ (by simp only [putAll, Act.put, zT]) (hCont (.slice l8 b1.length l9, a2) _ ⟨hHeld, (zR d3.out), (zK a4.out), (zK a5.out), (zK a3.out), e6.out, e7.out, a6.out, c5.out, d0.out, d1.out, (zW HB.out)⟩)
 rintro ⟨g1, a2⟩ w9 ⟨hS_, i1, i2, i3, i4, i5, i6, i7, i8, i9, j0, j1⟩
 have d3 : Aside0 (Kd.R Kd.string 9 w9 w.heap.size (fun _ => True) g1 b1) := ⟨i1⟩
 replace a4 : Aside0 (w9.heap[a8]? = some (.cells #[.int .i64 a7, .int .i64 a9, .string b0, .slice d2 a0.length c4, .slice c0 b5.length c2] 29 (0, 0))) := ⟨i2⟩
 replace a5 : Aside0 (w9.heap[b3]? = some (.cells #[.int .i64 0, .int .i64 0, .string (⟨#[]⟩ : ByteArray), .slice none 0 0, .slice none 0 0] 29 (0, 0))) := ⟨i3⟩
 have a3 : Aside0 (w9.heap[a2]? = some (.cells #[.int .i64 0, .int .i64 0, .string (⟨#[]⟩ : ByteArray), .slice none 0 0, .slice none 0 0] 29 (0, 0))) := ⟨i4⟩
 have e6 : Aside0 (w.heap.size ≤ a2) := ⟨i5⟩
 have e7 : Aside0 (w.heap.size ≤ a2) := ⟨i6⟩
 have a6 : Aside0 (a8 ≠ a2) := ⟨i7⟩
 have c5 : Aside0 (a2 ≠ a8) := ⟨i8⟩
 have d0 : Aside0 (b3 ≠ a2) := ⟨i9⟩
 have d1 : Aside0 (a2 ≠ b3) := ⟨j0⟩
 replace HB : Aside0 (Below w.heap.size w w9) := ⟨j1⟩
 clear i1 i2 i3 i4 i5 i6 i7 i8 i9 j0 j1
 have hHeld : w9.cell? ⟨a8, 0, none⟩ = some (.int .i64 a7) ∧ w9.cell? ⟨a8, 1, none⟩ = some (.int .i64 a9) ∧ w9.cell? ⟨a8, 2, none⟩ = some (.string b0) ∧ w9.cell? ⟨a8, 3, none⟩ = some (.slice d2 a0.length c4) ∧ w9.cell? ⟨a8, 4, none⟩ = some (.slice c0 b5.length c2) := hS_
 obtain ⟨b8, b9, j2⟩ := Kd.R_slice d3.out
 (first | subst j2 | (injection j2 with f1_ f2_ f3_; have c8 := f1_.symm; have c9 := f3_.symm; clear f1_ f2_ f3_; subst c8; subst c9))
 refine norm_ (a' := ?_) ?_ ?_
 rotate_left
 ·simp only [putAll, Act.put, zT]
  rfl
 refine zo 11 none fun K hK => ?_
 have p5 := zc0 a3.out
 have p6 := zF a3.out 0
 have p7 := a6.out
 have p8 := d0.out
 have p9 := c5.out
 have q0 := d1.out
 have q1 := zc1 a3.out
 have q2 := zF a3.out 1
 have q3 := a6.out
 have q4 := d0.out
 have q5 := c5.out
 have q6 := d1.out
 have q7 := zc2 a3.out
 have q8 := zF a3.out 2
 have q9 := a6.out
 have r0 := d0.out
 have r6 := c5.out
 have r7 := d1.out
 have r8 := zc3 a3.out
 have r9 := zF a3.out 3
 have t0 := a6.out
 have t1 := d0.out
 have t2 := c5.out
 have t3 := d1.out
 have t4 := zc4 a3.out
 have t5 := zF a3.out 4
 have t6 := a6.out
 have t7 := d0.out
 have t8 := c5.out
 have t9 := d1.out
 refine skip_ (w1 := ?_) (by rfl) rfl ?_ ?_
 rotate_left
 ·go_simp
  rfl
 refine hK.out _ _ ⟨((cell_far (p := ⟨a2, _, none⟩) a6.out _).trans (((cell_far (p := ⟨a2, _, none⟩) a6.out _).trans (((cell_far (p := ⟨a2, _, none⟩) a6.out _).trans (((cell_far (p := ⟨a2, _, none⟩) a6.out _).trans (((cell_far (p := ⟨a2, _, none⟩) a6.out _).trans (hHeld.1)))))))))), ((cell_far (p := ⟨a2, _, none⟩) a6.out _).trans (((cell_far (p := ⟨a2, _, none⟩) a6.out _).trans (((cell_far (p := ⟨a2, _, none⟩) a6.out _).trans (((cell_far (p := ⟨a2, _, none⟩) a6.out _).trans (((cell_far (p := ⟨a2, _, none⟩) a6.out _).trans (hHeld.2.1)))))))))), ((cell_far (p := ⟨a2, _, none⟩) a6.out _).trans (((cell_far (p := ⟨a2, _, none⟩) a6.out _).trans (((cell_far (p := ⟨a2, _, none⟩) a6.out _).trans (((cell_far (p := ⟨a2, _, none⟩) a6.out _).trans (((cell_far (p := ⟨a2, _, none⟩) a6.out _).trans (hHeld.2.2.1)))))))))), ((cell_far (p := ⟨a2, _, none⟩) a6.out _).trans (((cell_far (p := ⟨a2, _, none⟩) a6.out _).trans (((cell_far (p := ⟨a2, _, none⟩) a6.out _).trans (((cell_far (p := ⟨a2, _, none⟩) a6.out _).trans (((cell_far (p := ⟨a2, _, none⟩) a6.out _).trans (hHeld.2.2.2.1)))))))))), ((cell_far (p := ⟨a2, _, none⟩) a6.out _).trans (((cell_far (p := ⟨a2, _, none⟩) a6.out _).trans (((cell_far (p := ⟨a2, _, none⟩) a6.out _).trans (((cell_far (p := ⟨a2, _, none⟩) a6.out _).trans (((cell_far (p := ⟨a2, _, none⟩) a6.out _).trans (hHeld.2.2.2.2))))))))))⟩ (fun hHeld => ?_)
 clear hK K
 refine done_ (done_of HT_.out (by kernel_rfl)) ?_
 have v0 := h7.out
 have v1 := h8.out
 have v2 := a6.out
 have v3 := c5.out
 obtain ⟨m0, m1, m2, m3, m4, m5, m6, m7, m8, m9⟩ := ze5 a4.out
 try go_wp2
 go_loopg [19] k (fun kq n0 w' => ∃ (a1 : Int) (d5 : List (S29)) (c7 : Value), n0 = .int .i64 a1 ∧ Aside0 (impl_copyVal.l0 kq a0 (a0.length : Int) a1 a7 a9 b0 d5 b1 = some (r1, r2, r3, r4, r5)) ∧ Aside0 (kq ≤ k) ∧ Aside0 (Kd.S k29 29 w' w.heap.size (fun k_ => some k_ ≠ ((.slice b8 b1.length b9) : Value).ownBlock ∧ k_ ≠ a8 ∧ k_ ≠ b3 ∧ k_ ≠ a2) c7 d5) ∧ Aside0 (Kd.R Kd.string 9 w' w.heap.size (fun _ => True) (.slice b8 b1.length b9) b1) ∧ Aside0 (w'.heap[a8]? = some (.cells #[.int .i64 a7, .int .i64 a9, .string b0, (.slice d2 a0.length c4), (.slice c0 b5.length c2)] 29 (0, 0))) ∧ Aside0 (w'.heap[b3]? = some (.cells #[.int .i64 0, .int .i64 0, .string (⟨#[]⟩ : ByteArray), (.slice none 0 0), (.slice none 0 0)] 29 (0, 0))) ∧ Aside0 (w'.heap[a2]? = some (.cells #[.int .i64 a7, .int .i64 a9, .string b0, c7, (.slice b8 b1.length b9)] 29 (0, 0))) ∧ Aside0 (Below w.heap.size w w'))
 case atStart => exact ⟨(0), (([] : List (S29))), (.slice none 0 0), zS, H', ⟨Nat.le_refl _⟩, ⟨by first | exact Kd.S_nil _ _ _ _ _ | exact Kd.N_nil _ _ _ _ _ | exact Kd.V_nil _ _ _ _ _ | exact Kd.Q_nil _ _ _ _ _ | exact Kd.R_nil _ _ _ _ _⟩, ⟨zR (Kd.R_mono (zr5 d3.out a3.out) (fun _ hk => trivial))⟩, ⟨zK a4.out⟩, ⟨zK a5.out⟩, ⟨by (with_reducible repeat (first | refine blk_drewN ?_ _ | refine blk_drew ?_ | refine blk_alloc ?_ _)); refine blk_put (cs := #[.int .i64 a7, .int .i64 a9, .string b0, .slice none 0 0, .slice none 0 0]) ?_ 4 _ rfl; (with_reducible repeat (first | refine blk_drewN ?_ _ | refine blk_drew ?_ | refine blk_alloc ?_ _)); refine blk_put (cs := #[.int .i64 a7, .int .i64 a9, .string b0, .slice none 0 0, .slice none 0 0]) ?_ 3 _ rfl; (with_reducible repeat (first | refine blk_drewN ?_ _ | refine blk_drew ?_ | refine blk_alloc ?_ _)); refine blk_put (cs := #[.int .i64 a7, .int .i64 a9, .string (⟨#[]⟩ : ByteArray), .slice none 0 0, .slice none 0 0]) ?_ 2 _ rfl; (with_reducible repeat (first | refine blk_drewN ?_ _ | refine blk_drew ?_ | refine blk_alloc ?_ _)); refine blk_put (cs := #[.int .i64 a7, .int .i64 0, .string (⟨#[]⟩ : ByteArray), .slice none 0 0, .slice none 0 0]) ?_ 1 _ rfl; (with_reducible repeat (first | refine blk_drewN ?_ _ | refine blk_drew ?_ | refine blk_alloc ?_ _)); refine blk_put (cs := #[.int .i64 0, .int .i64 0, .string (⟨#[]⟩ : ByteArray), .slice none 0 0, .slice none 0 0]) ?_ 0 _ rfl; (with_reducible repeat (first | refine blk_drewN ?_ _ | refine blk_drew ?_ | refine blk_alloc ?_ _)); exact a3.out⟩, ⟨zW HB.out⟩⟩
 case round =>
  clear H'
  try clear c1
  try clear p2
  try clear c3
  try clear c6
  try clear c16
  try clear c17
  try clear m0 m1 m2 m3 m4 m5 m6 m7 m8 m9
  obtain ⟨a1, d5, c7, rfl, HA, g2, b4, b7, a4, a5, a3, HB⟩ := hrel
  cases gk with
  | zero => exact absurd HA.out (by simp [impl_copyVal.l0])
  | succ k1 =>
   have H := HA.out; clear HA; simp only [impl_copyVal.l0] at H; replace H := zI0 H
   rcases H with ⟨n1, H⟩ | ⟨n1, H⟩
   ·replace H := zD0 H; obtain ⟨v4, H⟩ := H; replace H := zD0 H; obtain ⟨v5, H⟩ := H; replace H := Option.bind_eq_some_iff.mp H; obtain ⟨⟨e1, e2, e3, e4, e0⟩, j3, H⟩ := H
    try dsimp only at H
    have n2 := zA j3; clear j3; replace H := zC0 H; obtain ⟨j4, H⟩ := H; have n3 := zA j4; clear j4; obtain ⟨e5, g3⟩ : ∃ y_ : List (S29), y_ = (d5 ++ [(⟨e1, e2, e3, e4, e0⟩ : S29)]) := ⟨_, rfl⟩; replace H : (impl_copyVal.l0 k1 a0 (a0.length : Int) (wrap64 (a1 + 1)) a7 a9 b0 e5 b1) = some (r1, r2, r3, r4, r5) := zY g3 H; have n4 := zA g3; clear g3; have H' := zA H; clear H; have g4 : 0 ≤ (a1 : Int) := zD; have g5 : a1 < (a0.length : Int) := zD; obtain ⟨j5, d6, d7, d8, d9, n5, j6, j7, j8, j9, k0, k2, k3, k4, k5⟩ := at_T29 l5.out a1 g4 g5; cases n5; replace j6 := zx HB j6; replace j7 := zx HB j7; replace j8 := zx HB j8; replace j9 := zx HB j9; replace k0 := zx HB k0; have n6 := zA k3; have n7 := zA k2; clear k3 k2; have n8 := zA k5; have n9 := zA k4; clear k5 k4; replace g4 := eq_true g4; replace g5 := eq_true g5
    try go_wp2_with (first | ((with_reducible refine zd 5 ?_); refine ze 5 29 #[.int .i64 0, .int .i64 0, .string (⟨#[]⟩ : ByteArray), .slice none 0 0, .slice none 0 0] ?_; intro b2 hg o0 hbox hb; replace b4 := zA (Kd.S_below (Kd.S_elderB (by (with_reducible repeat (first | apply Kd.S_alloc | apply Kd.S_drewN | apply Kd.S_drew)); exact b4.out) b2 (Nat.le_of_eq hg.symm)) hb); replace b7 := zr b7 hb; have b6 := zA (hbox); have v6 := zi HB hg; have v7 := zi HB hg; replace HB := zh HB hb; have o1 := zA (zL hg (zK a4.out)); have o2 := zA (zJ hg (zK a4.out)); replace a4 := zb a4 hb; have o3 := zA (zL hg (zK a5.out)); have o4 := zA (zJ hg (zK a5.out)); replace a5 := zb a5 hb; have k6 := zA (zL hg (zK a3.out)); have k7 := zA (zJ hg (zK a3.out)); replace a3 := zb a3 hb; clear hb hbox hg; have v8 := o2.out; have v9 := o1.out; have x0 := o4.out; have x1 := o3.out; have x2 := k7.out; have x3 := k6.out; obtain ⟨x4, x5, x6, x7, x8, x9, y0, y1, y2, y3⟩ := ze5 b6.out))
    generalize hW_ : (((((o0.setCell ⟨b2, 0, none⟩ (.int .i64 ((rd_T29 a0 a1).f0))).setCell ⟨b2, 1, none⟩ (.int .i64 ((rd_T29 a0 a1).f1))).setCell ⟨b2, 2, none⟩ (.string ((rd_T29 a0 a1).f2))).setCell ⟨b2, 3, none⟩ (.slice d6 ((rd_T29 a0 a1).f3).length d7)).setCell ⟨b2, 4, none⟩ (.slice d8 ((rd_T29 a0 a1).f4).length d9)) = e8; replace b4 : Aside0 (Kd.S k29 29 e8 w.heap.size (fun k_ => some k_ ≠ (.slice b8 b1.length b9 : Value).ownBlock ∧ k_ ≠ a8 ∧ k_ ≠ b3 ∧ k_ ≠ a2 ∧ k_ ≠ b2) c7 d5) := ⟨by subst hW_; (with_reducible repeat (first | apply Kd.S_alloc | apply Kd.S_drewN | apply Kd.S_drew)); exact Kd.S_mono (Kd.S_far (p := ⟨b2, 4, none⟩) (Kd.S_far (p := ⟨b2, 3, none⟩) (Kd.S_far (p := ⟨b2, 2, none⟩) (Kd.S_far (p := ⟨b2, 1, none⟩) (Kd.S_far (p := ⟨b2, 0, none⟩) (Kd.S_mono b4.out (fun k_ hk => (⟨hk, hk.2⟩ : _ ∧ k_ ≠ b2))) (fun _ hk => hk.2) (.int .i64 ((rd_T29 a0 a1).f0))) (fun _ hk => hk.2) (.int .i64 ((rd_T29 a0 a1).f1))) (fun _ hk => hk.2) (.string ((rd_T29 a0 a1).f2))) (fun _ hk => hk.2) (.slice d6 ((rd_T29 a0 a1).f3).length d7)) (fun _ hk => hk.2) (.slice d8 ((rd_T29 a0 a1).f4).length d9)) (fun _ hk => ⟨hk.1.1.1, ⟨hk.1.1.2.1, ⟨hk.1.1.2.2.1, ⟨hk.1.1.2.2.2, hk.1.2⟩⟩⟩⟩)⟩; replace b7 : Aside0 (Kd.R Kd.string 9 e8 w.heap.size (fun _ => True) (.slice b8 b1.length b9) b1) := ⟨by subst hW_; exact zR (Kd.R_mono (zr5 b7.out b6.out) (fun _ hk => trivial))⟩; replace a4 := zA (zh1 hW_.symm (zK a4.out)); replace a5 := zA (zh1 hW_.symm (zK a5.out)); replace a3 := zA (zh1 hW_.symm (zK a3.out)); replace b6 : Aside0 (e8.heap[b2]? = some (.cells #[.int .i64 ((rd_T29 a0 a1).f0), .int .i64 ((rd_T29 a0 a1).f1), .string ((rd_T29 a0 a1).f2), .slice d6 ((rd_T29 a0 a1).f3).length d7, .slice d8 ((rd_T29 a0 a1).f4).length d9] 29 (0, 0))) := ⟨by subst hW_; (with_reducible repeat (first | refine blk_drewN ?_ _ | refine blk_drew ?_ | refine blk_alloc ?_ _)); refine blk_put (cs := #[.int .i64 ((rd_T29 a0 a1).f0), .int .i64 ((rd_T29 a0 a1).f1), .string ((rd_T29 a0 a1).f2), .slice d6 ((rd_T29 a0 a1).f3).length d7, .slice none 0 0]) ?_ 4 _ rfl; (with_reducible repeat (first | refine blk_drewN ?_ _ | refine blk_drew ?_ | refine blk_alloc ?_ _)); refine blk_put (cs := #[.int .i64 ((rd_T29 a0 a1).f0), .int .i64 ((rd_T29 a0 a1).f1), .string ((rd_T29 a0 a1).f2), .slice none 0 0, .slice none 0 0]) ?_ 3 _ rfl; (with_reducible repeat (first | refine blk_drewN ?_ _ | refine blk_drew ?_ | refine blk_alloc ?_ _)); refine blk_put (cs := #[.int .i64 ((rd_T29 a0 a1).f0), .int .i64 ((rd_T29 a0 a1).f1), .string (⟨#[]⟩ : ByteArray), .slice none 0 0, .slice none 0 0]) ?_ 2 _ rfl; (with_reducible repeat (first | refine blk_drewN ?_ _ | refine blk_drew ?_ | refine blk_alloc ?_ _)); refine blk_put (cs := #[.int .i64 ((rd_T29 a0 a1).f0), .int .i64 0, .string (⟨#[]⟩ : ByteArray), .slice none 0 0, .slice none 0 0]) ?_ 1 _ rfl; (with_reducible repeat (first | refine blk_drewN ?_ _ | refine blk_drew ?_ | refine blk_alloc ?_ _)); refine blk_put (cs := #[.int .i64 0, .int .i64 0, .string (⟨#[]⟩ : ByteArray), .slice none 0 0, .slice none 0 0]) ?_ 0 _ rfl; (with_reducible repeat (first | refine blk_drewN ?_ _ | refine blk_drew ?_ | refine blk_alloc ?_ _)); exact b6.out⟩; replace HB := zA (zh2 hW_.symm (zW HB.out)); clear hW_; replace b4 := zA (Kd.S_drew b4.out); replace b7 := zA (Kd.R_drew b7.out); replace a4 := zA (blk_drew a4.out); replace a5 := zA (blk_drew a5.out); replace a3 := zA (blk_drew a3.out); replace b6 := zA (blk_drew b6.out); replace HB := zA (below_drew1 HB.out)
    refine start_ (n := 8) (S := fun w' => w'.cell? ⟨a2, 0, none⟩ = some (.int .i64 a7) ∧ w'.cell? ⟨a2, 1, none⟩ = some (.int .i64 a9) ∧ w'.cell? ⟨a2, 2, none⟩ = some (.string b0) ∧ w'.cell? ⟨a2, 3, none⟩ = some (c7) ∧ w'.cell? ⟨a2, 4, none⟩ = some (.slice b8 b1.length b9) ∧ w'.cell? ⟨b2, 0, none⟩ = some (.int .i64 ((rd_T29 a0 a1).f0)) ∧ w'.cell? ⟨b2, 1, none⟩ = some (.int .i64 ((rd_T29 a0 a1).f1)) ∧ w'.cell? ⟨b2, 2, none⟩ = some (.string ((rd_T29 a0 a1).f2)) ∧ w'.cell? ⟨b2, 3, none⟩ = some (.slice d6 ((rd_T29 a0 a1).f3).length d7) ∧ w'.cell? ⟨b2, 4, none⟩ = some (.slice d8 ((rd_T29 a0 a1).f4).length d9)) (ds := [7]) (Array.replicate 8 false) (by kernel_rfl) rfl rfl zO fun hHeld => ?_; refine with_tabW impl_copyVal.tab5 impl_copyVal.bits5 (fun HT_ HW_ => ?_)
    generalize e8.drew = y4 at b4 b7 a4 a5 a3 b6 HB hHeld ⊢; refine zp 0 23 ?_; refine zt 1 24 ?_; refine zt 2 25 ?_
    refine zo 3 (some 26) fun K hK => ?_
    refine goes_ Try.func33 (by kernel_rfl) rfl #[.agg #[.int .i64 ((rd_T29 a0 a1).f0), .int .i64 ((rd_T29 a0 a1).f1), .string ((rd_T29 a0 a1).f2), .slice d6 ((rd_T29 a0 a1).f3).length d7, .slice d8 ((rd_T29 a0 a1).f4).length d9]] (by rfl) rfl rfl zM ?_
    with_reducible refine (ih k1 (by have := g2.out; omega) ((rd_T29 a0 a1).f0) ((rd_T29 a0 a1).f1) ((rd_T29 a0 a1).f2) _ _ ((rd_T29 a0 a1).f3) _ _ ((rd_T29 a0 a1).f4) e1 e2 e3 e4 e0 _ ?s1 ?s2 ?s3 ?s4 n2.out).mono ?_
    (case s1 => exact zC (Kd.C_below n6.out HB.out))
    (case s2 => exact n7.out)
    (case s3 => exact zC (Kd.C_below n8.out HB.out))
    (case s4 => exact n9.out)
    rintro e y5 ⟨y6, y7, rfl, d4, e9, hb⟩
    refine ⟨_, rfl, ?_⟩
    obtain ⟨g6, f5⟩ := Deep.named hb; have g7 := zA (Kd.S_lower (Kd.S_newB (Kd.S_newB (Kd.S_newB (Kd.S_newB (Kd.S_new' (Kd.S_new' (Deep.S_newT f5 d4) (Kd.S_lt (by (with_reducible repeat (first | apply Kd.S_alloc | apply Kd.S_drewN | apply Kd.S_drew)); exact b4.out))) (Kd.R_lt (zR b7.out))) (g := a8) (o := .cells #[.int .i64 a7, .int .i64 a9, .string b0, .slice (some j5) a0.length c4, .slice c0 b5.length c2] 29 (0, 0)) (zK a4.out)) (g := b3) (o := .cells #[.int .i64 0, .int .i64 0, .string (⟨#[]⟩ : ByteArray), .slice none 0 0, .slice none 0 0] 29 (0, 0)) (zK a5.out)) (g := a2) (o := .cells #[.int .i64 a7, .int .i64 a9, .string b0, c7, .slice b8 b1.length b9] 29 (0, 0)) (zK a3.out)) (g := b2) (o := .cells #[.int .i64 ((rd_T29 a0 a1).f0), .int .i64 ((rd_T29 a0 a1).f1), .string ((rd_T29 a0 a1).f2), .slice d6 ((rd_T29 a0 a1).f3).length d7, .slice d8 ((rd_T29 a0 a1).f4).length d9] 29 (0, 0)) (zK b6.out)) (below_size (zW HB.out))); replace b4 := zA (Deep.S_oldT f5 (Kd.S_told (Kd.S_told (Kd.S_old (by (with_reducible repeat (first | apply Kd.S_alloc | apply Kd.S_drewN | apply Kd.S_drew)); exact b4.out) hb) (Kd.S_base d4)) (Kd.R_base e9))); have g8 := zA (Kd.R_lower (Kd.R_new' (Deep.R_newT f5 e9) (Kd.R_lt (zR b7.out))) (below_size (zW HB.out))); replace b7 := zA (Kd.R_elder' (zR b7.out) (Kd.R_base e9) hb); replace a4 := zb a4 hb; replace a5 := zb a5 hb; replace a3 := zb a3 hb; replace b6 := zb b6 hb; replace HB := zh HB hb; clear f5
    (try clear hb d4 e9)
    obtain ⟨o5, o6, k8⟩ := Kd.S_slice g7.out
    (first | subst k8 | (injection k8 with f1_ f2_ f3_; have c8 := f1_.symm; have c9 := f3_.symm; clear f1_ f2_ f3_; subst c8; subst c9))
    obtain ⟨k9, l1, l2⟩ := Kd.R_slice g8.out
    (first | subst l2 | (injection l2 with f1_ f2_ f3_; have c8 := f1_.symm; have c9 := f3_.symm; clear f1_ f2_ f3_; subst c8; subst c9))
    refine hK.out _ _ zO fun hHeld => ?_
    clear hK K; refine zn ?_
    refine zo 4 (some 27) fun K hK => ?_
    refine value_ (w1 := ?_) (v := ?_) (by rfl) rfl ?_ ?_
    rotate_left 2
    ·go_simp
     constructor
     ·rfl
     ·rfl
    refine hK.out _ _ ⟨(blk_cell (blk_alloc a3.out _) 0).trans rfl, (blk_cell (blk_alloc a3.out _) 1).trans rfl, (blk_cell (blk_alloc a3.out _) 2).trans rfl, (blk_cell (blk_alloc a3.out _) 3).trans rfl, (blk_cell (blk_alloc a3.out _) 4).trans rfl, (blk_cell (blk_alloc b6.out _) 0).trans rfl, (blk_cell (blk_alloc b6.out _) 1).trans rfl, (blk_cell (blk_alloc b6.out _) 2).trans rfl, (blk_cell (blk_alloc b6.out _) 3).trans rfl, (blk_cell (blk_alloc b6.out _) 4).trans rfl⟩ (fun hHeld => ?_)
    clear hK K; refine zn ?_
    refine zo 5 (some 28) fun K hK => ?_
    refine Kd.S_append_step k29 (w0 := w) w.heap.size (by rfl) (.tmp 24) (.tmp 27) 27 29 (.agg #[(.int .i64 0), (.int .i64 0), (.string ⟨#[]⟩), (.slice none 0 0), (.slice none 0 0)]) 80 rfl Try.underlying27 info29 rfl (by decide) (by omega) c7 d5 (⟨e1, e2, e3, e4, e0⟩ : S29) [.int .i64 e1, .int .i64 e2, .string e3, .slice o5 e4.length o6, .slice k9 e0.length l1] (fun k_ => some k_ ≠ (.slice b8 b1.length b9 : Value).ownBlock ∧ k_ ≠ a8 ∧ k_ ≠ b3 ∧ k_ ≠ a2 ∧ k_ ≠ b2) (fun k_ => (((fun k_ => some k_ ≠ (.slice b8 b1.length b9 : Value).ownBlock ∧ k_ ≠ a8 ∧ k_ ≠ b3 ∧ k_ ≠ a2 ∧ k_ ≠ b2)) k_ ∧ some k_ ≠ (c7 : Value).ownBlock) ∧ g6 k_) rfl rfl ?aP (fun k_ hk_ => hk_.1) ?aF ?aO ?aB ?aS ?aL ?_
    (case aP => exact k29_mkM _ _ _ (⟨e1, e2, e3, e4, e0⟩ : S29) (Kd.S_mono (ok' := fun k_ => ((fun k_ => (((fun k_ => some k_ ≠ (.slice b8 b1.length b9 : Value).ownBlock ∧ k_ ≠ a8 ∧ k_ ≠ b3 ∧ k_ ≠ a2 ∧ k_ ≠ b2)) k_ ∧ some k_ ≠ (c7 : Value).ownBlock) ∧ g6 k_)) k_ ∧ some k_ ≠ (.slice k9 e0.length l1 : Value).ownBlock) (g7.out) (fun k_ hk => ⟨⟨⟨⟨hk.1.1.1.1.2, ⟨hk.1.1.1.2, ⟨hk.1.1.2, ⟨hk.1.2, hk.2⟩⟩⟩⟩, hk.1.1.1.1.1.2⟩, hk.1.1.1.1.1.1.2⟩, hk.1.1.1.1.1.1.1⟩)) (Kd.R_mono (ok' := (fun k_ => (((fun k_ => some k_ ≠ (.slice b8 b1.length b9 : Value).ownBlock ∧ k_ ≠ a8 ∧ k_ ≠ b3 ∧ k_ ≠ a2 ∧ k_ ≠ b2)) k_ ∧ some k_ ≠ (c7 : Value).ownBlock) ∧ g6 k_)) (Kd.R_types (Kd.R_types (Kd.R_types (Kd.R_types (Kd.R_apart' (g8.out) (Kd.S_typed b4.out) (by decide)) a4.out (by decide)) a5.out (by decide)) a3.out (by decide)) b6.out (by decide)) (fun k_ hk => ⟨⟨⟨hk.1.1.1.1.1.2, ⟨hk.1.1.1.2, ⟨hk.1.1.2, ⟨hk.1.2, hk.2⟩⟩⟩⟩, hk.1.1.1.1.2⟩, hk.1.1.1.1.1.1.2⟩)))
    (case aB => exact (zW HB.out))
    (case aF => exact (fun k_ hk => ⟨Kd.fresh' (Kd.R_lt (zR b7.out)) k_ hk, Kd.freshB (zK a4.out) k_ hk, Kd.freshB (zK a5.out) k_ hk, Kd.freshB (zK a3.out) k_ hk, Kd.freshB (zK b6.out) k_ hk⟩))
    (case aO => exact (by (with_reducible repeat (first | apply Kd.S_alloc | apply Kd.S_drewN | apply Kd.S_drew)); exact Kd.S_mono b4.out (fun k_ hk => ⟨⟨hk.1.1.1.1, ⟨hk.1.1.1.2.1, ⟨hk.1.1.1.2.2.1, ⟨hk.1.1.1.2.2.2.1, hk.1.1.1.2.2.2.2⟩⟩⟩⟩, fun e_ => hk.2 e_.2⟩)))
    (case aS => exact (below_size (zW HB.out)))
    (case aL => have := n3.out; omega)
    intro y8 y9 ho hb hg hat
    rw [← n4.out] at ho; replace b7 := zA (Kd.R_over' (zR b7.out) (Kd.S_typed (by (with_reducible repeat (first | apply Kd.S_alloc | apply Kd.S_drewN | apply Kd.S_drew)); exact b4.out)) (by decide) hg); replace a4 := zA (blk_grown (g := a8) (o := .cells #[.int .i64 a7, .int .i64 a9, .string b0, .slice (some j5) a0.length c4, .slice c0 b5.length c2] 29 (0, 0)) (zK a4.out) hg (Kd.S_away b4.out (fun _ hk => hk.1.1.1.2.1))); replace a5 := zA (blk_grown (g := b3) (o := .cells #[.int .i64 0, .int .i64 0, .string (⟨#[]⟩ : ByteArray), .slice none 0 0, .slice none 0 0] 29 (0, 0)) (zK a5.out) hg (Kd.S_away b4.out (fun _ hk => hk.1.1.1.2.2.1))); replace a3 := zA (blk_grown (g := a2) (o := .cells #[.int .i64 a7, .int .i64 a9, .string b0, c7, .slice b8 b1.length b9] 29 (0, 0)) (zK a3.out) hg (Kd.S_away b4.out (fun _ hk => hk.1.1.1.2.2.2.1))); replace b6 := zA (blk_grown (g := b2) (o := .cells #[.int .i64 ((rd_T29 a0 a1).f0), .int .i64 ((rd_T29 a0 a1).f1), .string ((rd_T29 a0 a1).f2), .slice d6 ((rd_T29 a0 a1).f3).length d7, .slice d8 ((rd_T29 a0 a1).f4).length d9] 29 (0, 0)) (zK b6.out) hg (Kd.S_away b4.out (fun _ hk => hk.1.1.1.2.2.2.2))); replace HB := zA (hb); have l3 := zA (ho); clear b4 g7 g8; clear ho hb hg hat; obtain ⟨g9, h0, l4⟩ := Kd.S_slice l3.out
    (first | subst l4 | (injection l4 with f1_ f2_ f3_; have c8 := f1_.symm; have c9 := f3_.symm; clear f1_ f2_ f3_; subst c8; subst c9))
    refine hK.out _ _ zO fun hHeld => ?_
    clear hK K; refine zn ?_; refine zp 6 29 ?_
    refine last_ (i := 7) (N := none) #[true, true, true, true, true, true, true, true] rfl rfl (one_of HT_.out (by kernel_rfl)) (by decide) (fun K hK => ?_)
    have z0 := zc3 a3.out; have z1 := zF a3.out 3; have z2 := a6.out; have z3 := d0.out; have z4 := k7.out; have z5 := c5.out; have z6 := d1.out; have z7 := k6.out
    refine skip_ (w1 := ?_) (by rfl) rfl ?_ ?_
    rotate_left
    ·go_simp
     rfl
    refine hK.out _ _ ?_
    clear hK K
    refine done_ (done_of HT_.out (by kernel_rfl)) ?_
    try go_wp2
    go_roundg k1
    case measure => have := g2.out; omega
    case rel => exact ⟨(wrap64 (a1 + 1)), (e5), (.slice g9 e5.length h0), zS, H', ⟨by have := g2.out; omega⟩, ⟨by (with_reducible repeat (first | apply Kd.S_alloc | apply Kd.S_drewN | apply Kd.S_drew)); exact Kd.S_mono (Kd.S_far (p := ⟨a2, 3, none⟩) (Kd.S_mono l3.out (fun k_ hk => (⟨hk, hk.2.2.2.1⟩ : _ ∧ k_ ≠ a2))) (fun _ hk => hk.2) (.slice g9 e5.length h0)) (fun _ hk => ⟨hk.1.1, ⟨hk.1.2.1, ⟨hk.1.2.2.1, hk.1.2.2.2.1⟩⟩⟩)⟩, ⟨zR (Kd.R_mono (Kd.R_far (p := ⟨a2, 3, none⟩) (Kd.R_types b7.out a3.out (by decide)) (fun _ hk => hk.2) (.slice g9 e5.length h0)) (fun _ hk => trivial))⟩, ⟨zK a4.out⟩, ⟨zK a5.out⟩, ⟨by (with_reducible repeat (first | refine blk_drewN ?_ _ | refine blk_drew ?_ | refine blk_alloc ?_ _)); refine blk_put (cs := #[.int .i64 a7, .int .i64 a9, .string b0, c7, .slice b8 b1.length b9]) ?_ 3 _ rfl; (with_reducible repeat (first | refine blk_drewN ?_ _ | refine blk_drew ?_ | refine blk_alloc ?_ _)); exact a3.out⟩, ⟨zW HB.out⟩⟩
   simp only [zU] at H; obtain ⟨rfl, rfl, rfl, rfl, rfl⟩ := H; have z8 := c5.out; have z9 := a6.out; have A0 := d1.out; have A1 := d0.out; obtain ⟨A3, A4, A5, A6, A7, A8, A9, B0, B1, B2⟩ := ze5 a3.out; have B3 := h8.out; have B4 := h7.out; obtain ⟨B5, B6, B7, B8, B9, C0, C1, C2, C3, C4⟩ := ze5 a5.out; obtain ⟨h1, h2, o7⟩ := Kd.S_slice b4.out; subst o7
   go_wp2
   refine bodyPost_ret (results_cell_row rfl _ _ b3 29 #[.int .i64 a7, .int .i64 a9, .string b0, .slice h1 d5.length h2, .slice b8 b1.length b9] (0, 0) _ rfl (by (with_reducible repeat (first | refine blk_drewN ?_ _ | refine blk_drew ?_ | refine blk_alloc ?_ _)); refine blk_put (cs := #[.int .i64 a7, .int .i64 a9, .string b0, .slice h1 d5.length h2, .slice none 0 0]) ?_ 4 _ rfl; (with_reducible repeat (first | refine blk_drewN ?_ _ | refine blk_drew ?_ | refine blk_alloc ?_ _)); refine blk_put (cs := #[.int .i64 a7, .int .i64 a9, .string b0, .slice none 0 0, .slice none 0 0]) ?_ 3 _ rfl; (with_reducible repeat (first | refine blk_drewN ?_ _ | refine blk_drew ?_ | refine blk_alloc ?_ _)); refine blk_put (cs := #[.int .i64 a7, .int .i64 a9, .string (⟨#[]⟩ : ByteArray), .slice none 0 0, .slice none 0 0]) ?_ 2 _ rfl; (with_reducible repeat (first | refine blk_drewN ?_ _ | refine blk_drew ?_ | refine blk_alloc ?_ _)); refine blk_put (cs := #[.int .i64 a7, .int .i64 0, .string (⟨#[]⟩ : ByteArray), .slice none 0 0, .slice none 0 0]) ?_ 1 _ rfl; (with_reducible repeat (first | refine blk_drewN ?_ _ | refine blk_drew ?_ | refine blk_alloc ?_ _)); refine blk_put (cs := #[.int .i64 0, .int .i64 0, .string (⟨#[]⟩ : ByteArray), .slice none 0 0, .slice none 0 0]) ?_ 0 _ rfl; (with_reducible repeat (first | refine blk_drewN ?_ _ | refine blk_drew ?_ | refine blk_alloc ?_ _)); exact a5.out) Try.underlying29 rfl (by kernel_rfl)) rfl ?_
   exact ⟨_, _, zE, by (with_reducible repeat (first | apply Kd.S_alloc | apply Kd.S_drewN | apply Kd.S_drew)); exact Kd.S_mono (Kd.S_far (p := ⟨b3, 4, none⟩) (Kd.S_far (p := ⟨b3, 3, none⟩) (Kd.S_far (p := ⟨b3, 2, none⟩) (Kd.S_far (p := ⟨b3, 1, none⟩) (Kd.S_far (p := ⟨b3, 0, none⟩) (Kd.S_mono b4.out (fun k_ hk => (⟨hk, hk.2.2.1⟩ : _ ∧ k_ ≠ b3))) (fun _ hk => hk.2) (.int .i64 a7)) (fun _ hk => hk.2) (.int .i64 a9)) (fun _ hk => hk.2) (.string b0)) (fun _ hk => hk.2) (.slice h1 d5.length h2)) (fun _ hk => hk.2) (.slice b8 b1.length b9)) (fun _ hk => hk.1.1), zR (Kd.R_mono (zr5 b7.out a5.out) (fun _ hk => trivial)), zW HB.out⟩
/-! ### impl_AtKey: function 9 -/
def impl_AtKey.f (k : Nat) (a4 a7 : Int) (a8 : ByteArray) (a2 : List (S29)) (a5 : List ByteArray) (a1 : ByteArray) : Option (Int × Int × ByteArray × (List (S29)) × List ByteArray × Bool) := (slices_Index_string_string.f k a5 a1).bind fun a0 => (if a4 = 5 then ((impl_inRange.f a0 0 (wrap64 ((a2.length : Int) - 1))).bind fun a6 => (if a6 = true then (if 0 ≤ a0 then (if a0 < (a2.length : Int) then ((impl_copyVal.f k ((rd_T29 a2 a0).f0) ((rd_T29 a2 a0).f1) ((rd_T29 a2 a0).f2) ((rd_T29 a2 a0).f3) ((rd_T29 a2 a0).f4)).bind fun a3 => (some (a3.1, a3.2.1, a3.2.2.1, a3.2.2.2.1, a3.2.2.2.2, true))) else (none)) else (none)) else (some (0, 0, (⟨#[]⟩ : ByteArray), ([] : List (S29)), ([] : List ByteArray), false)))) else (some (0, 0, (⟨#[]⟩ : ByteArray), ([] : List (S29)), ([] : List ByteArray), false)))
theorem impl_AtKey.calls (k : Nat) (b0 b1 : Int) (b2 : ByteArray) (b7 : Option Addr) (b3 : Nat) (a2 : List (S29)) (a7 : Option Addr) (a8 : Nat) (a5 : List ByteArray) (a1 : ByteArray) (r1 r2 : Int) (r3 : ByteArray) (r4 : List (S29)) (r5 : List ByteArray) (r6 : Bool) (w : World) (d4 : Kd.C k29 w b7 a2.length a2) (d5 : a2.length ≤ b3) (d6 : Kd.C Kd.string w a7 a5.length a5) (d7 : a5.length ≤ a8) (h : impl_AtKey.f k b0 b1 b2 a2 a5 a1 = some (r1, r2, r3, r4, r5, r6)) :
  Calls Try.prog 9 #[.agg #[.int .i64 b0, .int .i64 b1, .string b2, .slice b7 a2.length b3, .slice a7 a5.length a8], .string a1] w fun e w' => ∃ d8 c2 : Value, e = .returned (.tuple #[.agg #[.int .i64 r1, .int .i64 r2, .string r3, d8, c2], .bool r6]) ∧ Kd.S k29 29 w' w.heap.size (fun k_ => some k_ ≠ (c2 : Value).ownBlock) d8 r4 ∧ Kd.R Kd.string 9 w' w.heap.size (fun _ => True) c2 r5 ∧ Below w.heap.size w w' := by
 have l1 := Try.underlying29
 have i6 := zA d4
 have l2 := zA d5
 clear d4 d5
 have c3 := zA d6
 have c5 := zA d7
 clear d6 d7
 have HB := zA (Below.refl w.heap.size w)
 unfold impl_AtKey.f at h
 have H := h
 clear h
 replace H := Option.bind_eq_some_iff.mp H
 obtain ⟨a4, d9, H⟩ := H
 try dsimp only at H
 have A3 := zA d9
 clear d9
 replace H := zI1 H
 rcases H with ⟨c4, H⟩ | ⟨c4, H⟩
 ·have i7 := beq_iff_eq.mpr c4; have i8 := bne_eq_false_iff_eq.mpr c4; clear c4; replace H := Option.bind_eq_some_iff.mp H; obtain ⟨l3, e0, H⟩ := H
  try dsimp only at H
  have A5 := zA e0; clear e0; replace H := zB0 H
  rcases H with ⟨rfl, H⟩ | ⟨rfl, H⟩
  ·replace H := zD0 H; obtain ⟨l4, H⟩ := H; replace H := zD0 H; obtain ⟨l5, H⟩ := H; replace H := Option.bind_eq_some_iff.mp H; obtain ⟨⟨a9, b4, b8, c1, c6⟩, e1, H⟩ := H
   try dsimp only at H
   have A9 := zA e1; clear e1; simp only [zU] at H; obtain ⟨rfl, rfl, rfl, rfl, rfl, rfl⟩ := H
   go_enter Try.func9, Try.ntmps9
   go_wp2_with (first | ((with_reducible refine gate_dst (N := 2) rfl ?_); (try (refine gate_guard (by rfl) ?_; dsimp only)); refine box_event ?hg (N := 2) ?hd (cs := #[.int .i64 b0, .int .i64 b1, .string b2, .slice b7 a2.length b3, .slice a7 a5.length a8]) (t := 29) ?hr ?_; (case hd => rfl); (case hg => rfl); (case hr => first | (go_simp; done) | (go_simp; rfl)); intro c7 hg l6 hbox hb; have a0 := zA (hbox); have e2 := zi HB hg; have e3 := zi HB hg; replace HB := zA (below_step (zB) hb); clear hb hbox hg) | ((with_reducible refine gate_dst (N := 4) rfl ?_); (try (refine gate_guard (by rfl) ?_; dsimp only)); refine box_event ?hg (N := 4) ?hd (cs := #[.int .i64 0, .int .i64 0, .string (⟨#[]⟩ : ByteArray), .slice none 0 0, .slice none 0 0]) (t := 29) ?hr ?_; (case hd => rfl); (case hg => rfl); (case hr => first | (go_simp; done) | (go_simp; rfl)); intro a6 hg b5 hbox hb; have a3 := zA (hbox); have e4 := zi HB hg; have e5 := zi HB hg; replace HB := zh HB hb; have b9 := zA (zL hg (zK a0.out)); have c0 := zA (zJ hg (zK a0.out)); replace a0 := zb a0 hb; clear hb hbox hg; have l7 := b9.out; have l8 := c0.out; obtain ⟨e6, e7, e8, e9, f5, f6, f7, f8, f9, g0⟩ := ze5 a0.out) | ((with_reducible refine zq 31 ?_); refine zg (some 10) Try.func31 #[.slice a7 a5.length a8, .string a1] ?_; (with_reducible refine (slices_Index_string_string.calls k _ _ a5 a1 a4 _ ?s1 ?s2 A3.out).mono ?_); (case s1 => exact zC (Kd.C_below c3.out HB.out)); (case s2 => exact c5.out); rintro e w' ⟨rfl, ⟨nd, rfl⟩⟩; refine ⟨_, rfl, ?_⟩; (try (rw [drewN_self b5]; generalize hq_ : World.drewN b5 _ = b5; replace a0 := zA (zh1 hq_.symm (zK a0.out)); replace a3 := zA (zh1 hq_.symm (zK a3.out)); replace HB := zA (zh2 hq_.symm (zW HB.out)); clear hq_)); (try (obtain ⟨e6, e7, e8, e9, f5, f6, f7, f8, f9, g0⟩ := ze5 a0.out))) | (go_at_call 32; (with_reducible refine (impl_inRange.calls a4 0 (wrap64 ((a2.length : Int) - 1)) true _ A5.out).mono ?_); rintro e w' ⟨rfl, ⟨nd, rfl⟩⟩; (try (rw [drewN_self b5]; generalize hq_ : World.drewN b5 _ = b5; replace a0 := zA (zh1 hq_.symm (zK a0.out)); replace a3 := zA (zh1 hq_.symm (zK a3.out)); replace HB := zA (zh2 hq_.symm (zW HB.out)); clear hq_)); (try (obtain ⟨e6, e7, e8, e9, f5, f6, f7, f8, f9, g0⟩ := ze5 a0.out)); have c8 : 0 ≤ (a4 : Int) := zD; have c9 : a4 < (a2.length : Int) := zD; obtain ⟨i9, j0, j1, j2, j3, j4, g1, g2, g3, g4, g5, g6, g7, g8, g9⟩ := at_T29 i6.out a4 c8 c9; cases j4; replace g1 := zx HB g1; replace g2 := zx HB g2; replace g3 := zx HB g3; replace g4 := zx HB g4; replace g5 := zx HB g5; have j5 := zA g7; have j6 := zA g6; clear g7 g6; have j7 := zA g9; have j8 := zA g8; clear g9 g8; replace c8 := eq_true c8; replace c9 := eq_true c9) | ((with_reducible refine zq 33 ?_); refine zg (some 29) Try.func33 #[.agg #[.int .i64 ((rd_T29 a2 a4).f0), .int .i64 ((rd_T29 a2 a4).f1), .string ((rd_T29 a2 a4).f2), .slice j0 ((rd_T29 a2 a4).f3).length j1, .slice j2 ((rd_T29 a2 a4).f4).length j3]] ?_; (with_reducible refine (impl_copyVal.calls k ((rd_T29 a2 a4).f0) ((rd_T29 a2 a4).f1) ((rd_T29 a2 a4).f2) _ _ ((rd_T29 a2 a4).f3) _ _ ((rd_T29 a2 a4).f4) a9 b4 b8 c1 c6 _ ?s1 ?s2 ?s3 ?s4 A9.out).mono ?_); (case s1 => exact zC (Kd.C_below j5.out HB.out)); (case s2 => exact j6.out); (case s3 => exact zC (Kd.C_below j7.out HB.out)); (case s4 => exact j8.out); rintro e l9 ⟨m0, m1, rfl, h0, h1, hb⟩; refine ⟨_, rfl, ?_⟩; obtain ⟨m2, d0⟩ := Deep.named hb; have h2 := zA (Kd.S_lower (Kd.S_newB (Kd.S_newB (Deep.S_newT d0 h0) (g := c7) (o := .cells #[.int .i64 b0, .int .i64 b1, .string b2, .slice (some i9) a2.length b3, .slice a7 a5.length a8] 29 (0, 0)) (zK a0.out)) (g := a6) (o := .cells #[.int .i64 0, .int .i64 0, .string (⟨#[]⟩ : ByteArray), .slice none 0 0, .slice none 0 0] 29 (0, 0)) (zK a3.out)) (below_size (zW HB.out))); have h3 := zA (Kd.R_lower (Deep.R_newT d0 h1) (below_size (zW HB.out))); replace a0 := zb a0 hb; replace a3 := zb a3 hb; replace HB := zh HB hb; clear d0; (try clear hb h0 h1); obtain ⟨m3, m4, m5, m6, m7, m8, m9, n0, n1, n2⟩ := ze5 a3.out; obtain ⟨d1, d2, j9⟩ := Kd.S_slice h2.out; subst j9; obtain ⟨h4, h5, k0⟩ := Kd.R_slice h3.out; subst k0))
   refine bodyPost_ret (results_ct rfl _ _ a6 29 #[.int .i64 a9, .int .i64 b4, .string b8, .slice d1 c1.length d2, .slice h4 c6.length h5] (0, 0) _ rfl (by (with_reducible repeat (first | refine blk_drewN ?_ _ | refine blk_drew ?_ | refine blk_alloc ?_ _)); refine blk_put (cs := #[.int .i64 a9, .int .i64 b4, .string b8, .slice d1 c1.length d2, .slice none 0 0]) ?_ 4 _ rfl; (with_reducible repeat (first | refine blk_drewN ?_ _ | refine blk_drew ?_ | refine blk_alloc ?_ _)); refine blk_put (cs := #[.int .i64 a9, .int .i64 b4, .string b8, .slice none 0 0, .slice none 0 0]) ?_ 3 _ rfl; (with_reducible repeat (first | refine blk_drewN ?_ _ | refine blk_drew ?_ | refine blk_alloc ?_ _)); refine blk_put (cs := #[.int .i64 a9, .int .i64 b4, .string (⟨#[]⟩ : ByteArray), .slice none 0 0, .slice none 0 0]) ?_ 2 _ rfl; (with_reducible repeat (first | refine blk_drewN ?_ _ | refine blk_drew ?_ | refine blk_alloc ?_ _)); refine blk_put (cs := #[.int .i64 a9, .int .i64 0, .string (⟨#[]⟩ : ByteArray), .slice none 0 0, .slice none 0 0]) ?_ 1 _ rfl; (with_reducible repeat (first | refine blk_drewN ?_ _ | refine blk_drew ?_ | refine blk_alloc ?_ _)); refine blk_put (cs := #[.int .i64 0, .int .i64 0, .string (⟨#[]⟩ : ByteArray), .slice none 0 0, .slice none 0 0]) ?_ 0 _ rfl; (with_reducible repeat (first | refine blk_drewN ?_ _ | refine blk_drew ?_ | refine blk_alloc ?_ _)); exact a3.out) Try.underlying29 rfl (by kernel_rfl)) rfl ?_
   exact ⟨_, _, zE, by (with_reducible repeat (first | apply Kd.S_alloc | apply Kd.S_drewN | apply Kd.S_drew)); exact Kd.S_mono (Kd.S_far (p := ⟨a6, 4, none⟩) (Kd.S_far (p := ⟨a6, 3, none⟩) (Kd.S_far (p := ⟨a6, 2, none⟩) (Kd.S_far (p := ⟨a6, 1, none⟩) (Kd.S_far (p := ⟨a6, 0, none⟩) (Kd.S_mono h2.out (fun k_ hk => (⟨hk, hk.2⟩ : _ ∧ k_ ≠ a6))) (fun _ hk => hk.2) (.int .i64 a9)) (fun _ hk => hk.2) (.int .i64 b4)) (fun _ hk => hk.2) (.string b8)) (fun _ hk => hk.2) (.slice d1 c1.length d2)) (fun _ hk => hk.2) (.slice h4 c6.length h5)) (fun _ hk => hk.1.1.1.1), zR (Kd.R_mono (zr5 h3.out a3.out) (fun _ hk => trivial)), zW HB.out⟩
  simp only [zU] at H; obtain ⟨rfl, rfl, rfl, rfl, rfl, rfl⟩ := H
  go_enter Try.func9, Try.ntmps9
  go_wp2_with (first | ((with_reducible refine gate_dst (N := 2) rfl ?_); (try (refine gate_guard (by rfl) ?_; dsimp only)); refine box_event ?hg (N := 2) ?hd (cs := #[.int .i64 b0, .int .i64 b1, .string b2, .slice b7 a2.length b3, .slice a7 a5.length a8]) (t := 29) ?hr ?_; (case hd => rfl); (case hg => rfl); (case hr => first | (go_simp; done) | (go_simp; rfl)); intro c7 hg n3 hbox hb; have a0 := zA (hbox); have e2 := zi HB hg; have e3 := zi HB hg; replace HB := zA (below_step (zB) hb); clear hb hbox hg) | ((with_reducible refine gate_dst (N := 4) rfl ?_); (try (refine gate_guard (by rfl) ?_; dsimp only)); refine box_event ?hg (N := 4) ?hd (cs := #[.int .i64 0, .int .i64 0, .string (⟨#[]⟩ : ByteArray), .slice none 0 0, .slice none 0 0]) (t := 29) ?hr ?_; (case hd => rfl); (case hg => rfl); (case hr => first | (go_simp; done) | (go_simp; rfl)); intro a6 hg b6 hbox hb; have a3 := zA (hbox); have e4 := zi HB hg; have e5 := zi HB hg; replace HB := zh HB hb; have b9 := zA (zL hg (zK a0.out)); have c0 := zA (zJ hg (zK a0.out)); replace a0 := zb a0 hb; clear hb hbox hg; have n4 := b9.out; have n5 := c0.out; obtain ⟨h6, h7, h8, h9, i0, i1, i2, i3, i4, i5⟩ := ze5 a0.out) | ((with_reducible refine zq 31 ?_); refine zg (some 10) Try.func31 #[.slice a7 a5.length a8, .string a1] ?_; (with_reducible refine (slices_Index_string_string.calls k _ _ a5 a1 a4 _ ?s1 ?s2 A3.out).mono ?_); (case s1 => exact zC (Kd.C_below c3.out HB.out)); (case s2 => exact c5.out); rintro e w' ⟨rfl, ⟨nd, rfl⟩⟩; refine ⟨_, rfl, ?_⟩; (try (rw [drewN_self b6]; generalize hq_ : World.drewN b6 _ = b6; replace a0 := zA (zh1 hq_.symm (zK a0.out)); replace a3 := zA (zh1 hq_.symm (zK a3.out)); replace HB := zA (zh2 hq_.symm (zW HB.out)); clear hq_)); (try (obtain ⟨h6, h7, h8, h9, i0, i1, i2, i3, i4, i5⟩ := ze5 a0.out))) | (go_at_call 32; (with_reducible refine (impl_inRange.calls a4 0 (wrap64 ((a2.length : Int) - 1)) false _ A5.out).mono ?_); rintro e w' ⟨rfl, ⟨nd, rfl⟩⟩; (try (rw [drewN_self b6]; generalize hq_ : World.drewN b6 _ = b6; replace a0 := zA (zh1 hq_.symm (zK a0.out)); replace a3 := zA (zh1 hq_.symm (zK a3.out)); replace HB := zA (zh2 hq_.symm (zW HB.out)); clear hq_)); (try (obtain ⟨h6, h7, h8, h9, i0, i1, i2, i3, i4, i5⟩ := ze5 a0.out)); obtain ⟨n6, n7, n8, n9, o0, o1, o2, o3, o4, o5⟩ := ze5 a3.out))
  refine bodyPost_ret (results_ct rfl _ _ a6 29 #[.int .i64 0, .int .i64 0, .string (⟨#[]⟩ : ByteArray), .slice none 0 0, .slice none 0 0] (0, 0) _ rfl (by (with_reducible repeat (first | refine blk_drewN ?_ _ | refine blk_drew ?_ | refine blk_alloc ?_ _)); refine blk_put (cs := #[.int .i64 0, .int .i64 0, .string (⟨#[]⟩ : ByteArray), .slice none 0 0, .slice none 0 0]) ?_ 4 _ rfl; (with_reducible repeat (first | refine blk_drewN ?_ _ | refine blk_drew ?_ | refine blk_alloc ?_ _)); refine blk_put (cs := #[.int .i64 0, .int .i64 0, .string (⟨#[]⟩ : ByteArray), .slice none 0 0, .slice none 0 0]) ?_ 3 _ rfl; (with_reducible repeat (first | refine blk_drewN ?_ _ | refine blk_drew ?_ | refine blk_alloc ?_ _)); refine blk_put (cs := #[.int .i64 0, .int .i64 0, .string (⟨#[]⟩ : ByteArray), .slice none 0 0, .slice none 0 0]) ?_ 2 _ rfl; (with_reducible repeat (first | refine blk_drewN ?_ _ | refine blk_drew ?_ | refine blk_alloc ?_ _)); refine blk_put (cs := #[.int .i64 0, .int .i64 0, .string (⟨#[]⟩ : ByteArray), .slice none 0 0, .slice none 0 0]) ?_ 1 _ rfl; (with_reducible repeat (first | refine blk_drewN ?_ _ | refine blk_drew ?_ | refine blk_alloc ?_ _)); refine blk_put (cs := #[.int .i64 0, .int .i64 0, .string (⟨#[]⟩ : ByteArray), .slice none 0 0, .slice none 0 0]) ?_ 0 _ rfl; (with_reducible repeat (first | refine blk_drewN ?_ _ | refine blk_drew ?_ | refine blk_alloc ?_ _)); exact a3.out) Try.underlying29 rfl (by kernel_rfl)) rfl ?_
  exact ⟨_, _, zE, by first | exact Kd.S_nil _ _ _ _ _ | exact Kd.N_nil _ _ _ _ _ | exact Kd.V_nil _ _ _ _ _ | exact Kd.Q_nil _ _ _ _ _ | exact Kd.R_nil _ _ _ _ _, by first | exact Kd.R_nil _ _ _ _ _ | exact Kd.N_nil _ _ _ _ _ | exact Kd.V_nil _ _ _ _ _ | exact Kd.Q_nil _ _ _ _ _ | exact Kd.S_nil _ _ _ _ _, zW HB.out⟩
 have i7 := beq_eq_false_iff_ne.mpr c4
 have i8 := bne_iff_ne.mpr c4
 simp only [zU] at H
 obtain ⟨rfl, rfl, rfl, rfl, rfl, rfl⟩ := H
 go_enter Try.func9, Try.ntmps9
 go_wp2_with (first | ((with_reducible refine gate_dst (N := 2) rfl ?_); (try (refine gate_guard (by rfl) ?_; dsimp only)); refine box_event ?hg (N := 2) ?hd (cs := #[.int .i64 b0, .int .i64 b1, .string b2, .slice b7 a2.length b3, .slice a7 a5.length a8]) (t := 29) ?hr ?_; (case hd => rfl); (case hg => rfl); (case hr => first | (go_simp; done) | (go_simp; rfl)); intro c7 hg o6 hbox hb; have a0 := zA (hbox); have e2 := zi HB hg; have e3 := zi HB hg; replace HB := zA (below_step (zB) hb); clear hb hbox hg) | ((with_reducible refine gate_dst (N := 4) rfl ?_); (try (refine gate_guard (by rfl) ?_; dsimp only)); refine box_event ?hg (N := 4) ?hd (cs := #[.int .i64 0, .int .i64 0, .string (⟨#[]⟩ : ByteArray), .slice none 0 0, .slice none 0 0]) (t := 29) ?hr ?_; (case hd => rfl); (case hg => rfl); (case hr => first | (go_simp; done) | (go_simp; rfl)); intro a6 hg d3 hbox hb; have a3 := zA (hbox); have e4 := zi HB hg; have e5 := zi HB hg; replace HB := zh HB hb; have b9 := zA (zL hg (zK a0.out)); have c0 := zA (zJ hg (zK a0.out)); replace a0 := zb a0 hb; clear hb hbox hg; have o7 := b9.out; have o8 := c0.out; obtain ⟨k1, k2, k3, k4, k5, k6, k7, k8, k9, l0⟩ := ze5 a0.out) | ((with_reducible refine zq 31 ?_); refine zg (some 10) Try.func31 #[.slice a7 a5.length a8, .string a1] ?_; (with_reducible refine (slices_Index_string_string.calls k _ _ a5 a1 a4 _ ?s1 ?s2 A3.out).mono ?_); (case s1 => exact zC (Kd.C_below c3.out HB.out)); (case s2 => exact c5.out); rintro e w' ⟨rfl, ⟨nd, rfl⟩⟩; refine ⟨_, rfl, ?_⟩; (try (rw [drewN_self d3]; generalize hq_ : World.drewN d3 _ = d3; replace a0 := zA (zh1 hq_.symm (zK a0.out)); replace a3 := zA (zh1 hq_.symm (zK a3.out)); replace HB := zA (zh2 hq_.symm (zW HB.out)); clear hq_)); (try (obtain ⟨k1, k2, k3, k4, k5, k6, k7, k8, k9, l0⟩ := ze5 a0.out)); obtain ⟨o9, p0, p1, p2, p3, p4, p5, p6, p7, p8⟩ := ze5 a3.out))
 refine bodyPost_ret (results_ct rfl _ _ a6 29 #[.int .i64 0, .int .i64 0, .string (⟨#[]⟩ : ByteArray), .slice none 0 0, .slice none 0 0] (0, 0) _ rfl (by (with_reducible repeat (first | refine blk_drewN ?_ _ | refine blk_drew ?_ | refine blk_alloc ?_ _)); refine blk_put (cs := #[.int .i64 0, .int .i64 0, .string (⟨#[]⟩ : ByteArray), .slice none 0 0, .slice none 0 0]) ?_ 4 _ rfl; (with_reducible repeat (first | refine blk_drewN ?_ _ | refine blk_drew ?_ | refine blk_alloc ?_ _)); refine blk_put (cs := #[.int .i64 0, .int .i64 0, .string (⟨#[]⟩ : ByteArray), .slice none 0 0, .slice none 0 0]) ?_ 3 _ rfl; (with_reducible repeat (first | refine blk_drewN ?_ _ | refine blk_drew ?_ | refine blk_alloc ?_ _)); refine blk_put (cs := #[.int .i64 0, .int .i64 0, .string (⟨#[]⟩ : ByteArray), .slice none 0 0, .slice none 0 0]) ?_ 2 _ rfl; (with_reducible repeat (first | refine blk_drewN ?_ _ | refine blk_drew ?_ | refine blk_alloc ?_ _)); refine blk_put (cs := #[.int .i64 0, .int .i64 0, .string (⟨#[]⟩ : ByteArray), .slice none 0 0, .slice none 0 0]) ?_ 1 _ rfl; (with_reducible repeat (first | refine blk_drewN ?_ _ | refine blk_drew ?_ | refine blk_alloc ?_ _)); refine blk_put (cs := #[.int .i64 0, .int .i64 0, .string (⟨#[]⟩ : ByteArray), .slice none 0 0, .slice none 0 0]) ?_ 0 _ rfl; (with_reducible repeat (first | refine blk_drewN ?_ _ | refine blk_drew ?_ | refine blk_alloc ?_ _)); exact a3.out) Try.underlying29 rfl (by kernel_rfl)) rfl ?_
 exact ⟨_, _, zE, by first | exact Kd.S_nil _ _ _ _ _ | exact Kd.N_nil _ _ _ _ _ | exact Kd.V_nil _ _ _ _ _ | exact Kd.Q_nil _ _ _ _ _ | exact Kd.R_nil _ _ _ _ _, by first | exact Kd.R_nil _ _ _ _ _ | exact Kd.N_nil _ _ _ _ _ | exact Kd.V_nil _ _ _ _ _ | exact Kd.Q_nil _ _ _ _ _ | exact Kd.S_nil _ _ _ _ _, zW HB.out⟩
/-! ### laws_eqStringS: function 35 -/
mutual
def laws_eqStringS.j0 : Nat → List ByteArray → List ByteArray → Option (Bool)
 | 0, _, _ => none
 | k + 1, x0, x1 => laws_eqStringS.l0 k x0 x1 0
def laws_eqStringS.l0 : Nat → List ByteArray → List ByteArray → Int → Option (Bool)
 | 0, _, _, _ => none
 | k + 1, x0, x1, x5 => if x5 < (x0.length : Int) then (if 0 ≤ x5 then (if x5 < (x1.length : Int) then (if (rdOf ByteArray.empty x0 x5).toList = (rdOf ByteArray.empty x1 x5).toList then (laws_eqStringS.l0 k x0 x1 (wrap64 (x5 + 1))) else (some false)) else (none)) else (none)) else (some true)
end
def laws_eqStringS.f (k : Nat) (l0 l1 : List ByteArray) : Option (Bool) := if (l0.length : Int) = (l1.length : Int) then (laws_eqStringS.j0 k l0 l1) else (some false)
theorem laws_eqStringS.calls (k : Nat) (A0 : Option Addr) (c0 : Nat) (l0 : List ByteArray) (A1 : Option Addr) (c1 : Nat) (l1 : List ByteArray) (r : Bool) (w : World) (b1 : Kd.C Kd.string w A0 l0.length l0) (b2 : l0.length ≤ c0) (b3 : Kd.C Kd.string w A1 l1.length l1) (b4 : l1.length ≤ c1) (h : laws_eqStringS.f k l0 l1 = some r) :
  Calls Try.prog 35 #[.slice A0 l0.length c0, .slice A1 l1.length c1] w fun e w' => e = .returned (.bool r) ∧ Drawn0 w w' := by
 have b5 := zA b1
 have d3 := zA b2
 clear b1 b2
 have b6 := zA b3
 have d4 := zA b4
 clear b3 b4
 unfold laws_eqStringS.f at h
 have H := h
 clear h
 have a6 := zA H
 clear H
 go_enter Try.func35, Try.ntmps35
 go_upto_if 10 with (fail)
 repeat (go_quiet (fail); go_upto_if 10 with (fail))
 go_cut [] (fun wc => ∃ (kq : Nat), Aside0 (laws_eqStringS.j0 kq l0 l1 = some r) ∧ Aside0 (kq ≤ k) ∧ Drawn0 w wc)
 case first =>
  have H := a6.out; clear a6; replace H := zI1 H
  rcases H with ⟨c4, H⟩ | ⟨c4, H⟩
  ·have a1 := beq_iff_eq.mpr c4; have a7 := bne_eq_false_iff_eq.mpr c4
   have a8 : (l0.length == l1.length) = true := by first | simpa using c4 | (simp at c4 ⊢; omega)
   clear c4
   (first | rw [a1] | (simp only [i64_w, i32_w]; rw [a1]) | skip)
   have H' := zA H; clear H
   go_wp2
   repeat (go_quiet (fail); try go_wp2)
   go_meet
   case rel => exact ⟨_, (by first | exact H' | (subst_vars; exact H')), ⟨by first | omega | exact Nat.le_refl _⟩, zv0⟩
  have a1 := beq_eq_false_iff_ne.mpr c4; have a7 := bne_iff_ne.mpr c4
  have a8 : (l0.length == l1.length) = false := by first | simpa using c4 | (simp at c4 ⊢; omega)
  (first | rw [a1] | (simp only [i64_w, i32_w]; rw [a1]) | skip)
  obtain rfl := zm H
  go_wp2
  repeat (go_quiet (fail); try go_wp2)
  go_ret
  exact ⟨by first | rfl | (simp; done) | (simp [*]; done) | (simp; rw [Bool.eq_iff_iff]; simp; done), zv0⟩
 case rest =>
  clear a6
  try clear c1
  try clear p2
  try clear c3
  try clear c4
  try clear a1
  try clear a7
  try clear a8
  obtain ⟨kq, HA, b7, ⟨d5, rfl⟩⟩ := hcut
  cases kq with
  | zero => exact absurd HA.out (by simp [laws_eqStringS.j0])
  | succ b8 =>
   have H := HA.out; clear HA; simp only [laws_eqStringS.j0] at H; have H' := zA H; clear H
   go_wp2
   repeat (go_quiet (fail); try go_wp2)
   go_loopg [5] b8 (fun kq v5 w' => ∃ (a0 : Int), v5 = .int .i64 a0 ∧ Aside0 (laws_eqStringS.l0 kq l0 l1 a0 = some r) ∧ Aside0 (kq ≤ b8) ∧ Drawn0 w w')
   case atStart => exact ⟨(0), zS, H', ⟨Nat.le_refl _⟩, zv0⟩
   case round =>
    clear H'
    try clear c1
    try clear c2
    try clear p2
    try clear c3
    try clear c4
    try clear a1
    try clear a7
    try clear a8
    try clear p2
    obtain ⟨a0, rfl, HA, b9, ⟨m2, rfl⟩⟩ := hrel
    cases gk with
    | zero => exact absurd HA.out (by simp [laws_eqStringS.l0])
    | succ k2 =>
     have H := HA.out; clear HA; simp only [laws_eqStringS.l0] at H; replace H := zI0 H
     rcases H with ⟨c5, H⟩ | ⟨c5, H⟩
     ·replace H := zD0 H; obtain ⟨d6, H⟩ := H; replace H := zD0 H; obtain ⟨d7, H⟩ := H; replace H := zI1 H
      rcases H with ⟨c8, H⟩ | ⟨c8, H⟩
      ·have c6 := beq_iff_eq.mpr c8; have c7 := bne_eq_false_iff_eq.mpr c8; clear c8; have H' := zA H; clear H; have a2 : 0 ≤ (a0 : Int) := zD; have a3 : a0 < (l0.length : Int) := zD; obtain ⟨c9, a9, d0⟩ := Kd.at_string b5.out a0 a2 a3; cases a9; replace a2 := eq_true a2; replace a3 := eq_true a3; have a4 : 0 ≤ (a0 : Int) := zD; have a5 : a0 < (l1.length : Int) := zD; obtain ⟨d1, b0, d2⟩ := Kd.at_string b6.out a0 a4 a5; cases b0; replace a4 := eq_true a4; replace a5 := eq_true a5
       go_wp2
       repeat (go_quiet (fail); try go_wp2)
       go_roundg k2
       case measure => have := b7.out; have := b9.out; omega
       case rel => exact ⟨(wrap64 (a0 + 1)), zS, H', ⟨by have := b7.out; have := b9.out; omega⟩, zv0⟩
      have c6 := beq_eq_false_iff_ne.mpr c8; have c7 := bne_iff_ne.mpr c8; obtain rfl := zm H; have a2 : 0 ≤ (a0 : Int) := zD; have a3 : a0 < (l0.length : Int) := zD; obtain ⟨c9, a9, d0⟩ := Kd.at_string b5.out a0 a2 a3; cases a9; replace a2 := eq_true a2; replace a3 := eq_true a3; have a4 : 0 ≤ (a0 : Int) := zD; have a5 : a0 < (l1.length : Int) := zD; obtain ⟨d1, b0, d2⟩ := Kd.at_string b6.out a0 a4 a5; cases b0; replace a4 := eq_true a4; replace a5 := eq_true a5
      go_wp2
      repeat (go_quiet (fail); try go_wp2)
      go_ret
      exact ⟨by first | rfl | (simp; done) | (simp [*]; done) | (simp; rw [Bool.eq_iff_iff]; simp; done), zv0⟩
     obtain rfl := zm H
     go_wp2
     repeat (go_quiet (fail); try go_wp2)
     go_ret
     exact ⟨by first | rfl | (simp; done) | (simp [*]; done) | (simp; rw [Bool.eq_iff_iff]; simp; done), zv0⟩
class laws_eqVal.Rec where
 f : Nat → Int → Int → ByteArray → List (S29) → List ByteArray → Int → Int → ByteArray → List (S29) → List ByteArray → Option (Bool)
class laws_eqVal.Rec.Ok [laws_eqVal.Rec] : Prop where
 calls : ∀ (k : Nat) (a4 : Int) (a5 : Int) (a6 : ByteArray) (a7 : Option Addr) (a8 : Nat) (a0 : List (S29)) (a9 : Option Addr) (b0 : Nat) (a1 : List ByteArray) (b1 : Int) (b2 : Int) (b3 : ByteArray) (b4 : Option Addr) (b5 : Nat) (a2 : List (S29)) (b6 : Option Addr) (b7 : Nat) (a3 : List ByteArray) (r : Bool) (w : World) (b8 : Kd.C k29 w a7 a0.length a0) (b9 : a0.length ≤ a8) (c0 : Kd.C Kd.string w a9 a1.length a1) (c1 : a1.length ≤ b0) (c2 : Kd.C k29 w b4 a2.length a2) (c3 : a2.length ≤ b5) (c4 : Kd.C Kd.string w b6 a3.length a3) (c5 : a3.length ≤ b7) (h : laws_eqVal.Rec.f k a4 a5 a6 a0 a1 b1 b2 b3 a2 a3 = some r),
  Calls Try.prog 10 #[.agg #[.int .i64 a4, .int .i64 a5, .string a6, .slice a7 a0.length a8, .slice a9 a1.length b0], .agg #[.int .i64 b1, .int .i64 b2, .string b3, .slice b4 a2.length b5, .slice b6 a3.length b7]] w fun e w' => e = .returned (.bool r) ∧ Below w.heap.size w w'
theorem laws_eqVal.Rec.calls [laws_eqVal.Rec] [o : laws_eqVal.Rec.Ok] : ∀ (k : Nat) (a4 a5 : Int) (a6 : ByteArray) (a7 : Option Addr) (a8 : Nat) (a0 : List (S29)) (a9 : Option Addr) (b0 : Nat) (a1 : List ByteArray) (b1 b2 : Int) (b3 : ByteArray) (b4 : Option Addr) (b5 : Nat) (a2 : List (S29)) (b6 : Option Addr) (b7 : Nat) (a3 : List ByteArray) (r : Bool) (w : World) (b8 : Kd.C k29 w a7 a0.length a0) (b9 : a0.length ≤ a8) (c0 : Kd.C Kd.string w a9 a1.length a1) (c1 : a1.length ≤ b0) (c2 : Kd.C k29 w b4 a2.length a2) (c3 : a2.length ≤ b5) (c4 : Kd.C Kd.string w b6 a3.length a3) (c5 : a3.length ≤ b7) (h : laws_eqVal.Rec.f k a4 a5 a6 a0 a1 b1 b2 b3 a2 a3 = some r),
  Calls Try.prog 10 #[.agg #[.int .i64 a4, .int .i64 a5, .string a6, .slice a7 a0.length a8, .slice a9 a1.length b0], .agg #[.int .i64 b1, .int .i64 b2, .string b3, .slice b4 a2.length b5, .slice b6 a3.length b7]] w fun e w' => e = .returned (.bool r) ∧ Below w.heap.size w w' := o.calls
section
set_option linter.unusedSectionVars false
variable [laws_eqVal.Rec] [laws_eqVal.Rec.Ok]
/-! ### laws_eqValS: function 34 -/
mutual
def laws_eqValS.j0 : Nat → List (S29) → List (S29) → Option (Bool)
 | 0, _, _ => none
 | k + 1, x0, x1 => laws_eqValS.l0 k x0 x1 0
def laws_eqValS.l0 : Nat → List (S29) → List (S29) → Int → Option (Bool)
 | 0, _, _, _ => none
 | k + 1, x0, x1, x5 => if x5 < (x0.length : Int) then (if 0 ≤ x5 then (if x5 < (x1.length : Int) then ((laws_eqVal.Rec.f k ((rd_T29 x0 x5).f0) ((rd_T29 x0 x5).f1) ((rd_T29 x0 x5).f2) ((rd_T29 x0 x5).f3) ((rd_T29 x0 x5).f4) ((rd_T29 x1 x5).f0) ((rd_T29 x1 x5).f1) ((rd_T29 x1 x5).f2) ((rd_T29 x1 x5).f3) ((rd_T29 x1 x5).f4)).bind fun a0 => (if a0 = true then (laws_eqValS.l0 k x0 x1 (wrap64 (x5 + 1))) else (some false))) else (none)) else (none)) else (some true)
end
def laws_eqValS.f (k : Nat) (l0 : List (S29)) (l1 : List (S29)) : Option (Bool) := if (l0.length : Int) = (l1.length : Int) then (laws_eqValS.j0 k l0 l1) else (some false)
def laws_eqValS.T6 : Bool × List (List Nat × List Nat) := (true, [([], []), ([], []), ([0, 1], [0, 1]), ([2], [2]), ([], []), ([], []), ([4, 5], [4, 5]), ([6], [6]), ([3, 7], [3, 7]), ([8], [8])])
def laws_eqValS.B6 : List Nat := [0, 0, 3, 7, 0, 0, 48, 112, 255, 511]
theorem laws_eqValS.tab6 : rtab .any (opsOf Try.f34 6) = laws_eqValS.T6 := by kernel_rfl
theorem laws_eqValS.bits6 : waitsOk laws_eqValS.T6.2 laws_eqValS.B6 = true := by kernel_rfl
theorem laws_eqValS.calls (k : Nat) (A0 : Option Addr) (c0 : Nat) (l0 : List (S29)) (A1 : Option Addr) (c1 : Nat) (l1 : List (S29)) (r : Bool) (w : World) (f6 : Kd.C k29 w A0 l0.length l0) (f7 : l0.length ≤ c0) (f8 : Kd.C k29 w A1 l1.length l1) (f9 : l1.length ≤ c1) (h : laws_eqValS.f k l0 l1 = some r) :
  Calls Try.prog 34 #[.slice A0 l0.length c0, .slice A1 l1.length c1] w fun e w' => e = .returned (.bool r) ∧ Below w.heap.size w w' := by
 have h7 := Try.underlying29
 have g0 := zA f6
 have h8 := zA f7
 clear f6 f7
 have g1 := zA f8
 have h9 := zA f9
 clear f8 f9
 have HB := zA (Below.refl w.heap.size w)
 unfold laws_eqValS.f at h
 have H := h
 clear h
 have e2 := zA H
 clear H
 go_enter Try.func34, Try.ntmps34
 go_upto_if 10 with (fail)
 go_cut [] (fun wc => ∃ (kq : Nat), Aside0 (laws_eqValS.j0 kq l0 l1 = some r) ∧ Aside0 (kq ≤ k) ∧ Aside0 (Below w.heap.size w wc))
 case first =>
  have H := e2.out; clear e2; replace H := zI1 H
  rcases H with ⟨c4, H⟩ | ⟨c4, H⟩
  ·have b3 := beq_iff_eq.mpr c4; have e3 := bne_eq_false_iff_eq.mpr c4
   have e4 : (l0.length == l1.length) = true := by first | simpa using c4 | (simp at c4 ⊢; omega)
   clear c4
   (first | rw [b3] | (simp only [i64_w, i32_w]; rw [b3]) | skip)
   have H' := zA H; clear H
   go_wp2
   go_meet
   case rel => exact ⟨_, (by first | exact H' | (subst_vars; exact H')), ⟨by first | omega | exact Nat.le_refl _⟩, ⟨zB⟩⟩
  have b3 := beq_eq_false_iff_ne.mpr c4; have e3 := bne_iff_ne.mpr c4
  have e4 : (l0.length == l1.length) = false := by first | simpa using c4 | (simp at c4 ⊢; omega)
  (first | rw [b3] | (simp only [i64_w, i32_w]; rw [b3]) | skip)
  obtain rfl := zm H
  go_wp2
  go_ret
  exact ⟨zE, zB⟩
 case rest =>
  clear e2
  try clear c1
  try clear p2
  try clear c3
  try clear c4
  try clear b3
  try clear e3
  try clear e4
  obtain ⟨kq, HA, g2, HB⟩ := hcut
  cases kq with
  | zero => exact absurd HA.out (by simp [laws_eqValS.j0])
  | succ g3 =>
   have H := HA.out; clear HA; simp only [laws_eqValS.j0] at H; have H' := zA H; clear H
   go_wp2
   go_loopg [5] g3 (fun kq v5 w' => ∃ (a0 : Int), v5 = .int .i64 a0 ∧ Aside0 (laws_eqValS.l0 kq l0 l1 a0 = some r) ∧ Aside0 (kq ≤ g3) ∧ Aside0 (Below w.heap.size w w'))
   case atStart => exact ⟨(0), zS, H', ⟨Nat.le_refl _⟩, ⟨zB⟩⟩
   case round =>
    clear H'
    try clear c1
    try clear p2
    try clear c3
    try clear c4
    try clear b3
    try clear e3
    try clear e4
    try clear p2
    obtain ⟨a0, rfl, HA, g4, HB⟩ := hrel
    cases gk with
    | zero => exact absurd HA.out (by simp [laws_eqValS.l0])
    | succ k2 =>
     have H := HA.out; clear HA; simp only [laws_eqValS.l0] at H; replace H := zI0 H
     rcases H with ⟨g6, H⟩ | ⟨g6, H⟩
     ·replace H := zD0 H; obtain ⟨i0, H⟩ := H; replace H := zD0 H; obtain ⟨i1, H⟩ := H; replace H := Option.bind_eq_some_iff.mp H; obtain ⟨i2, g5, H⟩ := H
      try dsimp only at H
      have A8 := zA g5; clear g5; replace H := zB0 H
      rcases H with ⟨rfl, H⟩ | ⟨rfl, H⟩
      ·have H' := zA H; clear H
       try go_wp2
       replace HB := zA (below_drew1 HB.out); have b4 : 0 ≤ (a0 : Int) := zD; have b5 : a0 < (l0.length : Int) := zD; obtain ⟨a1, b8, b9, c2, c5, e5, a3, a4, a5, a6, a7, c6, c7, c8, c9⟩ := at_T29 g0.out a0 b4 b5; have g7 := a7; have g8 := a6; have g9 := a5; have h0 := a4; have h1 := a3; cases e5; replace a3 := zx HB a3; replace a4 := zx HB a4; replace a5 := zx HB a5; replace a6 := zx HB a6; replace a7 := zx HB a7; have d0 := zA c7; have e6 := zA c6; clear c7 c6; have d1 := zA c9; have e7 := zA c8; clear c9 c8; replace b4 := eq_true b4; replace b5 := eq_true b5; have b6 : 0 ≤ (a0 : Int) := zD; have b7 : a0 < (l1.length : Int) := zD; obtain ⟨a2, d2, d3, d4, d5, e8, a8, a9, b0, b1, b2, d6, d7, d8, d9⟩ := at_T29 g1.out a0 b6 b7; have h2 := b2; have h3 := b1; have h4 := b0; have h5 := a9; have h6 := a8; cases e8; replace a8 := zx HB a8; replace a9 := zx HB a9; replace b0 := zx HB b0; replace b1 := zx HB b1; replace b2 := zx HB b2; have e0 := zA d7; have e9 := zA d6; clear d7 d6; have e1 := zA d9; have f5 := zA d8; clear d9 d8; replace b6 := eq_true b6; replace b7 := eq_true b7
       refine start_ (n := 10) (S := fun w' => w'.cell? (a1.add ((a0).toNat * 5)) = some (.int .i64 ((rd_T29 l0 a0).f0)) ∧ w'.cell? ⟨(a1.add ((a0).toNat * 5)).block, (a1.add ((a0).toNat * 5)).off + 1, none⟩ = some (.int .i64 ((rd_T29 l0 a0).f1)) ∧ w'.cell? ⟨(a1.add ((a0).toNat * 5)).block, (a1.add ((a0).toNat * 5)).off + 2, none⟩ = some (.string ((rd_T29 l0 a0).f2)) ∧ w'.cell? ⟨(a1.add ((a0).toNat * 5)).block, (a1.add ((a0).toNat * 5)).off + 3, none⟩ = some (.slice b8 ((rd_T29 l0 a0).f3).length b9) ∧ w'.cell? ⟨(a1.add ((a0).toNat * 5)).block, (a1.add ((a0).toNat * 5)).off + 4, none⟩ = some (.slice c2 ((rd_T29 l0 a0).f4).length c5) ∧ w'.cell? (a2.add ((a0).toNat * 5)) = some (.int .i64 ((rd_T29 l1 a0).f0)) ∧ w'.cell? ⟨(a2.add ((a0).toNat * 5)).block, (a2.add ((a0).toNat * 5)).off + 1, none⟩ = some (.int .i64 ((rd_T29 l1 a0).f1)) ∧ w'.cell? ⟨(a2.add ((a0).toNat * 5)).block, (a2.add ((a0).toNat * 5)).off + 2, none⟩ = some (.string ((rd_T29 l1 a0).f2)) ∧ w'.cell? ⟨(a2.add ((a0).toNat * 5)).block, (a2.add ((a0).toNat * 5)).off + 3, none⟩ = some (.slice d2 ((rd_T29 l1 a0).f3).length d3) ∧ w'.cell? ⟨(a2.add ((a0).toNat * 5)).block, (a2.add ((a0).toNat * 5)).off + 4, none⟩ = some (.slice d4 ((rd_T29 l1 a0).f4).length d5)) (ds := []) (Array.replicate 10 false) (by kernel_rfl) rfl rfl zO fun hHeld => ?_; refine with_tabW laws_eqValS.tab6 laws_eqValS.bits6 (fun HT_ HW_ => ?_)
       generalize wr.drew = i3 at HB d0 d1 e0 e1 a3 a4 a5 a6 a7 a8 a9 b0 b1 b2 hHeld ⊢; refine zp 0 17 ?_; refine zp 1 18 ?_; refine zp 2 19 ?_; refine zp 4 21 ?_; refine zp 5 22 ?_; refine zp 6 23 ?_; refine zt 3 20 ?_; refine zt 7 24 ?_
       refine zo 8 (some 25) fun K hK => ?_
       refine goes_ Try.func10 (by kernel_rfl) rfl #[.agg #[.int .i64 ((rd_T29 l0 a0).f0), .int .i64 ((rd_T29 l0 a0).f1), .string ((rd_T29 l0 a0).f2), .slice b8 ((rd_T29 l0 a0).f3).length b9, .slice c2 ((rd_T29 l0 a0).f4).length c5], .agg #[.int .i64 ((rd_T29 l1 a0).f0), .int .i64 ((rd_T29 l1 a0).f1), .string ((rd_T29 l1 a0).f2), .slice d2 ((rd_T29 l1 a0).f3).length d3, .slice d4 ((rd_T29 l1 a0).f4).length d5]] (by rfl) rfl rfl zM ?_
       with_reducible refine (laws_eqVal.Rec.calls k2 ((rd_T29 l0 a0).f0) ((rd_T29 l0 a0).f1) ((rd_T29 l0 a0).f2) _ _ ((rd_T29 l0 a0).f3) _ _ ((rd_T29 l0 a0).f4) ((rd_T29 l1 a0).f0) ((rd_T29 l1 a0).f1) ((rd_T29 l1 a0).f2) _ _ ((rd_T29 l1 a0).f3) _ _ ((rd_T29 l1 a0).f4) true _ ?s1 ?s2 ?s3 ?s4 ?s5 ?s6 ?s7 ?s8 A8.out).mono ?_
       (case s1 => exact zC (Kd.C_below d0.out HB.out))
       (case s2 => exact e6.out)
       (case s3 => exact zC (Kd.C_below d1.out HB.out))
       (case s4 => exact e7.out)
       (case s5 => exact zC (Kd.C_below e0.out HB.out))
       (case s6 => exact e9.out)
       (case s7 => exact zC (Kd.C_below e1.out HB.out))
       (case s8 => exact f5.out)
       rintro e i4 ⟨rfl, hb⟩
       refine ⟨_, rfl, ?_⟩
       replace HB := zA (below_step (zB) hb)
       (try clear hb)
       refine hK.out _ _ zO fun hHeld => ?_
       clear hK K; refine zn ?_; refine zp 9 26 ?_
       refine done_ (done_of HT_.out (by kernel_rfl)) ?_
       try go_wp2
       go_roundg k2
       case measure => have := g2.out; have := g4.out; omega
       case rel => exact ⟨(wrap64 (a0 + 1)), zS, H', ⟨by have := g2.out; have := g4.out; omega⟩, ⟨zB⟩⟩
      obtain rfl := zm H
      try go_wp2
      replace HB := zA (below_drew1 HB.out); have b4 : 0 ≤ (a0 : Int) := zD; have b5 : a0 < (l0.length : Int) := zD; obtain ⟨a1, b8, b9, c2, c5, e5, a3, a4, a5, a6, a7, c6, c7, c8, c9⟩ := at_T29 g0.out a0 b4 b5; have g7 := a7; have g8 := a6; have g9 := a5; have h0 := a4; have h1 := a3; cases e5; replace a3 := zx HB a3; replace a4 := zx HB a4; replace a5 := zx HB a5; replace a6 := zx HB a6; replace a7 := zx HB a7; have d0 := zA c7; have e6 := zA c6; clear c7 c6; have d1 := zA c9; have e7 := zA c8; clear c9 c8; replace b4 := eq_true b4; replace b5 := eq_true b5; have b6 : 0 ≤ (a0 : Int) := zD; have b7 : a0 < (l1.length : Int) := zD; obtain ⟨a2, d2, d3, d4, d5, e8, a8, a9, b0, b1, b2, d6, d7, d8, d9⟩ := at_T29 g1.out a0 b6 b7; have h2 := b2; have h3 := b1; have h4 := b0; have h5 := a9; have h6 := a8; cases e8; replace a8 := zx HB a8; replace a9 := zx HB a9; replace b0 := zx HB b0; replace b1 := zx HB b1; replace b2 := zx HB b2; have e0 := zA d7; have e9 := zA d6; clear d7 d6; have e1 := zA d9; have f5 := zA d8; clear d9 d8; replace b6 := eq_true b6; replace b7 := eq_true b7
      refine start_ (n := 10) (S := fun w' => w'.cell? (a1.add ((a0).toNat * 5)) = some (.int .i64 ((rd_T29 l0 a0).f0)) ∧ w'.cell? ⟨(a1.add ((a0).toNat * 5)).block, (a1.add ((a0).toNat * 5)).off + 1, none⟩ = some (.int .i64 ((rd_T29 l0 a0).f1)) ∧ w'.cell? ⟨(a1.add ((a0).toNat * 5)).block, (a1.add ((a0).toNat * 5)).off + 2, none⟩ = some (.string ((rd_T29 l0 a0).f2)) ∧ w'.cell? ⟨(a1.add ((a0).toNat * 5)).block, (a1.add ((a0).toNat * 5)).off + 3, none⟩ = some (.slice b8 ((rd_T29 l0 a0).f3).length b9) ∧ w'.cell? ⟨(a1.add ((a0).toNat * 5)).block, (a1.add ((a0).toNat * 5)).off + 4, none⟩ = some (.slice c2 ((rd_T29 l0 a0).f4).length c5) ∧ w'.cell? (a2.add ((a0).toNat * 5)) = some (.int .i64 ((rd_T29 l1 a0).f0)) ∧ w'.cell? ⟨(a2.add ((a0).toNat * 5)).block, (a2.add ((a0).toNat * 5)).off + 1, none⟩ = some (.int .i64 ((rd_T29 l1 a0).f1)) ∧ w'.cell? ⟨(a2.add ((a0).toNat * 5)).block, (a2.add ((a0).toNat * 5)).off + 2, none⟩ = some (.string ((rd_T29 l1 a0).f2)) ∧ w'.cell? ⟨(a2.add ((a0).toNat * 5)).block, (a2.add ((a0).toNat * 5)).off + 3, none⟩ = some (.slice d2 ((rd_T29 l1 a0).f3).length d3) ∧ w'.cell? ⟨(a2.add ((a0).toNat * 5)).block, (a2.add ((a0).toNat * 5)).off + 4, none⟩ = some (.slice d4 ((rd_T29 l1 a0).f4).length d5)) (ds := []) (Array.replicate 10 false) (by kernel_rfl) rfl rfl zO fun hHeld => ?_; refine with_tabW laws_eqValS.tab6 laws_eqValS.bits6 (fun HT_ HW_ => ?_)
      generalize wr.drew = i5 at HB d0 d1 e0 e1 a3 a4 a5 a6 a7 a8 a9 b0 b1 b2 hHeld ⊢; refine zp 0 17 ?_; refine zp 1 18 ?_; refine zp 2 19 ?_; refine zp 4 21 ?_; refine zp 5 22 ?_; refine zp 6 23 ?_; refine zt 3 20 ?_; refine zt 7 24 ?_
      refine zo 8 (some 25) fun K hK => ?_
      refine goes_ Try.func10 (by kernel_rfl) rfl #[.agg #[.int .i64 ((rd_T29 l0 a0).f0), .int .i64 ((rd_T29 l0 a0).f1), .string ((rd_T29 l0 a0).f2), .slice b8 ((rd_T29 l0 a0).f3).length b9, .slice c2 ((rd_T29 l0 a0).f4).length c5], .agg #[.int .i64 ((rd_T29 l1 a0).f0), .int .i64 ((rd_T29 l1 a0).f1), .string ((rd_T29 l1 a0).f2), .slice d2 ((rd_T29 l1 a0).f3).length d3, .slice d4 ((rd_T29 l1 a0).f4).length d5]] (by rfl) rfl rfl zM ?_
      with_reducible refine (laws_eqVal.Rec.calls k2 ((rd_T29 l0 a0).f0) ((rd_T29 l0 a0).f1) ((rd_T29 l0 a0).f2) _ _ ((rd_T29 l0 a0).f3) _ _ ((rd_T29 l0 a0).f4) ((rd_T29 l1 a0).f0) ((rd_T29 l1 a0).f1) ((rd_T29 l1 a0).f2) _ _ ((rd_T29 l1 a0).f3) _ _ ((rd_T29 l1 a0).f4) false _ ?s1 ?s2 ?s3 ?s4 ?s5 ?s6 ?s7 ?s8 A8.out).mono ?_
      (case s1 => exact zC (Kd.C_below d0.out HB.out))
      (case s2 => exact e6.out)
      (case s3 => exact zC (Kd.C_below d1.out HB.out))
      (case s4 => exact e7.out)
      (case s5 => exact zC (Kd.C_below e0.out HB.out))
      (case s6 => exact e9.out)
      (case s7 => exact zC (Kd.C_below e1.out HB.out))
      (case s8 => exact f5.out)
      rintro e i6 ⟨rfl, hb⟩
      refine ⟨_, rfl, ?_⟩
      replace HB := zA (below_step (zB) hb)
      (try clear hb)
      refine hK.out _ _ zO fun hHeld => ?_
      clear hK K; refine zn ?_; refine zp 9 26 ?_
      refine done_ (done_of HT_.out (by kernel_rfl)) ?_
      try go_wp2
      go_ret
      exact ⟨zE, zB⟩
     obtain rfl := zm H
     go_wp2
     go_ret
     exact ⟨zE, zB⟩
end
/-! ### laws_eqVal: function 10 -/
mutual
def laws_eqVal.j0 : Nat → Int → Int → ByteArray → List (S29) → List ByteArray → Int → Int → ByteArray → List (S29) → List ByteArray → Option (Bool)
 | 0, _, _, _, _, _, _, _, _, _, _ => none
 | k + 1, a8, a0, a1, a2, a3, a9, a4, a5, a6, a7 => if a0 = a4 then (laws_eqVal.j1 k a8 a0 a1 a2 a3 a9 a4 a5 a6 a7) else (some false)
def laws_eqVal.j1 : Nat → Int → Int → ByteArray → List (S29) → List ByteArray → Int → Int → ByteArray → List (S29) → List ByteArray → Option (Bool)
 | 0, _, _, _, _, _, _, _, _, _, _ => none
 | k + 1, a8, a0, a1, a2, a3, a9, a4, a5, a6, a7 => if a1.toList = a5.toList then (laws_eqVal.j2 k a8 a0 a1 a2 a3 a9 a4 a5 a6 a7) else (some false)
def laws_eqVal.j2 : Nat → Int → Int → ByteArray → List (S29) → List ByteArray → Int → Int → ByteArray → List (S29) → List ByteArray → Option (Bool)
 | 0, _, _, _, _, _, _, _, _, _, _ => none
 | k + 1, a8, a0, a1, a2, a3, a9, a4, a5, a6, a7 => (@laws_eqValS.f ⟨fun _ => laws_eqVal.f k⟩ k a2 a6).bind fun b2 => (if b2 = true then ((laws_eqStringS.f k a3 a7).bind fun b3 => (if b3 = true then (some true) else (some false))) else (some false))
def laws_eqVal.f : Nat → Int → Int → ByteArray → List (S29) → List ByteArray → Int → Int → ByteArray → List (S29) → List ByteArray → Option (Bool)
 | 0, _, _, _, _, _, _, _, _, _, _ => none
 | k + 1, b0, b4, b5, b6, b7, b1, b8, b9, c0, c1 => if b0 = b1 then (laws_eqVal.j0 k b0 b4 b5 b6 b7 b1 b8 b9 c0 c1) else (some false)
end
theorem laws_eqVal.calls (k : Nat) : ∀ (a7 a8 : Int) (a9 : ByteArray) (b0 : Option Addr) (b1 : Nat) (a2 : List (S29)) (b7 : Option Addr) (b8 : Nat) (a4 : List ByteArray) (b2 b3 : Int) (b4 : ByteArray) (b5 : Option Addr) (b6 : Nat) (a3 : List (S29)) (b9 : Option Addr) (c0 : Nat) (a5 : List ByteArray) (r : Bool) (w : World) (d4 : Kd.C k29 w b0 a2.length a2) (d5 : a2.length ≤ b1) (d6 : Kd.C Kd.string w b7 a4.length a4) (d7 : a4.length ≤ b8) (d8 : Kd.C k29 w b5 a3.length a3) (d9 : a3.length ≤ b6) (e0 : Kd.C Kd.string w b9 a5.length a5) (e1 : a5.length ≤ c0) (h : laws_eqVal.f k a7 a8 a9 a2 a4 b2 b3 b4 a3 a5 = some r),
  Calls Try.prog 10 #[.agg #[.int .i64 a7, .int .i64 a8, .string a9, .slice b0 a2.length b1, .slice b7 a4.length b8], .agg #[.int .i64 b2, .int .i64 b3, .string b4, .slice b5 a3.length b6, .slice b9 a5.length c0]] w fun e w' => e = .returned (.bool r) ∧ Below w.heap.size w w' := by
 induction k using Nat.strongRecOn with
 | _ k ih =>
 intro a7 a8 a9 b0 b1 a2 b7 b8 a4 b2 b3 b4 b5 b6 a3 b9 c0 a5 r w d4 d5 d6 d7 d8 d9 e0 e1 h
 cases k with
 | zero => exact absurd h (by simp [laws_eqVal.f])
 | succ k =>
 simp only [laws_eqVal.f] at h
 have m7 := Try.underlying29
 have e2 := zA d4
 have e3 := zA d5
 clear d4 d5
 have h4 := zA d6
 have h5 := zA d7
 clear d6 d7
 have e4 := zA d8
 have e5 := zA d9
 clear d8 d9
 have h6 := zA e0
 have h7 := zA e1
 clear e0 e1
 have HB := zA (Below.refl w.heap.size w)
 have H := h
 clear h
 have e6 := zA H
 clear H
 go_enter Try.func10, Try.ntmps10
 go_upto_if 9 with (first | ((with_reducible refine zd 2 ?_); refine ze 2 29 #[.int .i64 a7, .int .i64 a8, .string a9, .slice b0 a2.length b1, .slice b7 a4.length b8] ?_; intro e7 hg w4 hbox hb; have a0 := zA (hbox); have m8 := zi HB hg; have m9 := zi HB hg; replace HB := zA (below_step (zB) hb); clear hb hbox hg) | ((with_reducible refine zd 3 ?_); refine ze 3 29 #[.int .i64 b2, .int .i64 b3, .string b4, .slice b5 a3.length b6, .slice b9 a5.length c0] ?_; intro e8 hg w5 hbox hb; have a1 := zA (hbox); have n0 := zi HB hg; have n1 := zi HB hg; replace HB := zh HB hb; have c7 := zA (zL hg (zK a0.out)); have c8 := zA (zJ hg (zK a0.out)); replace a0 := zb a0 hb; clear hb hbox hg; have n2 := c7.out; have n3 := c8.out; obtain ⟨e9, f0, f1, f2, f3, f4, f5, f6, f7, f8⟩ := ze5 a0.out; obtain ⟨f9, g0, g1, g2, g3, g4, g5, g6, g7, g8⟩ := ze5 a1.out))
 (try simp only [Act.put, zT])
 go_cut [] (fun wc => ∃ (kq : Nat), Aside0 (laws_eqVal.j0 kq a7 a8 a9 a2 a4 b2 b3 b4 a3 a5 = some r) ∧ Aside0 (kq ≤ k) ∧ Aside0 (wc.heap[e7]? = some (.cells #[.int .i64 a7, .int .i64 a8, .string a9, (.slice b0 a2.length b1), (.slice b7 a4.length b8)] 29 (0, 0))) ∧ Aside0 (wc.heap[e8]? = some (.cells #[.int .i64 b2, .int .i64 b3, .string b4, (.slice b5 a3.length b6), (.slice b9 a5.length c0)] 29 (0, 0))) ∧ Aside0 (Below w.heap.size w wc))
 case first =>
  have H := e6.out; clear e6; replace H := zI1 H
  rcases H with ⟨c9, H⟩ | ⟨c9, H⟩
  ·have c2 := beq_iff_eq.mpr c9; have d2 := bne_eq_false_iff_eq.mpr c9; clear c9
   (first | rw [c2] | (simp only [i64_w, i32_w]; rw [c2]) | skip)
   have H' := zA H; clear H
   go_wp2
   go_meet
   case rel => exact ⟨_, (by first | exact H' | (subst_vars; exact H')), ⟨by first | omega | exact Nat.le_refl _⟩, ⟨zK a0.out⟩, ⟨zK a1.out⟩, ⟨zW HB.out⟩⟩
  have c2 := beq_eq_false_iff_ne.mpr c9; have d2 := bne_iff_ne.mpr c9
  (first | rw [c2] | (simp only [i64_w, i32_w]; rw [c2]) | skip)
  obtain rfl := zm H
  go_wp2
  go_ret
  exact ⟨zE, zW HB.out⟩
 case rest =>
  clear e6
  try clear c1
  try clear p2
  try clear c6
  try clear c9
  try clear c2
  try clear d2
  try clear e9 f0 f1 f2 f3 f4 f5 f6 f7 f8
  try clear f9 g0 g1 g2 g3 g4 g5 g6 g7 g8
  obtain ⟨kq, HA, d1, a0, a1, HB⟩ := hcut
  cases kq with
  | zero => exact absurd HA.out (by simp [laws_eqVal.j0])
  | succ k5 =>
   have H := HA.out; clear HA; simp only [laws_eqVal.j0] at H; have g9 := zA H; clear H; have n4 := c7.out; have n5 := c8.out; obtain ⟨h8, h9, i0, i1, i2, i3, i4, i5, i6, i7⟩ := ze5 a0.out; obtain ⟨i8, i9, j3, j4, j5, j6, j7, j8, j9, k0⟩ := ze5 a1.out
   go_upto_if 14 with (fail)
   go_cut [] (fun wc => ∃ (kq : Nat), Aside0 (laws_eqVal.j1 kq a7 a8 a9 a2 a4 b2 b3 b4 a3 a5 = some r) ∧ Aside0 (kq ≤ k5) ∧ Aside0 (wc.heap[e7]? = some (.cells #[.int .i64 a7, .int .i64 a8, .string a9, (.slice b0 a2.length b1), (.slice b7 a4.length b8)] 29 (0, 0))) ∧ Aside0 (wc.heap[e8]? = some (.cells #[.int .i64 b2, .int .i64 b3, .string b4, (.slice b5 a3.length b6), (.slice b9 a5.length c0)] 29 (0, 0))) ∧ Aside0 (Below w.heap.size w wc))
   case first =>
    have H := g9.out; clear g9; replace H := zI1 H
    rcases H with ⟨c3, H⟩ | ⟨c3, H⟩
    ·have c4 := beq_iff_eq.mpr c3; have h0 := bne_eq_false_iff_eq.mpr c3; clear c3
     (first | rw [c4] | (simp only [i64_w, i32_w]; rw [c4]) | skip)
     have H' := zA H; clear H
     go_wp2
     go_meet
     case rel => exact ⟨_, (by first | exact H' | (subst_vars; exact H')), ⟨by have := d1.out; first | omega | exact Nat.le_refl _⟩, ⟨zK a0.out⟩, ⟨zK a1.out⟩, ⟨zW HB.out⟩⟩
    have c4 := beq_eq_false_iff_ne.mpr c3; have h0 := bne_iff_ne.mpr c3
    (first | rw [c4] | (simp only [i64_w, i32_w]; rw [c4]) | skip)
    obtain rfl := zm H
    go_wp2
    go_ret
    exact ⟨zE, zW HB.out⟩
   case rest =>
    clear g9
    try clear c1
    try clear p2
    try clear c6
    try clear c9
    try clear c2
    try clear d2
    try clear c10
    try clear c11
    try clear c3
    try clear c4
    try clear h0
    try clear h8 h9 i0 i1 i2 i3 i4 i5 i6 i7
    try clear i8 i9 j3 j4 j5 j6 j7 j8 j9 k0
    try clear e9 f0 f1 f2 f3 f4 f5 f6 f7 f8
    try clear f9 g0 g1 g2 g3 g4 g5 g6 g7 g8
    try clear p2
    obtain ⟨kq, HA, d3, a0, a1, HB⟩ := hcut
    cases kq with
    | zero => exact absurd HA.out (by simp [laws_eqVal.j1])
    | succ k6 =>
     have H := HA.out; clear HA; simp only [laws_eqVal.j1] at H; have h1 := zA H; clear H; have n6 := c7.out; have n7 := c8.out; obtain ⟨k7, k8, k9, l0, l1, l2, l3, l4, l5, l6⟩ := ze5 a0.out; obtain ⟨l7, l8, l9, m0, m1, m2, m3, m4, m5, m6⟩ := ze5 a1.out
     go_upto_if 19 with (fail)
     go_cut [] (fun wc => ∃ (kq : Nat), Aside0 (laws_eqVal.j2 kq a7 a8 a9 a2 a4 b2 b3 b4 a3 a5 = some r) ∧ Aside0 (kq ≤ k6) ∧ Aside0 (wc.heap[e7]? = some (.cells #[.int .i64 a7, .int .i64 a8, .string a9, (.slice b0 a2.length b1), (.slice b7 a4.length b8)] 29 (0, 0))) ∧ Aside0 (wc.heap[e8]? = some (.cells #[.int .i64 b2, .int .i64 b3, .string b4, (.slice b5 a3.length b6), (.slice b9 a5.length c0)] 29 (0, 0))) ∧ Aside0 (Below w.heap.size w wc))
     case first =>
      have H := h1.out; clear h1; replace H := zI1 H
      rcases H with ⟨c5, H⟩ | ⟨c5, H⟩
      ·have d0 := beq_iff_eq.mpr c5; have k1 := bne_eq_false_iff_eq.mpr c5; clear c5
       (first | rw [d0] | (simp only [i64_w, i32_w]; rw [d0]) | skip)
       have H' := zA H; clear H
       go_wp2
       go_meet
       case rel => exact ⟨_, (by first | exact H' | (subst_vars; exact H')), ⟨by have := d1.out; have := d3.out; first | omega | exact Nat.le_refl _⟩, ⟨zK a0.out⟩, ⟨zK a1.out⟩, ⟨zW HB.out⟩⟩
      have d0 := beq_eq_false_iff_ne.mpr c5; have k1 := bne_iff_ne.mpr c5
      (first | rw [d0] | (simp only [i64_w, i32_w]; rw [d0]) | skip)
      obtain rfl := zm H
      go_wp2
      go_ret
      exact ⟨zE, zW HB.out⟩
     case rest =>
      clear h1
      try clear c1
      try clear p2
      try clear c6
      try clear c9
      try clear c2
      try clear d2
      try clear c10
      try clear c11
      try clear c3
      try clear c4
      try clear h0
      try clear c16
      try clear c5
      try clear d0
      try clear k1
      try clear h8 h9 i0 i1 i2 i3 i4 i5 i6 i7
      try clear i8 i9 j3 j4 j5 j6 j7 j8 j9 k0
      try clear k7 k8 k9 l0 l1 l2 l3 l4 l5 l6
      try clear l7 l8 l9 m0 m1 m2 m3 m4 m5 m6
      try clear e9 f0 f1 f2 f3 f4 f5 f6 f7 f8
      try clear f9 g0 g1 g2 g3 g4 g5 g6 g7 g8
      try clear p2
      obtain ⟨kq, HA, h2, a0, a1, HB⟩ := hcut
      cases kq with
      | zero => exact absurd HA.out (by simp [laws_eqVal.j2])
      | succ a6 =>
       have H := HA.out; clear HA; simp only [laws_eqVal.j2] at H; replace H := Option.bind_eq_some_iff.mp H; obtain ⟨n8, k2, H⟩ := H
       try dsimp only at H
       have h3 := zA k2; clear k2; replace H := zB0 H
       rcases H with ⟨rfl, H⟩ | ⟨rfl, H⟩
       ·replace H := Option.bind_eq_some_iff.mp H; obtain ⟨n9, k3, H⟩ := H
        try dsimp only at H
        have k4 := zA k3; clear k3; replace H := zB0 H
        rcases H with ⟨rfl, H⟩ | ⟨rfl, H⟩
        ·obtain rfl := zm H; have o0 := c7.out; have o1 := c8.out; obtain ⟨o2, o3, o4, o5, o6, o7, o8, o9, p0, p1⟩ := ze5 a0.out; obtain ⟨p3, p4, p5, p6, p7, p8, p9, q0, q1, q2⟩ := ze5 a1.out
         go_wp2_with (first | ((with_reducible refine zq 34 ?_); refine zg (some 24) Try.func34 #[.slice b0 a2.length b1, .slice b5 a3.length b6] ?_; (refine (@laws_eqValS.calls ⟨fun _ => laws_eqVal.f a6⟩ (@laws_eqVal.Rec.Ok.mk ⟨fun _ => laws_eqVal.f a6⟩ (fun _ => ih a6 (by have := d1.out; have := d3.out; have := h2.out; omega))) a6 _ _ a2 _ _ a3 true _ ?s1 ?s2 ?s3 ?s4 h3.out).mono ?_); (case s1 => exact zC (Kd.C_below e2.out HB.out)); (case s2 => exact e3.out); (case s3 => exact zC (Kd.C_below e4.out HB.out)); (case s4 => exact e5.out); rintro e q3 ⟨rfl, hb⟩; refine ⟨_, rfl, ?_⟩; replace a0 := zb a0 hb; replace a1 := zb a1 hb; replace HB := zh HB hb; (try clear hb); obtain ⟨q4, q5, q6, q7, q8, q9, r0, r1, r2, r3⟩ := ze5 a0.out; obtain ⟨r4, r5, r6, r7, r8, r9, t0, t1, t2, t3⟩ := ze5 a1.out) | ((with_reducible refine zq 35 ?_); refine zg (some 30) Try.func35 #[.slice b7 a4.length b8, .slice b9 a5.length c0] ?_; (with_reducible refine (laws_eqStringS.calls a6 _ _ a4 _ _ a5 true _ ?s1 ?s2 ?s3 ?s4 k4.out).mono ?_); (case s1 => exact zC (Kd.C_below h4.out HB.out)); (case s2 => exact h5.out); (case s3 => exact zC (Kd.C_below h6.out HB.out)); (case s4 => exact h7.out); rintro e w' ⟨rfl, ⟨nd, rfl⟩⟩; refine ⟨_, rfl, ?_⟩))
         go_ret
         exact ⟨zE, zW HB.out⟩
        obtain rfl := zm H; have t4 := c7.out; have t5 := c8.out; obtain ⟨t6, t7, t8, t9, v0, v1, v2, v3, v4, v5⟩ := ze5 a0.out; obtain ⟨v6, v7, v8, v9, x0, x1, x2, x3, x4, x5⟩ := ze5 a1.out
        go_wp2_with (first | ((with_reducible refine zq 34 ?_); refine zg (some 24) Try.func34 #[.slice b0 a2.length b1, .slice b5 a3.length b6] ?_; (refine (@laws_eqValS.calls ⟨fun _ => laws_eqVal.f a6⟩ (@laws_eqVal.Rec.Ok.mk ⟨fun _ => laws_eqVal.f a6⟩ (fun _ => ih a6 (by have := d1.out; have := d3.out; have := h2.out; omega))) a6 _ _ a2 _ _ a3 true _ ?s1 ?s2 ?s3 ?s4 h3.out).mono ?_); (case s1 => exact zC (Kd.C_below e2.out HB.out)); (case s2 => exact e3.out); (case s3 => exact zC (Kd.C_below e4.out HB.out)); (case s4 => exact e5.out); rintro e x6 ⟨rfl, hb⟩; refine ⟨_, rfl, ?_⟩; replace a0 := zb a0 hb; replace a1 := zb a1 hb; replace HB := zh HB hb; (try clear hb); obtain ⟨x7, x8, x9, y0, y1, y2, y3, y4, y5, y6⟩ := ze5 a0.out; obtain ⟨y7, y8, y9, z0, z1, z2, z3, z4, z5, z6⟩ := ze5 a1.out) | ((with_reducible refine zq 35 ?_); refine zg (some 30) Try.func35 #[.slice b7 a4.length b8, .slice b9 a5.length c0] ?_; (with_reducible refine (laws_eqStringS.calls a6 _ _ a4 _ _ a5 false _ ?s1 ?s2 ?s3 ?s4 k4.out).mono ?_); (case s1 => exact zC (Kd.C_below h4.out HB.out)); (case s2 => exact h5.out); (case s3 => exact zC (Kd.C_below h6.out HB.out)); (case s4 => exact h7.out); rintro e w' ⟨rfl, ⟨nd, rfl⟩⟩; refine ⟨_, rfl, ?_⟩))
        go_ret
        exact ⟨zE, zW HB.out⟩
       obtain rfl := zm H; have z7 := c7.out; have z8 := c8.out; obtain ⟨z9, A0, A1, A2, A3, A4, A5, A6, A7, A8⟩ := ze5 a0.out; obtain ⟨A9, B0, B1, B2, B3, B4, B5, B6, B7, B8⟩ := ze5 a1.out
       go_wp2_with (first | ((with_reducible refine zq 34 ?_); refine zg (some 24) Try.func34 #[.slice b0 a2.length b1, .slice b5 a3.length b6] ?_; (refine (@laws_eqValS.calls ⟨fun _ => laws_eqVal.f a6⟩ (@laws_eqVal.Rec.Ok.mk ⟨fun _ => laws_eqVal.f a6⟩ (fun _ => ih a6 (by have := d1.out; have := d3.out; have := h2.out; omega))) a6 _ _ a2 _ _ a3 false _ ?s1 ?s2 ?s3 ?s4 h3.out).mono ?_); (case s1 => exact zC (Kd.C_below e2.out HB.out)); (case s2 => exact e3.out); (case s3 => exact zC (Kd.C_below e4.out HB.out)); (case s4 => exact e5.out); rintro e B9 ⟨rfl, hb⟩; refine ⟨_, rfl, ?_⟩; replace a0 := zb a0 hb; replace a1 := zb a1 hb; replace HB := zh HB hb; (try clear hb)))
       go_ret
       exact ⟨zE, zW HB.out⟩
/-! ### laws_markText: function 60 -/
mutual
def laws_markText.j0 : Nat → Int → Option (ByteArray)
 | 0, _ => none
 | k + 1, x0 => laws_markText.l0 k x0 (⟨#[]⟩ : ByteArray)
def laws_markText.l0 : Nat → Int → ByteArray → Option (ByteArray)
 | 0, _, _ => none
 | k + 1, x0, x3 => if x0 > 0 then ((some (([(wrap64 (48 + (Int.tmod x0 10))) % 256] : List Int) : List Int)).bind fun a0 => (if (strOfNums a0).size + x3.size ≤ 9223372036854775807 then (laws_markText.l0 k (wrap64 (Int.tdiv x0 10)) ((strOfNums a0) ++ x3)) else (none))) else (if 1 + x3.size ≤ 9223372036854775807 then (some ((⟨#[109]⟩ : ByteArray) ++ x3)) else (none))
end
def laws_markText.f (k : Nat) (a0 : Int) : Option (ByteArray) := if a0 ≤ 0 then (some (⟨#[109, 48]⟩ : ByteArray)) else (laws_markText.j0 k a0)
theorem laws_markText.calls (k : Nat) (a0 : Int) (r : ByteArray) (w : World) (h : laws_markText.f k a0 = some r) :
  Calls Try.prog 60 #[.int .i64 a0] w fun e w' => e = .returned (.string r) ∧ Below w.heap.size w w' := by
 have HB := zA (Below.refl w.heap.size w)
 unfold laws_markText.f at h
 have H := h
 clear h
 have a6 := zA H
 clear H
 go_enter Try.func60, Try.ntmps60
 go_upto_if 5 with (fail)
 go_cut [] (fun wc => ∃ (kq : Nat), Aside0 (laws_markText.j0 kq a0 = some r) ∧ Aside0 (kq ≤ k) ∧ Aside0 (Below w.heap.size w wc))
 case first =>
  have H := a6.out; clear a6; replace H := zI0 H
  rcases H with ⟨a3, H⟩ | ⟨a3, H⟩
  ·(first | rw [a3] | (simp only [i64_w, i32_w]; rw [a3]) | skip)
   obtain rfl := zm H
   go_wp2
   go_ret
   exact ⟨zE, zB⟩
  (first | rw [a3] | (simp only [i64_w, i32_w]; rw [a3]) | skip)
  have H' := zA H; clear H
  go_wp2
  go_meet
  case rel => exact ⟨_, (by first | exact H' | (subst_vars; exact H')), ⟨by first | omega | exact Nat.le_refl _⟩, ⟨zB⟩⟩
 case rest =>
  clear a6
  try clear p2
  try clear c3
  try clear a3
  obtain ⟨kq, HA, a8, HB⟩ := hcut
  cases kq with
  | zero => exact absurd HA.out (by simp [laws_markText.j0])
  | succ a9 =>
   have H := HA.out; clear HA; simp only [laws_markText.j0] at H; have H' := zA H; clear H
   go_wp2
   go_loopg [0, 3] a9 (fun kq v0 v3 w' => ∃ (a1 : Int) (a2 : ByteArray), v0 = .int .i64 a1 ∧ v3 = .string a2 ∧ Aside0 (laws_markText.l0 kq a1 a2 = some r) ∧ Aside0 (kq ≤ a9) ∧ Aside0 (Below w.heap.size w w'))
   case atStart => exact ⟨(a0), ((⟨#[]⟩ : ByteArray)), zS, zS, H', ⟨Nat.le_refl _⟩, ⟨zB⟩⟩
   case round =>
    clear H'
    try clear p2
    try clear c3
    try clear a3
    try clear p2
    obtain ⟨a1, a2, rfl, rfl, HA, b0, HB⟩ := hrel
    cases gk with
    | zero => exact absurd HA.out (by simp [laws_markText.l0])
    | succ k2 =>
     have H := HA.out; clear HA; simp only [laws_markText.l0] at H; replace H := zI1 H
     rcases H with ⟨c4, H⟩ | ⟨c4, H⟩
     ·have b2 : decide (0 < a1) = true := decide_eq_true c4; clear c4; obtain ⟨a5, a7⟩ : ∃ y_ : List Int, y_ = (([(wrap64 (48 + (Int.tmod a1 10))) % 256] : List Int)) := ⟨_, rfl⟩; replace H : (if (strOfNums a5).size + a2.size ≤ 9223372036854775807 then (laws_markText.l0 k2 (wrap64 (Int.tdiv a1 10)) ((strOfNums a5) ++ a2)) else (none)) = some r := zY a7 H; have b1 := zA a7; clear a7; replace H := zC0 H; obtain ⟨c5, H⟩ := H; have b4 := eq_true c5; have b5 := decide_eq_true c5
      try have b6 : (9223372036854775807 < (strOfNums a5).size + a2.size) = False := eq_false (Nat.not_lt.2 c5)
      have H' := zA H; clear H
      go_wp2_with (first | ((with_reducible refine gate_dst (N := 12) rfl ?_); refine Kd.R_lit (Kd.int .u8) _ 5 ?hg (N := 12) ?hd (xs := ([(wrap64 (48 + (Int.tmod a1 10))) % 256] : List Int)) (inner := [.int .u8 ((wrap64 (48 + (Int.tmod a1 10))) % 256)]) (ok := fun _ => True) ?hr ?hp (fun _ hk => hk) trivial (Below.refl _ _) (Nat.le_refl _) (by simp) ?_; (case hd => rfl); (case hg => rfl); (case hr => first | (go_simp; done) | (go_simp; rfl)); (case hp => exact (Reps.one (show Kd.M (Kd.int .u8) _ _ _ ((wrap64 (48 + (Int.tmod a1 10))) % 256) [.int .u8 ((wrap64 (48 + (Int.tmod a1 10))) % 256)] from rfl) (Reps.none _ _))); intro b7 w6 a4 hb hg_ hnew_; clear hg_ hnew_; (first | rw [← b1.out] at a4 | (simp only [Int.reduceToNat] at a4; rw [← b1.out] at a4)); have b3 := zA (Kd.R_lower a4 (below_size (zB))); replace HB := zA (below_step (zB) hb); clear hb a4; have b8 := own_string (P := Try.prog) Try.underlying115 Try.underlying5 Try.underlying9 (Kd.own_of_R b3.out)))
      go_roundg k2
      case measure => have := a8.out; have := b0.out; omega
      case rel => exact ⟨(wrap64 (Int.tdiv a1 10)), ((strOfNums a5) ++ a2), zS, zS, H', ⟨by have := a8.out; have := b0.out; omega⟩, ⟨zB⟩⟩
     have b2 : decide (0 < a1) = false := decide_eq_false c4; clear c4; replace H := zC0 H; obtain ⟨c9, H⟩ := H; have b9 := eq_true c9; have c0 := decide_eq_true c9
     try have c1 : (9223372036854775807 < 1 + a2.size) = False := eq_false (Nat.not_lt.2 c9)
     obtain rfl := zm H
     go_wp2
     go_ret
     exact ⟨zE, zB⟩
/-! ### laws_markStringS: function 37 -/
def laws_markStringS.l0 : Nat → List ByteArray → Int → Int → Option (Int × List ByteArray)
 | 0, _, _, _ => none
 | k + 1, x0, x1, x5 => if x5 < (x0.length : Int) then ((laws_markText.f k x1).bind fun a0 => (if 0 ≤ x5 then (laws_markStringS.l0 k (x0.set (x5 : Int).toNat a0) (wrap64 (x1 + 1)) (wrap64 (x5 + 1))) else (none))) else (some (x1, x0))
def laws_markStringS.f (k : Nat) (l0 : List ByteArray) (a1 : Int) : Option (Int × List ByteArray) := laws_markStringS.l0 k l0 a1 0
theorem laws_markStringS.calls (k : Nat) (a3 : Nat → Prop) (a6 : Value) (l0 : List ByteArray) (a1 r1 : Int) (r2 : List ByteArray) (w0 w : World) (hB : Below w0.heap.size w0 w) (b8 : Kd.R Kd.string 9 w w0.heap.size a3 a6 l0) (h : laws_markStringS.f k l0 a1 = some (r1, r2)) :
  Calls Try.prog 37 #[a6, .int .i64 a1] w fun e w' => e = .returned (.int .i64 r1) ∧ Kd.R Kd.string 9 w' w0.heap.size (fun k_ => (a3 k_ ∨ w.heap.size ≤ k_)) a6 r2 ∧ Below w0.heap.size w0 w' ∧ Kept w w' (fun k_ => a3 k_) := by
 have b9 := zA (show Kd.R Kd.string 9 w w0.heap.size (fun k_ => (a3 k_ ∨ w.heap.size ≤ k_)) a6 l0 from Kd.R_mono b8 (fun k_ hk => (.inl hk)))
 have HK := zA (Kept.refl w (fun k_ => a3 k_))
 have c7 := zA hB.size
 have HB := zA hB
 clear hB
 unfold laws_markStringS.f at h
 have H := h
 clear h
 have H' := zA H
 clear H
 go_enter Try.func37, Try.ntmps37
 go_wp2
 go_loopg [1, 5] k (fun kq v1 v5 w' => ∃ (a5 : List ByteArray) (a4 : Int) (a2 : Int), v1 = .int .i64 a4 ∧ v5 = .int .i64 a2 ∧ Aside0 (laws_markStringS.l0 kq a5 a4 a2 = some (r1, r2)) ∧ Aside0 (kq ≤ k) ∧ Aside0 (Kd.R Kd.string 9 w' w0.heap.size (fun k_ => (a3 k_ ∨ w.heap.size ≤ k_)) a6 a5) ∧ Aside0 (Kept w w' (fun k_ => a3 k_)) ∧ Aside0 (Below w0.heap.size w0 w'))
 case atStart => exact ⟨(l0), (a1), (0), zS, zS, H', ⟨Nat.le_refl _⟩, ⟨zR b9.out⟩, ⟨by repeat (first | (with_reducible first | exact HK.out | apply Kept.alloc | apply Kept.drewN | apply Kept.drew) | exact HK.out)⟩, ⟨zB⟩⟩
 case round =>
  clear H'
  try clear p2
  obtain ⟨a5, a4, a2, rfl, rfl, HA, b3, a0, HK, HB⟩ := hrel
  cases gk with
  | zero => exact absurd HA.out (by simp [laws_markStringS.l0])
  | succ k1 =>
   have H := HA.out; clear HA; simp only [laws_markStringS.l0] at H; replace H := zI0 H
   rcases H with ⟨c0, H⟩ | ⟨c0, H⟩
   ·replace H := Option.bind_eq_some_iff.mp H; obtain ⟨a8, b4, H⟩ := H
    try dsimp only at H
    have A4 := zA b4; clear b4; replace H := zD0 H; obtain ⟨c8, H⟩ := H; obtain ⟨a9, b0⟩ : ∃ y_ : List ByteArray, y_ = (a5.set (a2 : Int).toNat a8) := ⟨_, rfl⟩; replace H : (laws_markStringS.l0 k1 a9 (wrap64 (a4 + 1)) (wrap64 (a2 + 1))) = some (r1, r2) := zY b0 H; have c1 := zA b0; clear b0; have H' := zA H; clear H; obtain ⟨c9, c2, c3⟩ := Kd.R_slice a0.out; subst c3
    go_wp2_with (first | ((with_reducible refine zq 60 ?_); refine zg (some 15) Try.func60 #[.int .i64 a4] ?_; (with_reducible refine (laws_markText.calls k1 a4 a8 _ A4.out).mono ?_); rintro e w8 ⟨rfl, hb⟩; refine ⟨_, rfl, ?_⟩; replace a0 := zr a0 hb; replace HK := zA (Kept.below (S := (fun k_ => a3 k_)) (by repeat (first | (with_reducible first | exact HK.out | apply Kept.alloc | apply Kept.drewN | apply Kept.drew) | exact HK.out)) hb); replace HB := zA (below_step (zB) hb); (try clear hb); have p6 : 0 ≤ (a2 : Int) := zD; have q6 : (a2 : Int) < ((a5.length : Int) : Int) := zD; obtain ⟨a7, d0, b5, b6, c4, d1, b7⟩ := Kd.R_form a0.out (by omega); (first | cases b5 | (injection b5 with ea_ en_ ec_; (first | subst ea_ | (injection ea_ with ea_; subst ea_)); subst ec_; clear en_)); have c5 := zA b6; have d2 := zA b7; clear b6 c4 b7; have d3 := zA (show (a3 a7 ∨ w.heap.size ≤ a7) from (a0.out.1 _ rfl)); obtain ⟨d4, d5⟩ := Kd.R_celln (⟨#[]⟩ : ByteArray) a0.out (a2 : Int) p6 q6; replace p6 := eq_true p6; replace q6 := eq_true q6; obtain ⟨d6, d7⟩ := Kd.R_celln (⟨#[]⟩ : ByteArray) a0.out (a2 : Int) (zD) (zD); have b1 := Kd.R_putg a0.out (a2 : Int) a8) | ((with_reducible refine gate_store (t := 9) (p := 16) rfl ?_); refine store_event (t := 9) (p := 16) (v := ?vo_w10) (w1 := (w8.setCell ⟨a7, (a2 : Int).toNat, none⟩ (.string a8))) ?hg ?ho ?hn ?hr ?_; (case ho => rfl); (case hg => rfl); (case hn => rfl); (case hr => first | (go_simp; done) | (go_simp; rfl)); intro b2 hw; have hg : w8.grownBy b2 (some a7) := (by rw [hw]; exact b1.2); have hp_ : Kd.R Kd.string 9 b2 w0.heap.size (fun k_ => (a3 k_ ∨ w.heap.size ≤ k_)) (.slice (some ⟨a7, 0, none⟩) a5.length c2) a9 := (by rw [hw, c1.out]; exact b1.1); clear b1; replace HB := zA ((by rw [hw]; exact below_set (HB.out) c5.out : Below w0.heap.size w0 b2)); replace HK := zA (Kept.of_grown (S := (fun k_ => a3 k_)) hg (by repeat (first | (with_reducible first | exact HK.out | apply Kept.alloc | apply Kept.drewN | apply Kept.drew) | exact HK.out)) (fun k_ e_ => (a0.out.1 k_ e_))); replace a0 := zA (hp_); clear hg hw hp_))
    go_roundg k1
    case measure => have := b3.out; omega
    case rel => exact ⟨(a9), (wrap64 (a4 + 1)), (wrap64 (a2 + 1)), zS, zS, H', ⟨by have := b3.out; omega⟩, ⟨zR a0.out⟩, ⟨by repeat (first | (with_reducible first | exact HK.out | apply Kept.alloc | apply Kept.drewN | apply Kept.drew) | exact HK.out)⟩, ⟨zB⟩⟩
   simp only [zU] at H; obtain ⟨rfl, rfl⟩ := H; obtain ⟨d8, d9, c6⟩ := Kd.R_slice a0.out; subst c6
   go_wp2
   go_ret
   exact ⟨zE, zR a0.out, zB, by repeat (first | (with_reducible first | exact HK.out | apply Kept.alloc | apply Kept.drewN | apply Kept.drew) | exact HK.out)⟩
/-! ### laws_markValS: function 36 -/
def laws_markValS.el (F_ : List S29 → Int → Option (Int × List S29)) (k : Nat) (x : S29) (n : Int) : Option (Int × S29) := (laws_markText.f k (wrap64 ((wrap64 (n + 1)) + 1))).bind fun t0 => (F_ x.f3 (wrap64 ((wrap64 ((wrap64 (n + 1)) + 1)) + 1))).bind fun (z_ : Int × _) => (fun p3n p3l => (laws_markStringS.f k x.f4 p3n).bind fun (z_ : Int × _) => (fun p4n p4l => some (p4n, (⟨n, (wrap64 (n + 1)), t0, p3l, p4l⟩ : S29))) z_.1 z_.2) z_.1 z_.2
def laws_markValS.l (F_ : List S29 → Int → Option (Int × List S29)) (k : Nat) : List S29 → Int → Option (Int × List S29)
 | [], n => some (n, [])
 | x :: r, n => (laws_markValS.el F_ k x n).bind fun p => (laws_markValS.l F_ k r p.1).bind fun q => some (q.1, p.2 :: q.2)
def laws_markValS.f : Nat → List S29 → Int → Option (Int × List S29)
 | 0, _, _ => none
 | k + 1, l0, a1 => laws_markValS.l (laws_markValS.f k) k l0 a1
theorem laws_markValS.calls (k : Nat) : ∀ (a5 : Nat → Prop) (b0 : Value) (l0 : List S29) (a1 r1 : Int) (r2 : List S29) (w0 w : World) (hB : Below w0.heap.size w0 w) (a9 : Kd.S k29 29 w w0.heap.size a5 b0 l0) (h : laws_markValS.f k l0 a1 = some (r1, r2)),
  Calls Try.prog 36 #[b0, .int .i64 a1] w fun e w' => e = .returned (.int .i64 r1) ∧ Kd.S k29 29 w' w0.heap.size a5 b0 r2 ∧ Below w0.heap.size w0 w' ∧ Kept w w' a5 := by
 induction k with
 | zero => intro _ _ _ _ _ _ _ _ _ _ h; exact absurd h (by simp [laws_markValS.f])
 | succ k ih =>
 intro a5 b0 l0 a1 r1 r2 w0 w hB a9 h
 have hu_ := Try.underlying27
 obtain ⟨A, c, rfl⟩ := Kd.S_slice a9
 have HMAX := zA (show l0.length ≤ 9223372036854775807 from (Kd.S_reads' a9).2.2.2.1)
 have HO := zA a9
 have HK := zA (Kept.refl w a5)
 have HB := zA hB
 clear hB a9
 have H' := zA (show laws_markValS.l (laws_markValS.f k) k l0 a1 = some (r1, r2) from h)
 clear h
 go_enter Try.func36, Try.ntmps36
 go_wp2
 go_loopg [1, 5] l0.length (fun gg v1 v5 w' => ∃ (kk : Nat) (x1 x5 : Int) (done rest : List S29) (tl : List S29), v1 = .int .i64 x1 ∧ v5 = .int .i64 x5 ∧ x5 = (kk : Int) ∧ l0.length - kk ≤ gg ∧ done.length = kk ∧ Aside0 (kk + rest.length = l0.length) ∧ Aside0 (laws_markValS.l (laws_markValS.f k) k rest x1 = some (r1, tl)) ∧ Aside0 (r2 = done ++ tl) ∧ Aside0 (Kd.S k29 29 w' w0.heap.size a5 (.slice A l0.length c) (done ++ rest)) ∧ Aside0 (Kept w w' a5) ∧ Aside0 (Below w0.heap.size w0 w'))
 case atStart => exact ⟨0, a1, 0, [], l0, r2, rfl, rfl, rfl, by omega, rfl, ⟨by omega⟩, H', ⟨rfl⟩, ⟨by (with_reducible repeat (first | apply Kd.S_alloc | apply Kd.S_drewN | apply Kd.S_drew)); exact HO.out⟩, ⟨by (repeat (first | (with_reducible first | exact HK.out | apply Kept.alloc | apply Kept.drewN | apply Kept.drew) | exact HK.out))⟩, ⟨by (exact zW HB.out)⟩⟩
 case round =>
  clear HO HK HB H'; obtain ⟨kk, x1, x5, done, rest, tl, rfl, rfl, b5, hg, hdl, hrl, HA, b6, HO, HK, HB⟩ := hrel
  cases rest with
  | nil =>
   have hlt : ¬ (x5 < (l0.length : Int)) := by have := hrl.out; simp at this; omega
   have H := HA.out; simp only [laws_markValS.l, Option.some.injEq, Prod.mk.injEq] at H; obtain ⟨rfl, rfl⟩ := H; have b9 := b6.out; subst b9
   simp only [List.append_nil] at HO ⊢
   have HOO := HO; clear HO b5 hg hdl; have HO := HOO
   go_wp2
   go_ret
   exact ⟨rfl, by (with_reducible repeat (first | apply Kd.S_alloc | apply Kd.S_drewN | apply Kd.S_drew)); exact HO.out, by (exact zW HB.out), by (repeat (first | (with_reducible first | exact HK.out | apply Kept.alloc | apply Kept.drewN | apply Kept.drew) | exact HK.out))⟩
  | cons x rest =>
   have hltz : x5 < (l0.length : Int) := by have := hrl.out; simp at this; omega
   have h0z : 0 ≤ x5 := by omega
   have H := HA.out; unfold laws_markValS.l at H; replace H := Option.bind_eq_some_iff.mp H; obtain ⟨⟨n1, x'⟩, hel, H⟩ := H; replace H := Option.bind_eq_some_iff.mp H; obtain ⟨⟨n2, b7⟩, hl, H⟩ := H; simp only [zU] at H; obtain ⟨rfl, rfl⟩ := H; unfold laws_markValS.el at hel; replace hel := Option.bind_eq_some_iff.mp hel; obtain ⟨t0, h_t0, hel⟩ := hel; have A_t0 := zA (show laws_markText.f k (wrap64 ((wrap64 (x1 + 1)) + 1)) = some t0 from h_t0); clear h_t0; replace hel := Option.bind_eq_some_iff.mp hel; obtain ⟨⟨p3n, p3l⟩, h_p3, hel⟩ := hel; have A_p3 := zA (show laws_markValS.f k x.f3 (wrap64 ((wrap64 ((wrap64 (x1 + 1)) + 1)) + 1)) = some (p3n, p3l) from h_p3); clear h_p3; replace hel := Option.bind_eq_some_iff.mp hel; obtain ⟨⟨p4n, p4l⟩, h_p4, hel⟩ := hel; have A_p4 := zA (show laws_markStringS.f k x.f4 p3n = some (p4n, p4l) from h_p4); clear h_p4; replace hel : some (p4n, (⟨x1, (wrap64 (x1 + 1)), t0, p3l, p4l⟩ : S29)) = some (n1, x') := hel
   simp only [Option.some.injEq, Prod.mk.injEq] at hel
   obtain ⟨rfl, rfl⟩ := hel; have AL := zA (show laws_markValS.l (laws_markValS.f k) k rest p4n = some (n2, b7) from hl); clear hl HA
   have hlen : (done ++ x :: rest).length = l0.length := by have := hrl.out; simp at this; rw [List.length_append, List.length_cons]; omega
   obtain ⟨g, cap, eA, gb, -, -⟩ := Kd.S_form HO.out (by omega); injection eA with eA1 eA2 eA3; subst eA1; subst eA3; have b2 := zA (show x5 = (done.length : Int) by omega); have HDL := zA hdl; have HGG := zA hg; have GB := zA gb; clear eA2 hlen b5 hdl hg gb; obtain ⟨oki, ce, hcl, hM, hcc, hfr, hoki, hH⟩ := Kd.S_elem HO.out z29 x5 h0z hltz; rw [Deep.get_next b2.out] at hM; obtain ⟨v3, v4, Q, rfl, g3, g4⟩ := k29_openQ hM; obtain ⟨A3, c3, rfl⟩ := Kd.S_slice g3; obtain ⟨A4, c4, rfl⟩ := Kd.R_slice g4; have H3 := zA g3; have H4 := zA g4; have HH := zA hH; have HOK := zA hoki; clear HO hM hcl hcc hfr g3 g4 hH hoki; obtain ⟨hcc, hfr⟩ := Deep.H_cells HH.out h0z hltz; have hx_ : wr.cell? ⟨g, x5.toNat * 5, none⟩ = some (.int .i64 x.f0) := hcc 0 _ rfl; have hf_ : wr.frozen? ⟨g, x5.toNat * 5, none⟩ = false := hfr 0; clear hcc hfr; have h0b := eq_true h0z; have hltb := eq_true hltz
   go_wp2_with (first
    | ((with_reducible refine gate_store (t := 3) (p := 16) rfl ?_); refine store_event (t := 3) (p := 16) (v := ?voy1_) (w1 := (wr.setCell ⟨g, x5.toNat * 5, none⟩ (.int .i64 x1))) ?hg ?ho ?hn ?hr ?_; (case ho => rfl); (case hg => rfl); (case hn => rfl); (case hr => first | (go_simp; done) | (go_simp; rfl)); intro b1 hw; have hp := Deep.H_put HH.out h0z hltz 0 (by decide) rfl rfl (u := .int .i64 x1) hw; clear hx_ hf_; have a0 := zA hp.1; have a2 := zA (Kd.S_grown H3.out hp.2 (fun k_ hk e_ => (HOK.out k_ hk.1).2 (Option.some.inj e_))); have a3 := zA (Kd.R_grown H4.out hp.2 (fun k_ hk e_ => (HOK.out k_ hk.1).2 (Option.some.inj e_))); have a4 := zA (Kept.of_grown (S := a5) hp.2 HK.out (fun k_ e_ => .inl (Option.some.inj e_ ▸ (Deep.H_own HH.out).1))); have a6 := zA (show Below w0.heap.size w0 b1 from by rw [hw]; exact below_set HB.out GB.out); clear HH H3 H4 HK HB hp hw; have HH := a0; have HK := a4; have HB := a6; clear a0 a4 a6; have H3 := a2; clear a2; have H4 := a3; clear a3; obtain ⟨hcc, hfr⟩ := Deep.H_cells HH.out h0z hltz; have hx_ : b1.cell? ⟨g, x5.toNat * 5 + 1, none⟩ = some (.int .i64 x.f1) := hcc 1 _ rfl; have hf_ : b1.frozen? ⟨g, x5.toNat * 5 + 1, none⟩ = false := hfr 1; clear hcc hfr)
    | ((with_reducible refine gate_store (t := 3) (p := 23) rfl ?_); refine store_event (t := 3) (p := 23) (v := ?voy2_) (w1 := (b1.setCell ⟨g, x5.toNat * 5 + 1, none⟩ (.int .i64 (wrap64 (x1 + 1))))) ?hg ?ho ?hn ?hr ?_; (case ho => rfl); (case hg => rfl); (case hn => rfl); (case hr => first | (go_simp; done) | (go_simp; rfl)); intro c0 hw; have hp := Deep.H_put HH.out h0z hltz 1 (by decide) rfl rfl (u := .int .i64 (wrap64 (x1 + 1))) hw; clear hx_ hf_; have a0 := zA hp.1; have a2 := zA (Kd.S_grown H3.out hp.2 (fun k_ hk e_ => (HOK.out k_ hk.1).2 (Option.some.inj e_))); have a3 := zA (Kd.R_grown H4.out hp.2 (fun k_ hk e_ => (HOK.out k_ hk.1).2 (Option.some.inj e_))); have a4 := zA (Kept.of_grown (S := a5) hp.2 HK.out (fun k_ e_ => .inl (Option.some.inj e_ ▸ (Deep.H_own HH.out).1))); have a6 := zA (show Below w0.heap.size w0 c0 from by rw [hw]; exact below_set HB.out GB.out); clear HH H3 H4 HK HB hp hw; have HH := a0; have HK := a4; have HB := a6; clear a0 a4 a6; have H3 := a2; clear a2; have H4 := a3; clear a3; skip)
    | ((with_reducible refine gate_callee (f := 60) rfl ?_); refine goesL_ (some 29) rfl rfl Try.func60 (by kernel_rfl) rfl #[.int .i64 (wrap64 ((wrap64 (x1 + 1)) + 1))] rfl (by (try simp only [List.map_toArray, List.map_cons, List.map_nil]); first | done | rfl) ?_; (with_reducible refine (laws_markText.calls k (wrap64 ((wrap64 (x1 + 1)) + 1)) t0 _ A_t0.out).mono ?_); rintro e b3 ⟨rfl, hb⟩; refine ⟨_, rfl, ?_⟩; have a0 := zA (Kd.H_below HH.out hb); have a7 := zA (Kept.below HK.out hb); have a8 := zA (below_step HB.out hb); have a2 := zA (Kd.S_below H3.out hb); have a3 := zA (Kd.R_below H4.out hb); clear HH HK HB H3 H4 A_t0; have HH := a0; have HK := a7; have HB := a8; have H3 := a2; clear a2; have H4 := a3; clear a3; clear a0 a7 a8 hb; obtain ⟨hcc, hfr⟩ := Deep.H_cells HH.out h0z hltz; have hx_ : b3.cell? ⟨g, x5.toNat * 5 + 2, none⟩ = some (.string x.f2) := hcc 2 _ rfl; have hf_ : b3.frozen? ⟨g, x5.toNat * 5 + 2, none⟩ = false := hfr 2; clear hcc hfr)
    | ((with_reducible refine gate_store (t := 9) (p := 31) rfl ?_); refine store_event (t := 9) (p := 31) (v := ?voy4_) (w1 := (b3.setCell ⟨g, x5.toNat * 5 + 2, none⟩ (.string t0))) ?hg ?ho ?hn ?hr ?_; (case ho => rfl); (case hg => rfl); (case hn => rfl); (case hr => first | (go_simp; done) | (go_simp; rfl)); intro b4 hw; have hp := Deep.H_put HH.out h0z hltz 2 (by decide) rfl rfl (u := .string t0) hw; clear hx_ hf_; have a0 := zA hp.1; have a2 := zA (Kd.S_grown H3.out hp.2 (fun k_ hk e_ => (HOK.out k_ hk.1).2 (Option.some.inj e_))); have a3 := zA (Kd.R_grown H4.out hp.2 (fun k_ hk e_ => (HOK.out k_ hk.1).2 (Option.some.inj e_))); have a4 := zA (Kept.of_grown (S := a5) hp.2 HK.out (fun k_ e_ => .inl (Option.some.inj e_ ▸ (Deep.H_own HH.out).1))); have a6 := zA (show Below w0.heap.size w0 b4 from by rw [hw]; exact below_set HB.out GB.out); clear HH H3 H4 HK HB hp hw; have HH := a0; have HK := a4; have HB := a6; clear a0 a4 a6; have H3 := a2; clear a2; have H4 := a3; clear a3; obtain ⟨hcc, hfr⟩ := Deep.H_cells HH.out h0z hltz; have hx_ : b4.cell? ⟨g, x5.toNat * 5 + 3, none⟩ = some (.slice A3 x.f3.length c3) := hcc 3 _ rfl; have hf_ : b4.frozen? ⟨g, x5.toNat * 5 + 3, none⟩ = false := hfr 3; clear hcc hfr)
    | ((with_reducible refine gate_callee (f := 36) rfl ?_); refine goesL_ (some 40) rfl rfl Try.func36 (by kernel_rfl) rfl #[.slice A3 x.f3.length c3, .int .i64 (wrap64 ((wrap64 ((wrap64 (x1 + 1)) + 1)) + 1))] rfl (by (try simp only [List.map_toArray, List.map_cons, List.map_nil]); first | done | rfl) ?_; (with_reducible refine (ih (fun k_ => oki k_ ∧ Q k_) (.slice A3 x.f3.length c3) _ (wrap64 ((wrap64 ((wrap64 (x1 + 1)) + 1)) + 1)) p3n p3l w0 _ (by (exact zW HB.out)) H3.out A_p3.out).mono ?_); rintro e b8 ⟨rfl, ho, hb, hkp⟩; refine ⟨_, rfl, ?_⟩; have hsub : ∀ k_, (oki k_ ∧ Q k_) → oki k_ := fun k_ hk => hk.1; have a0 := zA (Deep.H_call HH.out hkp hsub); have a7 := zA ho; have a8 := zA (Kept.then_ HK.out hkp (fun k_ hk => .inl (HOK.out k_ hk.1).1)); have a4 := zA hb; have a3 := zA (Kd.R_kept H4.out hkp (fun k_ hk' hP_ => hk'.2 hP_.2)); clear HH H3 HK HB ho hb hkp hsub hx_ hf_ H4; have HH := a0; have H3 := a7; have HK := a8; have HB := a4; clear a0 a7 a8 a4; have H4 := a3; clear a3; obtain ⟨hcc, hfr⟩ := Deep.H_cells HH.out h0z hltz; have hx_ : b8.cell? ⟨g, x5.toNat * 5 + 4, none⟩ = some (.slice A4 x.f4.length c4) := hcc 4 _ rfl; have hf_ : b8.frozen? ⟨g, x5.toNat * 5 + 4, none⟩ = false := hfr 4; clear hcc hfr)
    | ((with_reducible refine gate_callee (f := 37) rfl ?_); refine goesL_ (some 47) rfl rfl Try.func37 (by kernel_rfl) rfl #[.slice A4 x.f4.length c4, .int .i64 p3n] rfl (by (try simp only [List.map_toArray, List.map_cons, List.map_nil]); first | done | rfl) ?_; (with_reducible refine (laws_markStringS.calls k (fun k_ => some k_ = (.slice A4 x.f4.length c4 : Value).ownBlock) (.slice A4 x.f4.length c4) _ p3n p4n p4l w0 _ (by (exact zW HB.out)) (Deep.R_flat rfl H4.out) A_p4.out).mono ?_); rintro e c1 ⟨rfl, ho, hb, hkp⟩; refine ⟨_, rfl, ?_⟩; have hsub : ∀ k_, some k_ = (.slice A4 x.f4.length c4 : Value).ownBlock → (oki k_ ∧ ¬ Q k_) := fun k_ hk => H4.out.1 k_ hk.symm; have a0 := zA (Deep.H_call HH.out hkp (fun k_ hk => (hsub k_ hk).1)); have a7 := zA (Deep.R_back (Q := fun k_ => oki k_ ∧ ¬ Q k_) rfl ho (fun k_ hk => hsub k_ hk.symm)); have a8 := zA (Kept.then_ HK.out hkp (fun k_ hk => .inl (HOK.out k_ (hsub k_ hk).1).1)); have a4 := zA hb; have a2 := zA (Kd.S_kept H3.out hkp (fun k_ hk' hP_ => (hsub k_ hP_).2 hk'.2)); clear HH H4 HK HB ho hb hkp hsub hx_ hf_ H3; have HH := a0; have H4 := a7; have HK := a8; have HB := a4; clear a0 a7 a8 a4; have H3 := a2; clear a2; skip))
   have hS := Kd.H_back HH.out (x' := (⟨x1, (wrap64 (x1 + 1)), t0, p3l, p4l⟩ : S29)) (k29_mkQ _ _ _ _ Q H3.out H4.out) (fun _ hk => hk); rw [Deep.set_next b2.out] at hS; have HS := zA hS; clear hS
   go_roundg (l0.length - (kk + 1))
   case measure => have := HGG.out; have := hrl.out; rw [List.length_cons] at this; omega
   case rel => exact ⟨kk + 1, _, wrap64 (x5 + 1), done ++ [_], rest, b7, rfl, rfl, by have := b2.out; have := HDL.out; have := HMAX.out; unfold wrap64; omega, Nat.le_refl _, by rw [List.length_append, HDL.out]; rfl, ⟨by have := hrl.out; rw [List.length_cons] at this; omega⟩, AL, ⟨by rw [b6.out, List.append_assoc]; rfl⟩, HS, HK, HB⟩
/-! ### laws_markVal: function 11 -/
def laws_markVal.f (k : Nat) (a0 a2 : Int) (a3 : ByteArray) (l0 : List S29) (l1 : List ByteArray) (a1 : Int) : Option (Int × List S29 × List ByteArray) := (laws_markValS.f k l0 a1).bind fun p => (laws_markStringS.f k l1 p.1).bind fun q => some (q.1, p.2, q.2)
set_option maxHeartbeats 2000000 in
set_option maxRecDepth 100000 in
theorem laws_markVal.calls (k : Nat) (a3 a4 : Int) (a5 : ByteArray) (a0 : Nat → Prop) (a7 : Value) (l0 : List S29) (a2 : Nat → Prop) (a6 : Value) (l1 : List ByteArray) (a1 r1 : Int) (r2 : List S29) (r3 : List ByteArray) (w0 w : World) (hB : Below w0.heap.size w0 w) (a8 : Kd.S k29 29 w w0.heap.size (fun k_ => a0 k_ ∧ some k_ ≠ a6.ownBlock) a7 l0) (a9 : Kd.R Kd.string 9 w w0.heap.size a2 a6 l1) (h : laws_markVal.f k a3 a4 a5 l0 l1 a1 = some (r1, r2, r3)) :
  Calls Try.prog 11 #[.agg #[.int .i64 a3, .int .i64 a4, .string a5, a7, a6], .int .i64 a1] w fun e w' => e = .returned (.int .i64 r1) ∧ Kd.S k29 29 w' w0.heap.size a0 a7 r2 ∧ Kd.R Kd.string 9 w' w0.heap.size (fun k_ => ((a0 k_ ∨ a2 k_) ∨ w.heap.size ≤ k_)) a6 r3 ∧ Below w0.heap.size w0 w' ∧ Kept w w' (fun k_ => a0 k_ ∨ a2 k_) := by
 unfold laws_markVal.f at h
 replace h := Option.bind_eq_some_iff.mp h
 obtain ⟨⟨n1, l0'⟩, h1, h⟩ := h
 replace h := Option.bind_eq_some_iff.mp h
 obtain ⟨⟨n2, l1'⟩, h2, h⟩ := h
 simp only [Option.some.injEq, Prod.mk.injEq] at h
 obtain ⟨rfl, rfl, rfl⟩ := h
 have hu_ := Try.underlying29
 obtain ⟨A0, c0, rfl⟩ := Kd.S_slice a8
 obtain ⟨A1, c1, rfl⟩ := Kd.R_slice a9
 have H1 := zA h1
 have H2 := zA h2
 have HB := zA (below_alloc hB (.cells #[.int .i64 a3, .int .i64 a4, .string a5, .slice A0 l0.length c0, .slice A1 l1.length c1] 29))
 have hnew := blk_new w (.cells #[.int .i64 a3, .int .i64 a4, .string a5, .slice A0 l0.length c0, .slice A1 l1.length c1] 29 (0, 0))
 have b2 := zA (Kd.S_mono (ok' := fun k_ => (a0 k_ ∧ some k_ ≠ (.slice A1 l1.length c1 : Value).ownBlock) ∧ k_ < w.heap.size) (Kd.S_bound a8) (fun k_ hk => ⟨hk.1, hk.2.2.1⟩))
 have b1 := zA (Kd.R_mono (ok' := fun k_ => a2 k_ ∧ k_ < w.heap.size) (Kd.R_bound a9) (fun k_ hk => ⟨hk.1, hk.2.2.1⟩))
 have HN := zA hnew
 clear hnew a8 a9 hB h1 h2
 go_enter Try.func11, Try.ntmps11
 go_wp2_with fail
 (with_reducible refine (laws_markValS.calls k (fun k_ => (a0 k_ ∧ some k_ ≠ (.slice A1 l1.length c1 : Value).ownBlock) ∧ k_ < w.heap.size) (.slice A0 l0.length c0) l0 a1 n1 l0' w0 _ HB.out (Kd.S_alloc b2.out _) H1.out).mono ?_)
 rintro e w2 ⟨rfl, ho, hb, hkp⟩
 have b0 : w2.heap[w.heap.size]? = some (.cells #[.int .i64 a3, .int .i64 a4, .string a5, .slice A0 l0.length c0, .slice A1 l1.length c1] 29 (0, 0)) := blk_kept HN.out hkp (fun hk => Nat.lt_irrefl _ hk.2)
 have b3 : w2.cell? ⟨w.heap.size, 4, none⟩ = some (.slice A1 l1.length c1) := (blk_cell b0 4).trans rfl
 have M1 := zA (Kd.R_kept (Kd.R_tight rfl (Kd.R_alloc b1.out _)) hkp (fun k_ hk hP => hP.1.2 hk))
 have M0 := zA ho
 have MB := zA hb
 have MK := zA (Kept.mono ((Kept.alloc (Kept.refl w _) _).then_ hkp (fun k_ hk => .inl hk)) (S' := fun k_ => (a0 k_ ∨ a2 k_) ∧ k_ < w.heap.size) (fun k_ hk => ⟨.inl hk.1.1, hk.2⟩))
 have hz := hkp.1
 have hz' : w.heap.size < w2.heap.size := blk_lt b0
 clear ho hb hkp b0
 go_wp2_with fail
 (with_reducible refine (laws_markStringS.calls k (fun k_ => some k_ = (.slice A1 l1.length c1 : Value).ownBlock) (.slice A1 l1.length c1) l1 n1 n2 l1' w0 _ MB.out M1.out H2.out).mono ?_)
 rintro e w3 ⟨rfl, ho, hb, hkp⟩
 have hsub : ∀ k_, some k_ = (.slice A1 l1.length c1 : Value).ownBlock → a2 k_ ∧ k_ < w.heap.size := fun k_ hk => b1.out.1 k_ hk.symm
 have F0 := zA (Kd.S_mono (Kd.S_kept M0.out hkp (fun k_ hk hP => hk.1.2 hP)) (ok' := a0) (fun k_ hk => hk.1.1))
 have F1 := zA (Deep.R_back (Q := fun k_ => (a0 k_ ∨ a2 k_) ∨ w.heap.size ≤ k_) rfl ho (fun k_ hk => .inl (.inr (hsub k_ hk.symm).1)))
 have FK := zA (Kept.mono (MK.out.then_ hkp (fun k_ hk => .inl ⟨.inr (hsub k_ hk).1, (hsub k_ hk).2⟩)) (S' := fun k_ => a0 k_ ∨ a2 k_) (fun k_ hk => hk.1))
 have FB := zA hb
 clear ho hb hkp hsub
 go_wp2
 go_ret
 exact ⟨rfl, F0.out, F1.out, FB.out, FK.out⟩
end Go.Proofs.Ytglhniiabhknoaa.PGA

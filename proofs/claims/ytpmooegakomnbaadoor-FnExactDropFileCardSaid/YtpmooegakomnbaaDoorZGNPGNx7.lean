/- The walks of the functions that these laws reach, and what each comes to: printed by this session's program. -/
import Derived.Test.YtpmooegakomnbaaDoorZGNPGNx0
import Derived.Test.YtpmooegakomnbaaDoorZGNPGNx6
import Derived.Test.YtpmooegakomnbaaDoorZGNSays
namespace Go.Proofs.YtpmooegakomnbaaDoor.PGN
open Go.RowKit Go.Proofs.YtpmooegakomnbaaDoorW.PrintWords Go.Proofs.YtpmooegakomnbaaDoorW.PrintLast Go.Proofs.YtpmooegakomnbaaDoorW.PrintMore
attribute [local go_sem high] Go.Proofs.YtpmooegakomnbaaDoor.Mine.str_gtr Go.Proofs.YtpmooegakomnbaaDoor.Mine.str_leq Go.Proofs.YtpmooegakomnbaaDoor.Mine.str_geq
attribute [local go_sem] max2_int min2_int max_two min_two max_three min_three max_four min_four   -- for this text's walks alone
set_option linter.unusedVariables false
set_option maxHeartbeats 8000000
set_option maxRecDepth 100000
set_option linter.unusedSimpArgs false
/-! ### impl_File_52: function 52 -/
def impl_File_52.f (l0 : List (S44)) : Option ((List (S44))) := (some (([] : List (S44)) : List (S44))).bind fun y189 => (if y189.length + l0.length < 4398046511104 then (some (y189 ++ l0)) else (none))
theorem impl_File_52.calls (A0 : Option Addr) (c0 : Nat) (l0 : List (S44)) (r : List (S44)) (w : World) (hr0 : Kd.C k44 w A0 l0.length l0) (hc0 : l0.length ≤ c0) (h : impl_File_52.f l0 = some r) :
  Calls Tryd.prog 52 #[.slice A0 l0.length c0] w fun e w' => ∃ v0_ : Value, e = .returned (v0_) ∧ Kd.R k44 44 w' w.heap.size (fun _ => True) v0_ r ∧ Below w.heap.size w w' := by
 have HR0 := Aside0.mk hr0
 have HC0 := Aside0.mk hc0
 clear hr0 hc0
 have HB := Aside0.mk (Below.refl w.heap.size w)
 have H : ((some (([] : List (S44)) : List (S44))).bind fun y189 => (if y189.length + l0.length < 4398046511104 then (some (y189 ++ l0)) else (none))) = some r := h
 clear h
 obtain ⟨y189, hy189⟩ : ∃ y_ : List (S44), y_ = (([] : List (S44))) := ⟨_, rfl⟩
 replace H : (if y189.length + l0.length < 4398046511104 then (some (y189 ++ l0)) else (none)) = some r := by first | (rw [hy189]; with_reducible exact H) | (have H2_ := (Option.bind_some _ _).symm.trans H; rw [hy189]; with_reducible exact H2_) | (have H2_ := (Option.bind_some _ _).symm.trans H; with_reducible exact H2_) | with_reducible exact H | (rw [hy189]; exact H) | exact H
 have Ny189 := Aside0.mk hy189
 clear hy189
 by_cases c2 : y189.length + l0.length < 4398046511104
 ·rw [if_pos c2] at H
  have LMc2 := Aside0.mk c2
  clear c2
  obtain ⟨y192, hy192⟩ : ∃ y_ : List (S44), y_ = (y189 ++ l0) := ⟨_, rfl⟩
  replace H : (some y192) = some r := by first | (rw [hy192]; with_reducible exact H) | (have H2_ := (Option.bind_some _ _).symm.trans H; rw [hy192]; with_reducible exact H2_) | (have H2_ := (Option.bind_some _ _).symm.trans H; with_reducible exact H2_) | with_reducible exact H | (rw [hy192]; exact H) | exact H
  have Ny192 := Aside0.mk hy192
  clear hy192
  obtain rfl := Option.some.inj H
  rcases A0 with _ | A0v
  ·have he_ : l0 = [] := by
    rcases l0 with _ | ⟨x_, l_⟩
    ·rfl
    ·obtain ⟨_, h_, _⟩ := HR0.out.2.2 (by simp); cases h_
   subst he_
   have hq_ : ∀ W : World, Sem.run Tryd.prog (Go.binOp .eql 31 (.slice none 0 c0) (.slice none 0 0)) W = .ok (.bool true) W := fun W => by rw [Lib.run_eql_slice_nil W 31 44 none 0 c0 0 0 Tryd.underlying31]; rfl
   go_enter Tryd.func52, Tryd.ntmps52
   go_wp2
   go_ret
   exact ⟨_, rfl, (by rw [Ny192.out, Ny189.out]; exact Kd.R_nil _ _ _ _ _), zB⟩
  have hq_ : ∀ W : World, Sem.run Tryd.prog (Go.binOp .eql 31 (.slice (some A0v) l0.length c0) (.slice none 0 0)) W = .ok (.bool false) W := fun W => by rw [Lib.run_eql_slice_nil W 31 44 (some A0v) l0.length c0 0 0 Tryd.underlying31]; rfl
  go_enter Tryd.func52, Tryd.ntmps52
  go_wp2_with (first | ((with_reducible refine gate_dst (N := 5) rfl ?_); refine Kd.R_lit k44 _ 44 ?hg (N := 5) ?hd (xs := ([] : List (S44))) (inner := []) (ok := fun _ => True) (okp := fun _ => True) ?hr ?hp (fun _ hk => hk) trivial (Below.refl _ _) (Nat.le_refl _) (by simp) ?_; (case hd => rfl); (case hg => rfl); (case hr => first | (go_simp; done) | (go_simp; rfl)); (case hp => exact (Reps.none _ _)); intro v190 w3 ho4 hb hg_ hnew_; clear hg_ hnew_; (first | rw [← Ny189.out] at ho4 | (simp only [Int.reduceToNat] at ho4; rw [← Ny189.out] at ho4)); have n0_ := Aside0.mk (Kd.R_lower ho4 (below_size (zB))); have n1_ := Aside0.mk (below_step (zB) hb); clear HB; have HO191 := n0_; have HB := n1_; clear n0_ n1_; clear hb ho4) | ((with_reducible refine gate_builtin (b := .append) (xs := #[.tmp 5, .tmp 6]) rfl ?_); at_builtin; refine Kd.R_append_rows k44 (w0 := w) w.heap.size rfl (.tmp 5) (.tmp 6) 31 44 (.agg #[(.string ⟨#[]⟩), (.string ⟨#[]⟩)]) 32 rfl Tryd.underlying31 info44 rfl (by decide) (by omega) v190 y189 l0 _ _ _ (fun _ => True) (fun _ => False) rfl rfl ?aO ?aR (fun _ _ h => h) (fun _ h => h.elim) ?aF ?aB ?aS ?aL ?_; (case aR => repeat (first | exact (Kd.C_below HR0.out HB.out) | (with_reducible refine Kd.C_alloc ?_ _) | (with_reducible refine Kd.C_drewN ?_ _) | (with_reducible refine Kd.C_drew ?_))); (case aB => exact (zB)); (case aF => exact (fun _ _ => trivial)); (case aO => exact (by (with_reducible repeat (first | apply Kd.R_alloc | apply Kd.R_drewN | apply Kd.R_drew)); exact HO191.out)); (case aS => exact (below_size (zB))); (case aL => have := LMc2.out; omega); intro v193 w5 ho hb hg hat; rw [← Ny192.out] at ho; have n0_ := Aside0.mk (hb); have n1_ := Aside0.mk (ho); clear HB; clear HO191; have HB := n0_; have HO194 := n1_; clear n0_ n1_; clear ho hb hg hat))
  go_ret
  exact ⟨_, zE, by (with_reducible repeat (first | apply Kd.R_alloc | apply Kd.R_drewN | apply Kd.R_drew)); exact HO194.out, zB⟩
 ·rw [if_neg c2] at H
  exact absurd H (by simp)
-- NOT PRINTED: function 69 (impl_File_69)
/-! ### impl_fileAt: function 53 -/
theorem impl_fileAt_pred (gb : Nat) (path : ByteArray) (a0_0 : ByteArray) (a0_1 : ByteArray) (w : World) (hp : w.cell? ⟨gb, 0, none⟩ = some (.string path)) :
  Calls Tryd.prog 70 #[.agg #[.string a0_0, .string a0_1], .pointer (some ⟨gb, 0, none⟩)] w fun e w' => e = .returned (.bool (a0_0.toList == path.toList)) ∧ Below w.heap.size w w' := by
 have hlt : gb < w.heap.size := World.block_lt_of_cell? w _ hp
 have hne : gb ≠ w.heap.size := by omega
 go_enter Tryd.func70, Tryd.ntmps70
 go_wp2
 go_ret
 exact ⟨rfl, below_alloc (Below.refl _ _) _⟩
/-- The first place from i on at which a test holds; -1 without one. -/
def impl_fileAt_idx (p : S44 → Bool) (l : List S44) (i : Nat) : Int := match (l.drop i).findIdx? p with | some j => ((i + j : Nat) : Int) | none => -1
theorem impl_fileAt_idx_hit (p : S44 → Bool) (l : List S44) (i : Nat) (h : i < l.length) (hp : p l[i] = true) : impl_fileAt_idx p l i = (i : Int) := by
 unfold impl_fileAt_idx
 rw [List.drop_eq_getElem_cons h, List.findIdx?_cons, hp]
 simp
theorem impl_fileAt_idx_step (p : S44 → Bool) (l : List S44) (i : Nat) (h : i < l.length) (hp : p l[i] = false) : impl_fileAt_idx p l i = impl_fileAt_idx p l (i + 1) := by
 unfold impl_fileAt_idx
 rw [List.drop_eq_getElem_cons h, List.findIdx?_cons, hp]
 cases (l.drop (i + 1)).findIdx? p with
 | none => simp
 | some j => simp; omega
theorem impl_fileAt_idx_end (p : S44 → Bool) (l : List S44) (i : Nat) (h : l.length ≤ i) : impl_fileAt_idx p l i = -1 := by
 unfold impl_fileAt_idx
 rw [List.drop_eq_nil_of_le h]
 rfl
set_option maxHeartbeats 2000000 in
set_option maxRecDepth 100000 in
theorem impl_fileAt_index (p : S44 → Bool) (gb : Nat) (A0 : Option Addr) (c0 : Nat) (l0 : List S44) (w0 w : World) (hB : Below w0.heap.size w0 w) (hr0 : Kd.C k44 w0 A0 l0.length l0) (hc0 : l0.length ≤ c0)
  (hp : ∀ (W : World) (x : S44) (cs : List Value), Below w.heap.size w W → k44.K W x cs → Calls Tryd.prog 70 #[.agg cs.toArray, .pointer (some ⟨gb, 0, none⟩)] W fun e w' => e = .returned (.bool (p x)) ∧ Below w.heap.size w w') :
  Calls Tryd.prog 69 #[.slice A0 l0.length c0, .func (.func 70) #[] #[.pointer (some ⟨gb, 0, none⟩)]] w fun e w' => e = .returned (.int .i64 (impl_fileAt_idx p l0 0)) ∧ Below w.heap.size w w' := by
 have hmax : l0.length ≤ 9223372036854775807 := hr0.2.1
 have HR0 := Aside0.mk hr0
 have HP := Aside0.mk hp
 have HB := Aside0.mk hB
 clear hr0 hc0 hp hB
 go_enter Tryd.func69, Tryd.ntmps69
 go_wp2
 go_loopg [5, 8] l0.length (fun gg _ s8 wr => ∃ kk : Nat, kk ≤ l0.length ∧ l0.length - kk ≤ gg ∧ s8 = .int .i64 kk ∧ Aside0 (Below w.heap.size w wr) ∧ Aside0 (impl_fileAt_idx p l0 kk = impl_fileAt_idx p l0 0))
 case atStart => exact ⟨0, Nat.zero_le _, by omega, rfl, ⟨Below.refl _ w⟩, ⟨rfl⟩⟩
 case round =>
  obtain ⟨kk, hkk, hg, rfl, BW, A⟩ := hrel
  by_cases hlt : kk < l0.length
  ·have hltz : (kk : Int) < (l0.length : Int) := by omega
   have h0z : (0 : Int) ≤ (kk : Int) := by omega
   have BW0 : Below w0.heap.size w0 wr := below_then HB.out HB.out.size BW.out
   obtain ⟨ad, e', hx0, hx1⟩ := at_T44 HR0.out (kk : Int) h0z hltz
   cases e'
   rw [Int.toNat_natCast] at hx0
   replace hx0 := pw_cell_below BW0 hx0
   rw [Int.toNat_natCast] at hx1
   replace hx1 := pw_cell_below BW0 hx1
   have hK := k44_mk wr (rd_T44 l0 (kk : Int))
   have hcall := HP.out wr (rd_T44 l0 (kk : Int)) _ BW.out hK
   clear hK
   have hget : l0[kk] = rd_T44 l0 (kk : Int) := by
    unfold rd_T44
    rw [List.getD_eq_getElem?_getD, Int.toNat_natCast, List.getElem?_eq_getElem hlt]
    rfl
   cases hq : p (rd_T44 l0 (kk : Int)) with
   | true =>
    rw [hq] at hcall
    have hi := impl_fileAt_idx_hit p l0 kk hlt (by rw [hget]; exact hq)
    rw [A.out] at hi
    have HI := Aside0.mk hi
    have HC := Aside0.mk hcall
    clear hi hq hget hcall
    go_wp2_with (go_at_call 70; refine HC.out.mono ?_; rintro e w' ⟨rfl, hb'⟩)
    go_ret
    exact ⟨by first | rfl | (rw [HI.out]; rfl), hb'⟩
   | false =>
    rw [hq] at hcall
    have hi := impl_fileAt_idx_step p l0 kk hlt (by rw [hget]; exact hq)
    rw [A.out] at hi
    have HI := Aside0.mk hi.symm
    have HC := Aside0.mk hcall
    clear hi hq hget hcall
    go_wp2_with (go_at_call 70; refine HC.out.mono ?_; rintro e w' ⟨rfl, hb'⟩)
    go_roundg (l0.length - (kk + 1))
    case measure => omega
    case rel => exact ⟨kk + 1, by omega, by omega, by go_num, ⟨hb'⟩, HI⟩
  ·have hltz : ¬ (kk : Int) < (l0.length : Int) := by omega
   have hi := impl_fileAt_idx_end p l0 kk (by omega)
   rw [A.out] at hi
   have HI := Aside0.mk hi
   clear hi
   go_wp2
   go_ret
   exact ⟨by first | rfl | (rw [HI.out]; rfl), BW.out⟩
def impl_fileAt.f (l0 : List (S44)) (a1 : ByteArray) : Option (Int) := some (impl_fileAt_idx (fun x => x.f0.toList == a1.toList) l0 0)
set_option maxHeartbeats 2000000 in
set_option maxRecDepth 100000 in
theorem impl_fileAt.calls (A0 : Option Addr) (c0 : Nat) (l0 : List (S44)) (a1 : ByteArray) (r : Int) (w : World) (hr0 : Kd.C k44 w A0 l0.length l0) (hc0 : l0.length ≤ c0) (h : impl_fileAt.f l0 a1 = some r) :
  Calls Tryd.prog 53 #[.slice A0 l0.length c0, .string a1] w fun e w' => e = .returned (.int .i64 r) ∧ Below w.heap.size w w' := by
 obtain rfl := Option.some.inj h
 have HB := Aside0.mk (below_alloc (Below.refl w.heap.size w) (.cells #[.string a1] 9))
 have HC := Aside0.mk (impl_fileAt_index (fun x => x.f0.toList == a1.toList) w.heap.size A0 c0 l0 w (w.alloc (.cells #[.string a1] 9)) HB.out hr0 hc0 (fun W x cs hW hK => by
  obtain rfl := k44_open hK
  refine (impl_fileAt_pred w.heap.size a1 x.f0 x.f1 W ?_).mono fun e w' hpost => ⟨hpost.1, below_then hW hW.size hpost.2⟩
  exact pw_cell_below hW (by simp)))
 clear hr0 hc0 h
 go_enter Tryd.func53, Tryd.ntmps53
 go_wp2_with (go_at_call 69; refine HC.out.mono ?_; rintro e w' ⟨rfl, hb'⟩)
 go_ret
 exact ⟨rfl, below_then HB.out HB.out.size hb'⟩
-- NOT PRINTED: function 54 (impl_File_54)
/-! ### impl_DropFile: function 29 -/
theorem impl_DropFile.run_clear_two (P : Program) (w : World) (t e ty : TypeId) (z1 z2 : Value) (ht : P.underlying t = some (.slice e)) (hv : ∀ w, (zeroValue e).run P w = .ok (.agg #[z1, z2]) w) (h1 : z1.oneCell' = true) (h2 : z2.oneCell' = true) (b o c : Nat)
  (hc : ∀ j, j < 2 → (w.cell? ⟨b, o + j, none⟩).isSome = true) (hf : ∀ j, j < 2 → w.frozen? ⟨b, o + j, none⟩ = false) :
  (Builtin.clear_ #[t] ty #[.slice (some ⟨b, o, none⟩) 1 c]).run P w = .ok (.tuple #[]) (w.setCells b o [z1, z2]) := by
 have hzc : (Builtin.zeroCells (Value.cells (.agg #[z1, z2])) 1).toList = [z1, z2] := by
  have e : Value.cells (.agg #[z1, z2]) = #[z1, z2] := by first | rfl | simp [Value.cells]
  rw [e]
  simp [Builtin.zeroCells]
  apply List.ext_getElem
  ·simp
  ·intro i h1 h2
   match i, h2 with
   | 0, _ => simp
   | 1, _ => simp
 have hst := run_storeCells_cells (P := P) b o [z1, z2] 0 w (by simpa using hc) (by simpa using hf) (by intro v hv'; simp at hv'; rcases hv' with rfl | rfl <;> assumption)
 simp only [Nat.add_zero] at hst
 simp [Builtin.clear_, run_underlying ht, hv, hzc, hst]
theorem impl_DropFile.grown_clear {w w1 : World} {g : Nat} (h : w.grownBy w1 (some g)) (o : Nat) (vs : List Value) : w.grownBy (w1.setCells g o vs) (some g) := by
 obtain ⟨s1, s2, s3, s4⟩ := setCells_same g vs o w1
 exact ⟨s1.trans h.os, s2.trans h.tape, s3.trans h.output, by rw [s4]; exact h.size, fun k hk hne => (setCells_far vs o k (fun e => hne (by rw [e]))).trans (h.block k hk hne)⟩
theorem impl_DropFile.R_clear_tail {w : World} {base g m c : Nat} {ok : Nat → Prop} {xs : List S44} {cur : Array Value} (h : Kd.R k44 44 w base ok (.slice (some ⟨g, 0, none⟩) m c) xs) (hcur : w.heap[g]? = some (.cells cur 44 (0, 0))) (hcs : cur.size = c * 2) (hm : m + 1 ≤ c) :
  Kd.R k44 44 (w.setCells g (m * 2) [.string ⟨#[]⟩, .string ⟨#[]⟩]) base ok (.slice (some ⟨g, 0, none⟩) m c) xs := by
 obtain ⟨hok, inner, hown, hr⟩ := h
 obtain ⟨cur', hh', hs', ht'⟩ := setCells_row [.string ⟨#[]⟩, .string ⟨#[]⟩] (m * 2) w cur hcur (by simp; omega)
 have hr' := hr.imp_ (R' := k44.M (w.setCells g (m * 2) [.string ⟨#[]⟩, .string ⟨#[]⟩]) base (fun k => ok k ∧ some k ≠ (Value.slice (some ⟨g, 0, none⟩) m c).ownBlock)) (fun x cs hp => by
  rw [k44_openM hp]
  exact k44_mkM _ _ _ _)
 refine ⟨hok, inner, ⟨hown.1, ?_⟩, hr'⟩
 rcases hown.2 with ⟨hv, _⟩ | ⟨g', cap', cur2, hv, hb, hh, hmc, hcm, hcs2, htake⟩
 ·cases hv
 ·injection hv with ha hm' hc
  injection ha with ha
  injection ha with hg
  subst hg; subst hc; subst hm'
  rw [hh] at hcur
  injection hcur with hcur
  injection hcur with hcur
  subst hcur
  refine .inr ⟨g, c, cur', rfl, hb, hh', hmc, hcm, by rw [hs', hcs2], ?_⟩
  rw [ht', List.append_assoc, show k44.sz = 2 from rfl, List.take_append_of_le_length (by rw [List.length_take]; simp; omega), List.take_take, Nat.min_self]
  exact htake
set_option maxHeartbeats 4000000 in
set_option maxRecDepth 1000000 in
theorem impl_DropFile.delete (g n c i j : Nat) (l : List S44) (base : Nat) (ok : Nat → Prop) (w : World) (HR : Kd.R k44 44 w base ok (.slice (some ⟨g, 0, none⟩) n c) l) (hi : i < n) (hj : j = i + 1) (hb : base ≤ w.heap.size) :
  Calls Tryd.prog 54 #[.slice (some ⟨g, 0, none⟩) n c, .int .i64 (i : Int), .int .i64 (j : Int)] w fun e w' => e = .returned (.slice (some ⟨g, 0, none⟩) (n - 1) c) ∧ Kd.R k44 44 w' base ok (.slice (some ⟨g, 0, none⟩) (n - 1) c) (l.eraseIdx i) ∧ w.grownBy w' (some g) := by
 obtain ⟨i0, hi0, hz0, hz1, hz2⟩ := info_parts info44
 have hu31 := Tryd.underlying31
 obtain ⟨hn, hnc, hC⟩ := Kd.R_reads' HR
 have hcm : c ≤ maxLen := by
  obtain ⟨_, inner, hown, _⟩ := HR
  rcases hown.2 with ⟨hv, _⟩ | ⟨g', cap', cur, hv, _, _, _, hcm, _⟩
  ·cases hv
  ·injection hv with _ _ hc
   subst hc
   exact hcm
 have hcm : c ≤ 9223372036854775807 := by unfold maxLen at hcm; omega
 have mixed : Tryd.prog.follows .mixedOrders = true := by kernel_rfl
 have hjn : j ≤ n := by omega
 have hij : i ≤ j := by omega
 have hjc : j ≤ c := by omega
 have hic : i ≤ c := by omega
 have hne : (((i : Int)) == ((j : Nat) : Int)) = false := by rw [beq_eq_false_iff_ne]; omega
 have J := Aside0.mk hj
 have X := Aside0.mk (Kd.R_drew HR)
 have HBB := Aside0.mk hb
 have HN := Aside0.mk hn
 obtain ⟨m, hm⟩ : ∃ m, m = n - 1 := ⟨_, rfl⟩
 have hmn : m ≤ n := by omega
 have hmc : m ≤ c := by omega
 have hmc2 : ¬ c = m := by omega
 have h1 : n - m = 1 := by omega
 have M := Aside0.mk hm
 clear HR hC hb hj hn hm
 go_enter Tryd.func54, Tryd.ntmps54
 go_wp2_with fail
 go_region_law_o (refine Kd.R_delete_step k44 (w0 := w.drew) base rfl (.tmp 22) (.tmp 25) 31 44 rfl Tryd.underlying31 (by kernel_rfl) (g := g) (n := n) (c := c) (k := i) (m := n - j) (c2 := c - j) (A := if c = j then some ⟨g, 0, none⟩ else some ⟨g, j * 2, none⟩) (by simp [Act.eval, Act.put]) (by simp [Act.eval, Act.put]) (by rw [J.out]; simp [Addr.add_lit, show k44.sz = 2 from rfl]) (by rw [J.out]) X.out hi (Below.refl _ _) HBB.out ?_; intro w1 hR1 hB1 hG1; rw [← M.out] at hR1 ⊢)
 have HR1 := Aside0.mk hR1
 have HG1 := Aside0.mk hG1
 obtain ⟨W2, hW2⟩ : ∃ W2, W2 = w1.setCells g (m * 2) [.string ⟨#[]⟩, .string ⟨#[]⟩] := ⟨_, rfl⟩
 obtain ⟨cur, hcur, hcs⟩ : ∃ cur, w1.heap[g]? = some (.cells cur 44 (0, 0)) ∧ cur.size = c * 2 := by
  obtain ⟨_, inner, hown, _⟩ := hR1
  rcases hown.2 with ⟨hv, _⟩ | ⟨g', cap', cur, hv, _, hh, _, _, hcs, _⟩
  ·cases hv
  ·injection hv with ha _ hc
   injection ha with ha
   injection ha with hg
   subst hg; subst hc
   exact ⟨cur, hh, hcs⟩
 have hcl : ∀ ty, (Builtin.clear_ #[31] ty #[.slice (some ⟨g, m * 2, none⟩) 1 (c - m)]).run Tryd.prog w1 = .ok (.tuple #[]) W2 := fun ty => by
  rw [hW2]
  refine impl_DropFile.run_clear_two Tryd.prog w1 31 44 ty _ _ Tryd.underlying31 (fun W => by simp [zeroValue, typeInfo, hi0, hz0]) rfl rfl g (m * 2) (c - m) (fun q hq => ?_) (fun q hq => ?_)
  ·unfold World.cell?
   simp only [hcur]
   simp
   omega
  ·unfold World.frozen?
   simp only [hcur]
   simp
 have HW2 := Aside0.mk hW2
 have HCUR := Aside0.mk hcur
 have HCS := Aside0.mk hcs
 clear hR1 hB1 hG1 hW2 hcur hcs
 have HF : Aside0 (Kd.R k44 44 W2 base ok (.slice (some ⟨g, 0, none⟩) m c) (l.eraseIdx i) ∧ w.grownBy W2 (some g)) := Aside0.mk (by
  rw [HW2.out]
  exact ⟨impl_DropFile.R_clear_tail HR1.out HCUR.out HCS.out (by omega), impl_DropFile.grown_clear (w := w) ⟨HG1.out.os, HG1.out.tape, HG1.out.output, HG1.out.size, HG1.out.block⟩ _ _⟩)
 clear HW2 HCUR HCS HR1 HG1
 go_wp2
 all_goals go_ret
 all_goals (refine ⟨by first | (rw [← M.out]; done) | (rw [← M.out]; rfl), ?_, HF.out.2⟩)
 all_goals rw [← M.out]
 all_goals have HF1 := HF.out.1
 all_goals first | exact HF1 | (rw [‹c = j›] at HF1; exact HF1)
def impl_DropFile.go (k : Nat) (l0 out : List S44) (i : Int) : Option (List S44 × Bool) :=
 if i < 0 then some (out, false) else if i < (out.length : Int) then (impl_FilesOk.f k (out.eraseIdx i.toNat)).bind fun t => if t = true then some (out.eraseIdx i.toNat, true) else (impl_File_52.f l0).bind fun o2 => some (o2, false) else none
def impl_DropFile.f (k : Nat) (l0 : List S44) (a1 : ByteArray) : Option (List S44 × Bool) := (impl_File_52.f l0).bind fun out => (impl_fileAt.f l0 a1).bind fun i => impl_DropFile.go k l0 out i
set_option maxHeartbeats 4000000 in
set_option maxRecDepth 1000000 in
theorem impl_DropFile.calls (k : Nat) (A0 : Option Addr) (c0 : Nat) (l0 : List S44) (a1 : ByteArray) (r1 : List S44) (r2 : Bool) (w : World) (hr0 : Kd.C k44 w A0 l0.length l0) (hc0 : l0.length ≤ c0) (hG : GW w) (h : impl_DropFile.f k l0 a1 = some (r1, r2)) :
  Calls Tryd.prog 29 #[.slice A0 l0.length c0, .string a1] w fun e w' => ∃ v0_ : Value, e = .returned (.tuple #[v0_, .bool r2]) ∧ Kd.R k44 44 w' w.heap.size (fun _ => True) v0_ r1 ∧ Below w.heap.size w w' := by
 have HG := Aside0.mk hG
 have HR0 := Aside0.mk hr0
 have HC0 := Aside0.mk hc0
 have HB := Aside0.mk (Below.refl w.heap.size w)
 clear hG hr0 hc0
 unfold impl_DropFile.f at h
 replace h := Option.bind_eq_some_iff.mp h
 obtain ⟨out, hout, h⟩ := h
 replace h := Option.bind_eq_some_iff.mp h
 obtain ⟨i, hi, h⟩ := h
 have CL := Aside0.mk hout
 have FA := Aside0.mk hi
 clear hout hi
 unfold impl_DropFile.go at h
 by_cases h0 : i < 0
 ·rw [if_pos h0] at h
  simp only [Option.some.injEq, Prod.mk.injEq] at h
  obtain ⟨rfl, rfl⟩ := h
  have h0' : decide (i < 0) = true := decide_eq_true h0
  clear h0
  go_enter Tryd.func29, Tryd.ntmps29
  go_wp2_with (first
   | (go_at_call 52; (with_reducible refine (impl_File_52.calls A0 c0 l0 out _ ?h1 HC0.out CL.out).mono ?_); (case h1 => exact Kd.C_below HR0.out HB.out); rintro e w2 ⟨v2, rfl, ho, hb⟩; have n0_ := Aside0.mk (below_step HB.out hb); have HO := Aside0.mk (Kd.R_lower ho (below_size HB.out)); clear HB; have HB := n0_; clear n0_ hb ho; obtain ⟨Ao, co, eo⟩ := Kd.R_slice HO.out; subst eo)
   | (go_at_call 53; (with_reducible refine (impl_fileAt.calls A0 c0 l0 a1 i _ ?h1 HC0.out FA.out).mono ?_); (case h1 => exact Kd.C_below HR0.out HB.out); rintro e w3 ⟨rfl, hb⟩; have n0_ := Aside0.mk (below_step HB.out hb); have n1_ := Aside0.mk (Kd.R_below HO.out hb); clear HB HO; have HB := n0_; have HO := n1_; clear n0_ n1_ hb))
  go_ret2
  exact ⟨_, rfl, by (with_reducible repeat (first | apply Kd.R_alloc | apply Kd.R_drewN | apply Kd.R_drew)); exact HO.out, zB⟩
 ·rw [if_neg h0] at h
  by_cases h1 : i < (out.length : Int)
  ·rw [if_pos h1] at h
   replace h := Option.bind_eq_some_iff.mp h
   obtain ⟨t, ht, h⟩ := h
   have FO := Aside0.mk ht
   clear ht
   obtain ⟨q, rfl⟩ : ∃ q : Nat, i = q := ⟨i.toNat, by omega⟩
   rw [Int.toNat_natCast] at FO h
   have hq : q < out.length := by omega
   have h0' : decide ((q : Int) < 0) = false := decide_eq_false h0
   have hlen : out.length < 8796093022208 := by
    have hc := CL.out
    unfold impl_File_52.f at hc
    simp only [Option.bind_some, List.length_nil, List.nil_append, Nat.zero_add] at hc
    split at hc
    ·obtain rfl := Option.some.inj hc
     omega
    ·cases hc
   have h2' : wrap64 ((q : Int) + 1) = ((q + 1 : Nat) : Int) := by
    unfold wrap64
    omega
   have HQ := Aside0.mk hq
   have REST := Aside0.mk h
   clear h0 h1 hq h
   go_enter Tryd.func29, Tryd.ntmps29
   go_wp2_with (first
    | (go_at_call 52; (with_reducible refine (impl_File_52.calls A0 c0 l0 out _ ?h1 HC0.out CL.out).mono ?_); (case h1 => exact Kd.C_below HR0.out HB.out); rintro e w2 ⟨v2, rfl, ho, hb⟩; have n0_ := Aside0.mk (below_step HB.out hb); have HO := Aside0.mk (Kd.R_lower ho (below_size HB.out)); clear HB; have HB := n0_; clear n0_ hb ho; obtain ⟨Ao, co, eo⟩ := Kd.R_slice HO.out; subst eo)
    | (go_at_call 53; (with_reducible refine (impl_fileAt.calls A0 c0 l0 a1 q _ ?h1 HC0.out FA.out).mono ?_); (case h1 => exact Kd.C_below HR0.out HB.out); rintro e w3 ⟨rfl, hb⟩; have n0_ := Aside0.mk (below_step HB.out hb); have n1_ := Aside0.mk (Kd.R_below HO.out hb); clear HB HO; have HB := n0_; have HO := n1_; clear n0_ n1_ hb))
   obtain ⟨g, cap, ev, _⟩ := Kd.R_form HO.out (by have := HQ.out; omega)
   injection ev with ea _ ec
   subst ea; subst ec
   have ej : ((q : Int) + 1) = ((q + 1 : Nat) : Int) := by omega
   rw [ej]
   refine (impl_DropFile.delete g out.length co q (q + 1) out w.heap.size (fun _ => True) _ HO.out HQ.out rfl (below_size HB.out)).mono ?_
   rintro e w4 ⟨rfl, ho, hg⟩
   have n0_ := Aside0.mk (HB.out.grown hg (below_size HB.out) (fun k hk => by injection hk with hk; subst hk; exact Kd.R_base HO.out _ (by simp [Value.ownBlock])))
   have hE := (Kd.R_reads' ho).1
   rw [hE] at ho ⊢
   clear HB HO hg ej hE
   have HB := n0_
   have HO := Aside0.mk ho
   clear n0_ ho
   have H := REST.out
   clear REST
   by_cases ht : t = true
   ·subst ht
    rw [if_pos rfl] at H
    simp only [Option.some.injEq, Prod.mk.injEq] at H
    obtain ⟨rfl, rfl⟩ := H
    go_wp2_with (fail)
    refine (impl_FilesOk.calls k _ _ (out.eraseIdx q) true _ ?h1 ?h2 ?h3 FO.out).mono ?_
    case h1 => exact (Kd.R_reads' HO.out).2.2
    case h2 => exact (Kd.R_reads' HO.out).2.1
    case h3 => exact GW.below HG.out HB.out
    rintro e w5 ⟨rfl, hb⟩
    have n0_ := Aside0.mk (below_step HB.out hb)
    have n1_ := Aside0.mk (Kd.R_below HO.out hb)
    clear HB HO
    have HB := n0_
    have HO := n1_
    clear n0_ n1_ hb
    go_wp2
    go_ret2
    exact ⟨_, rfl, by (with_reducible repeat (first | apply Kd.R_alloc | apply Kd.R_drewN | apply Kd.R_drew)); exact HO.out, zB⟩
   ·obtain rfl : t = false := by cases t <;> simp_all
    rw [if_neg (by simp)] at H
    replace H := Option.bind_eq_some_iff.mp H
    obtain ⟨o2, ho2, H⟩ := H
    simp only [Option.some.injEq, Prod.mk.injEq] at H
    obtain ⟨rfl, rfl⟩ := H
    have C2 := Aside0.mk ho2
    clear ho2 ht
    go_wp2_with (first
     | (go_at_call 24; (with_reducible refine (impl_FilesOk.calls k _ _ (out.eraseIdx q) false _ ?h1 ?h2 ?h3 FO.out).mono ?_); (case h1 => exact (Kd.R_reads' HO.out).2.2); (case h2 => exact (Kd.R_reads' HO.out).2.1); (case h3 => exact GW.below HG.out HB.out); rintro e w5 ⟨rfl, hb⟩; have n0_ := Aside0.mk (below_step HB.out hb); clear HB HO; have HB := n0_; clear n0_ hb)
     | (go_at_call 52; (with_reducible refine (impl_File_52.calls A0 c0 l0 o2 _ ?h1 HC0.out C2.out).mono ?_); (case h1 => exact Kd.C_below HR0.out HB.out); rintro e w6 ⟨v2, rfl, ho, hb⟩; have n0_ := Aside0.mk (below_step HB.out hb); have HO := Aside0.mk (Kd.R_lower ho (below_size HB.out)); clear HB; have HB := n0_; clear n0_ hb ho))
    go_ret2
    exact ⟨_, rfl, by (with_reducible repeat (first | apply Kd.R_alloc | apply Kd.R_drewN | apply Kd.R_drew)); exact HO.out, zB⟩
  ·rw [if_neg h1] at h
   cases h
/-! ### laws_markText: function 43 -/
mutual
def laws_markText.j0 : Nat → Int → Option (ByteArray)
 | 0, _ => none
 | k + 1, x0 => laws_markText.l0 k x0 (⟨#[]⟩ : ByteArray)
def laws_markText.l0 : Nat → Int → ByteArray → Option (ByteArray)
 | 0, _, _ => none
 | k + 1, x0, x3 => if x0 > 0 then ((some (([(wrap64 (48 + (Int.tmod x0 10))) % 256] : List Int) : List Int)).bind fun y195 => (if (strOfNums y195).size + x3.size ≤ 9223372036854775807 then (laws_markText.l0 k (wrap64 (Int.tdiv x0 10)) ((strOfNums y195) ++ x3)) else (none))) else (if 1 + x3.size ≤ 9223372036854775807 then (some ((⟨#[109]⟩ : ByteArray) ++ x3)) else (none))
end
def laws_markText.f (k : Nat) (a0 : Int) : Option (ByteArray) := if a0 ≤ 0 then (some (⟨#[109, 48]⟩ : ByteArray)) else (laws_markText.j0 k a0)
theorem laws_markText.calls (k : Nat) (a0 : Int) (r : ByteArray) (w : World) (h : laws_markText.f k a0 = some r) :
  Calls Tryd.prog 43 #[.int .i64 a0] w fun e w' => e = .returned (.string r) ∧ Below w.heap.size w w' := by
 have HB := Aside0.mk (Below.refl w.heap.size w)
 have H : (if a0 ≤ 0 then (some (⟨#[109, 48]⟩ : ByteArray)) else (laws_markText.j0 k a0)) = some r := h
 clear h
 have HC2 := Aside0.mk H
 clear H
 go_enter Tryd.func43, Tryd.ntmps43
 go_upto_if 5 with (fail)
 go_cut [] (fun wc => ∃ (kq : Nat), Aside0 (laws_markText.j0 kq a0 = some r) ∧ Aside0 (kq ≤ k) ∧ Aside0 (Below w.heap.size w wc))
 case first =>
  have H := HC2.out
  clear HC2
  by_cases c3 : a0 ≤ 0
  ·rw [if_pos c3] at H
   have c3b0 : decide (a0 ≤ 0) = true := decide_eq_true c3
   clear c3
   (first | rw [c3b0] | (simp only [i64_w, i32_w]; rw [c3b0]) | skip)
   obtain rfl := Option.some.inj H
   go_wp2
   go_ret
   exact ⟨zE, zB⟩
  ·rw [if_neg c3] at H
   have c3b0 : decide (a0 ≤ 0) = false := decide_eq_false c3
   clear c3
   (first | rw [c3b0] | (simp only [i64_w, i32_w]; rw [c3b0]) | skip)
   have H' := Aside0.mk H
   clear H
   go_wp2
   go_meet
   case rel => exact ⟨_, (by first | exact H' | (subst_vars; exact H')), ⟨by first | omega | exact Nat.le_refl _⟩, ⟨zB⟩⟩
 case rest =>
  clear HC2
  try clear p2
  try clear c3
  try clear c3b0
  obtain ⟨kq, HA, HJ1, HB⟩ := hcut
  cases kq with
  | zero => exact absurd HA.out (by simp [laws_markText.j0])
  | succ kj1 =>
   have H := HA.out
   clear HA
   simp only [laws_markText.j0] at H
   have H' := Aside0.mk H
   clear H
   go_wp2
   go_loopg [0, 3] kj1 (fun kq v0 v3 w' => ∃ (x0_2 : Int) (x3_2 : ByteArray), v0 = .int .i64 x0_2 ∧ v3 = .string x3_2 ∧ Aside0 (laws_markText.l0 kq x0_2 x3_2 = some r) ∧ Aside0 (kq ≤ kj1) ∧ Aside0 (Below w.heap.size w w'))
   case atStart => exact ⟨(a0), ((⟨#[]⟩ : ByteArray)), zS, zS, H', ⟨Nat.le_refl _⟩, ⟨zB⟩⟩
   case round =>
    clear H'
    try clear p2
    try clear c3
    try clear c3b0
    try clear p2
    obtain ⟨x0_2, x3_2, rfl, rfl, HA, HK2, HB⟩ := hrel
    cases gk with
    | zero => exact absurd HA.out (by simp [laws_markText.l0])
    | succ k2 =>
     have H := HA.out
     clear HA
     simp only [laws_markText.l0] at H
     by_cases c4 : x0_2 > 0
     ·rw [if_pos c4] at H
      have c4b0 : decide (0 < x0_2) = true := decide_eq_true c4
      clear c4
      obtain ⟨y195, hy195⟩ : ∃ y_ : List Int, y_ = (([(wrap64 (48 + (Int.tmod x0_2 10))) % 256] : List Int)) := ⟨_, rfl⟩
      replace H : (if (strOfNums y195).size + x3_2.size ≤ 9223372036854775807 then (laws_markText.l0 k2 (wrap64 (Int.tdiv x0_2 10)) ((strOfNums y195) ++ x3_2)) else (none)) = some r := by first | (rw [hy195]; with_reducible exact H) | (have H2_ := (Option.bind_some _ _).symm.trans H; rw [hy195]; with_reducible exact H2_) | (have H2_ := (Option.bind_some _ _).symm.trans H; with_reducible exact H2_) | with_reducible exact H | (rw [hy195]; exact H) | exact H
      have Ny195 := Aside0.mk hy195
      clear hy195
      by_cases c5 : (strOfNums y195).size + x3_2.size ≤ 9223372036854775807
      ·rw [if_pos c5] at H
       have c5b0 := eq_true c5
       have c5b1 : decide ((strOfNums y195).size + x3_2.size ≤ 9223372036854775807) = true := decide_eq_true c5
       try have c5b2 : (9223372036854775807 < (strOfNums y195).size + x3_2.size) = False := eq_false (Nat.not_lt.2 c5)
       have H' := Aside0.mk H
       clear H
       go_wp2_with (first | ((with_reducible refine gate_dst (N := 12) rfl ?_); refine Kd.R_lit (Kd.int .u8) _ 5 ?hg (N := 12) ?hd (xs := ([(wrap64 (48 + (Int.tmod x0_2 10))) % 256] : List Int)) (inner := [.int .u8 ((wrap64 (48 + (Int.tmod x0_2 10))) % 256)]) (ok := fun _ => True) (okp := fun _ => True) ?hr ?hp (fun _ hk => hk) trivial (Below.refl _ _) (Nat.le_refl _) (by simp) ?_; (case hd => rfl); (case hg => rfl); (case hr => first | (go_simp; done) | (go_simp; rfl)); (case hp => exact (Reps.one (show Kd.M (Kd.int .u8) _ _ _ ((wrap64 (48 + (Int.tmod x0_2 10))) % 256) [.int .u8 ((wrap64 (48 + (Int.tmod x0_2 10))) % 256)] from rfl) (Reps.none _ _))); intro v196 w6 ho7 hb hg_ hnew_; clear hg_ hnew_; (first | rw [← Ny195.out] at ho7 | (simp only [Int.reduceToNat] at ho7; rw [← Ny195.out] at ho7)); have n0_ := Aside0.mk (Kd.R_lower ho7 (below_size (zB))); have n1_ := Aside0.mk (below_step (zB) hb); clear HB; have HO197 := n0_; have HB := n1_; clear n0_ n1_; clear hb ho7; have hcv8 := own_string (P := Tryd.prog) Tryd.underlying53 Tryd.underlying5 Tryd.underlying9 (Kd.own_of_R HO197.out)))
       go_roundg k2
       case measure => have := HJ1.out; have := HK2.out; omega
       case rel => exact ⟨(wrap64 (Int.tdiv x0_2 10)), ((strOfNums y195) ++ x3_2), zS, zS, H', ⟨by have := HJ1.out; have := HK2.out; omega⟩, ⟨zB⟩⟩
      ·rw [if_neg c5] at H
       exact absurd H (by simp)
     ·rw [if_neg c4] at H
      have c4b0 : decide (0 < x0_2) = false := decide_eq_false c4
      clear c4
      by_cases c9 : 1 + x3_2.size ≤ 9223372036854775807
      ·rw [if_pos c9] at H
       have c9b0 := eq_true c9
       have c9b1 : decide (1 + x3_2.size ≤ 9223372036854775807) = true := decide_eq_true c9
       try have c9b2 : (9223372036854775807 < 1 + x3_2.size) = False := eq_false (Nat.not_lt.2 c9)
       obtain rfl := Option.some.inj H
       go_wp2
       go_ret
       exact ⟨zE, zB⟩
      ·rw [if_neg c9] at H
       exact absurd H (by simp)
/-! ### laws_markFileS: function 30 -/
def laws_markFileS.l0 : Nat → List (S44) → Int → Int → Option (Int × (List (S44)))
 | 0, _, _, _ => none
 | k + 1, x0, x1, x5 => if x5 < (x0.length : Int) then ((laws_markText.f k x1).bind fun t198 => (if 0 ≤ x5 then ((some (x0.set (x5 : Int).toNat (⟨t198, (rd_T44 x0 x5).f1⟩ : S44) : List (S44))).bind fun y199 => ((laws_markText.f k (wrap64 (x1 + 1))).bind fun t200 => (laws_markFileS.l0 k (y199.set (x5 : Int).toNat (⟨(rd_T44 y199 x5).f0, t200⟩ : S44)) (wrap64 ((wrap64 (x1 + 1)) + 1)) (wrap64 (x5 + 1))))) else (none))) else (some (x1, x0))
def laws_markFileS.f (k : Nat) (l0 : List (S44)) (a1 : Int) : Option (Int × (List (S44))) := laws_markFileS.l0 k l0 a1 0
theorem laws_markFileS.calls (k : Nat) (P0_ : Nat → Prop) (u9000_ : Value) (l0 : List (S44)) (a1 : Int) (r1 : Int) (r2 : List (S44)) (w0 w : World) (hB : Below w0.heap.size w0 w) (ho0 : Kd.R k44 44 w w0.heap.size P0_ u9000_ l0) (h : laws_markFileS.f k l0 a1 = some (r1, r2)) :
  Calls Tryd.prog 30 #[u9000_, .int .i64 a1] w fun e w' => e = .returned (.int .i64 r1) ∧ Kd.R k44 44 w' w0.heap.size (fun k_ => (P0_ k_ ∨ w.heap.size ≤ k_)) u9000_ r2 ∧ Below w0.heap.size w0 w' ∧ Kept w w' (fun k_ => P0_ k_) := by
 have HO0 := Aside0.mk (show Kd.R k44 44 w w0.heap.size (fun k_ => (P0_ k_ ∨ w.heap.size ≤ k_)) u9000_ l0 from Kd.R_mono ho0 (fun k_ hk => (.inl hk)))
 have HK := Aside0.mk (Kept.refl w (fun k_ => P0_ k_))
 have HW0 := Aside0.mk hB.size
 have HB := Aside0.mk hB
 clear hB
 have H : (laws_markFileS.l0 k l0 a1 0) = some (r1, r2) := h
 clear h
 have H' := Aside0.mk H
 clear H
 go_enter Tryd.func30, Tryd.ntmps30
 go_wp2
 go_loopg [1, 5] k (fun kq v1 v5 w' => ∃ (x0_1 : List (S44)) (x1_1 : Int) (x5_1 : Int), v1 = .int .i64 x1_1 ∧ v5 = .int .i64 x5_1 ∧ Aside0 (laws_markFileS.l0 kq x0_1 x1_1 x5_1 = some (r1, r2)) ∧ Aside0 (kq ≤ k) ∧ Aside0 (Kd.R k44 44 w' w0.heap.size (fun k_ => (P0_ k_ ∨ w.heap.size ≤ k_)) u9000_ x0_1) ∧ Aside0 (Kept w w' (fun k_ => P0_ k_)) ∧ Aside0 (Below w0.heap.size w0 w'))
 case atStart => exact ⟨(l0), (a1), (0), zS, zS, H', ⟨Nat.le_refl _⟩, ⟨by (with_reducible repeat (first | apply Kd.R_alloc | apply Kd.R_drewN | apply Kd.R_drew)); exact HO0.out⟩, ⟨by repeat (first | (with_reducible first | exact HK.out | apply Kept.alloc | apply Kept.drewN | apply Kept.drew) | exact HK.out)⟩, ⟨zB⟩⟩
 case round =>
  clear H'
  try clear p2
  obtain ⟨x0_1, x1_1, x5_1, rfl, rfl, HA, HK1, HO_0, HK, HB⟩ := hrel
  cases gk with
  | zero => exact absurd HA.out (by simp [laws_markFileS.l0])
  | succ k1 =>
   have H := HA.out
   clear HA
   simp only [laws_markFileS.l0] at H
   by_cases c3 : x5_1 < (x0_1.length : Int)
   ·rw [if_pos c3] at H
    have c3b0 : decide (x5_1 < (x0_1.length : Int)) = true := decide_eq_true c3
    clear c3
    replace H := Option.bind_eq_some_iff.mp H
    obtain ⟨t198, A40, H⟩ := H
    replace H : (if 0 ≤ x5_1 then ((some (x0_1.set (x5_1 : Int).toNat (⟨t198, (rd_T44 x0_1 x5_1).f1⟩ : S44) : List (S44))).bind fun y199 => ((laws_markText.f k1 (wrap64 (x1_1 + 1))).bind fun t200 => (laws_markFileS.l0 k1 (y199.set (x5_1 : Int).toNat (⟨(rd_T44 y199 x5_1).f0, t200⟩ : S44)) (wrap64 ((wrap64 (x1_1 + 1)) + 1)) (wrap64 (x5_1 + 1))))) else (none)) = some (r1, r2) := H
    have A4 := Aside0.mk A40
    clear A40
    by_cases c5 : 0 ≤ x5_1
    ·rw [if_pos c5] at H
     have c5b0 : decide (0 ≤ x5_1) = true := decide_eq_true c5
     clear c5
     obtain ⟨y199, hy199⟩ : ∃ y_ : List (S44), y_ = (x0_1.set (x5_1 : Int).toNat (⟨t198, (rd_T44 x0_1 x5_1).f1⟩ : S44)) := ⟨_, rfl⟩
     replace H : ((laws_markText.f k1 (wrap64 (x1_1 + 1))).bind fun t200 => (laws_markFileS.l0 k1 (y199.set (x5_1 : Int).toNat (⟨(rd_T44 y199 x5_1).f0, t200⟩ : S44)) (wrap64 ((wrap64 (x1_1 + 1)) + 1)) (wrap64 (x5_1 + 1)))) = some (r1, r2) := by first | (rw [hy199]; with_reducible exact H) | (have H2_ := (Option.bind_some _ _).symm.trans H; rw [hy199]; with_reducible exact H2_) | (have H2_ := (Option.bind_some _ _).symm.trans H; with_reducible exact H2_) | with_reducible exact H | (rw [hy199]; exact H) | exact H
     have Ny199 := Aside0.mk hy199
     clear hy199
     replace H := Option.bind_eq_some_iff.mp H
     obtain ⟨t200, A70, H⟩ := H
     replace H : (laws_markFileS.l0 k1 (y199.set (x5_1 : Int).toNat (⟨(rd_T44 y199 x5_1).f0, t200⟩ : S44)) (wrap64 ((wrap64 (x1_1 + 1)) + 1)) (wrap64 (x5_1 + 1))) = some (r1, r2) := H
     have A7 := Aside0.mk A70
     clear A70
     obtain ⟨y201, hy201⟩ : ∃ y_ : List (S44), y_ = (y199.set (x5_1 : Int).toNat (⟨(rd_T44 y199 x5_1).f0, t200⟩ : S44)) := ⟨_, rfl⟩
     replace H : (laws_markFileS.l0 k1 y201 (wrap64 ((wrap64 (x1_1 + 1)) + 1)) (wrap64 (x5_1 + 1))) = some (r1, r2) := by first | (rw [hy201]; with_reducible exact H) | (have H2_ := (Option.bind_some _ _).symm.trans H; rw [hy201]; with_reducible exact H2_) | (have H2_ := (Option.bind_some _ _).symm.trans H; with_reducible exact H2_) | with_reducible exact H | (rw [hy201]; exact H) | exact H
     have Ny201 := Aside0.mk hy201
     clear hy201
     have H' := Aside0.mk H
     clear H
     obtain ⟨Ao9, co9, eo9⟩ := Kd.R_slice HO_0.out
     subst eo9
     go_wp2_with (first | ((with_reducible refine gate_callee (f := 43) rfl ?_); refine goesL_ (some 15) rfl rfl Tryd.func43 (by kernel_rfl) rfl #[.int .i64 x1_1] rfl zM ?_; (with_reducible refine (laws_markText.calls k1 x1_1 t198 _ A4.out).mono ?_); rintro e w10 ⟨rfl, hb⟩; refine ⟨_, rfl, ?_⟩; have n0_ := Aside0.mk (Kd.R_below (by (with_reducible repeat (first | apply Kd.R_alloc | apply Kd.R_drewN | apply Kd.R_drew)); exact HO_0.out) hb); have n1_ := Aside0.mk (Kept.below (S := (fun k_ => P0_ k_)) (by repeat (first | (with_reducible first | exact HK.out | apply Kept.alloc | apply Kept.drewN | apply Kept.drew) | exact HK.out)) hb); have n2_ := Aside0.mk (below_step (zB) hb); clear HO_0; clear HK; clear HB; have HO_0 := n0_; have HK := n1_; have HB := n2_; clear n0_ n1_ n2_; (try clear hb); (try clear hb2); (try clear hk); (try clear hi); have p6 : 0 ≤ (x5_1 : Int) := zD; have q6 : (x5_1 : Int) < ((x0_1.length : Int) : Int) := zD; obtain ⟨go6, co6, eo6, gb6, gl6, cl6, HG6⟩ := Kd.R_form HO_0.out (by omega); (first | cases eo6 | (injection eo6 with ea_ en_ ec_; (first | subst ea_ | (injection ea_ with ea_; subst ea_)); subst ec_; clear en_)); have GB6 := Aside0.mk gb6; have GG6 := Aside0.mk HG6; clear gb6 gl6 HG6; have HMgo6 := Aside0.mk (show (P0_ go6 ∨ w.heap.size ≤ go6) from (HO_0.out.1 _ rfl)); obtain ⟨ce6, hcl6, hM6, hcc6, hfr6⟩ := Kd.R_elem HO_0.out z44 (x5_1 : Int) p6 q6; obtain rfl := k44_openM hM6; have hx6_0 : w10.cell? ⟨go6, (x5_1 : Int).toNat * 2, none⟩ = some (.string ((rd_T44 x0_1 x5_1).f0)) := hcc6 0 _ rfl; have hx6_1 : w10.cell? ⟨go6, (x5_1 : Int).toNat * 2 + 1, none⟩ = some (.string ((rd_T44 x0_1 x5_1).f1)) := hcc6 1 _ rfl; have hf6_0 : w10.frozen? ⟨go6, (x5_1 : Int).toNat * 2, none⟩ = false := hfr6 0; have hf6_1 : w10.frozen? ⟨go6, (x5_1 : Int).toNat * 2 + 1, none⟩ = false := hfr6 1; clear hcl6 hcc6 hfr6; (try clear hM6); replace p6 := eq_true p6; replace q6 := eq_true q6; have HX11 := Aside0.mk (show Kd.R k44 44 w10 w0.heap.size (fun k_ => (P0_ k_ ∨ w.heap.size ≤ k_)) (.slice (some ⟨go6, 0, none⟩) x0_1.length co9) x0_1 from (by (with_reducible repeat (first | apply Kd.R_alloc | apply Kd.R_drewN | apply Kd.R_drew)); exact HO_0.out)); obtain ⟨ce11, hcl11, hM11, hcc11, hfr11⟩ := Kd.R_elem HX11.out z44 (x5_1 : Int) (zD) (by have h_ : (x5_1 : Int) < ((x0_1.length : Int) : Int) := zD; first | exact h_ | (have e_ := (Kd.R_reads' HO_0.out).1; omega) | simpa using h_); obtain rfl := k44_openM hM11; have HP11 := Kd.R_seg HX11.out (x5_1 : Int) (zD) (by have h_ : (x5_1 : Int) < ((x0_1.length : Int) : Int) := zD; first | exact h_ | (have e_ := (Kd.R_reads' HO_0.out).1; omega) | simpa using h_) (seg := [.string t198]) (j := 0) hcl11 hcc11 (show 1 ≤ 2 from by decide) (x' := (⟨t198, (rd_T44 x0_1 x5_1).f1⟩ : S44)) (k44_mkM _ _ _ (⟨t198, (rd_T44 x0_1 x5_1).f1⟩ : S44) ) (fun _ hk => hk); have hx11_0 := hcc11 0 _ rfl; (try simp only [show (k44).sz = 2 from rfl, Nat.mul_one, Nat.add_zero] at hx11_0); have hf11_0 := hfr11 0; (try simp only [show (k44).sz = 2 from rfl, Nat.mul_one, Nat.add_zero] at hf11_0); clear hcl11 hcc11 hfr11; (try clear hM11)) | ((with_reducible refine gate_store (t := 9) (p := 17) rfl ?_); refine store_event (t := 9) (p := 17) (v := ?vo_w12) (w1 := (w10.setCell ⟨go6, (x5_1 : Int).toNat * 2, none⟩ (.string t198))) ?hg ?ho ?hn ?hr ?_; (case ho => rfl); (case hg => rfl); (case hn => rfl); (case hr => first | (go_simp; done) | (go_simp; rfl)); intro w12 hw; have hg : w10.grownBy w12 (some go6) := (by rw [hw]; exact HP11.2); have hp_ : Kd.R k44 44 w12 w0.heap.size (fun k_ => (P0_ k_ ∨ w.heap.size ≤ k_)) (.slice (some ⟨go6, 0, none⟩) x0_1.length co9) y199 := (by rw [hw, Ny199.out]; exact HP11.1); clear HP11; have n0_ := Aside0.mk (hp_); have n1_ := Aside0.mk ((by rw [hw]; exact below_set (HB.out) GB6.out : Below w0.heap.size w0 w12)); have n2_ := Aside0.mk (Kept.of_grown (S := (fun k_ => P0_ k_)) hg (by repeat (first | (with_reducible first | exact HK.out | apply Kept.alloc | apply Kept.drewN | apply Kept.drew) | exact HK.out)) (fun k_ e_ => (HO_0.out.1 k_ e_))); clear HO_0; clear HB; clear HK; have HO_0 := n0_; have HB := n1_; have HK := n2_; clear n0_ n1_ n2_; clear hg hw hp_) | ((with_reducible refine gate_callee (f := 43) rfl ?_); refine goesL_ (some 23) rfl rfl Tryd.func43 (by kernel_rfl) rfl #[.int .i64 (wrap64 (x1_1 + 1))] rfl zM ?_; (with_reducible refine (laws_markText.calls k1 (wrap64 (x1_1 + 1)) t200 _ A7.out).mono ?_); rintro e w13 ⟨rfl, hb⟩; refine ⟨_, rfl, ?_⟩; have n0_ := Aside0.mk (Kd.R_below (by (with_reducible repeat (first | apply Kd.R_alloc | apply Kd.R_drewN | apply Kd.R_drew)); exact HO_0.out) hb); have n1_ := Aside0.mk (Kept.below (S := (fun k_ => P0_ k_)) (by repeat (first | (with_reducible first | exact HK.out | apply Kept.alloc | apply Kept.drewN | apply Kept.drew) | exact HK.out)) hb); have n2_ := Aside0.mk (below_step (zB) hb); clear HO_0; clear HK; clear HB; have HO_0 := n0_; have HK := n1_; have HB := n2_; clear n0_ n1_ n2_; (try clear hb); (try clear hb2); (try clear hk); (try clear hi); have p8 : 0 ≤ (x5_1 : Int) := zD; have q8 : (x5_1 : Int) < ((x0_1.length : Int) : Int) := zD; obtain ⟨ce8, hcl8, hM8, hcc8, hfr8⟩ := Kd.R_elem HO_0.out z44 (x5_1 : Int) p8 q8; obtain rfl := k44_openM hM8; have hx8_0 : w13.cell? ⟨go6, (x5_1 : Int).toNat * 2, none⟩ = some (.string ((rd_T44 y199 x5_1).f0)) := hcc8 0 _ rfl; have hx8_1 : w13.cell? ⟨go6, (x5_1 : Int).toNat * 2 + 1, none⟩ = some (.string ((rd_T44 y199 x5_1).f1)) := hcc8 1 _ rfl; have hf8_0 : w13.frozen? ⟨go6, (x5_1 : Int).toNat * 2, none⟩ = false := hfr8 0; have hf8_1 : w13.frozen? ⟨go6, (x5_1 : Int).toNat * 2 + 1, none⟩ = false := hfr8 1; clear hcl8 hcc8 hfr8; (try clear hM8); replace p8 := eq_true p8; replace q8 := eq_true q8; have HX14 := Aside0.mk (show Kd.R k44 44 w13 w0.heap.size (fun k_ => (P0_ k_ ∨ w.heap.size ≤ k_)) (.slice (some ⟨go6, 0, none⟩) x0_1.length co9) y199 from (by (with_reducible repeat (first | apply Kd.R_alloc | apply Kd.R_drewN | apply Kd.R_drew)); exact HO_0.out)); obtain ⟨ce14, hcl14, hM14, hcc14, hfr14⟩ := Kd.R_elem HX14.out z44 (x5_1 : Int) (zD) (by have h_ : (x5_1 : Int) < ((x0_1.length : Int) : Int) := zD; first | exact h_ | (have e_ := (Kd.R_reads' HO_0.out).1; omega) | simpa using h_); obtain rfl := k44_openM hM14; have HP14 := Kd.R_seg HX14.out (x5_1 : Int) (zD) (by have h_ : (x5_1 : Int) < ((x0_1.length : Int) : Int) := zD; first | exact h_ | (have e_ := (Kd.R_reads' HO_0.out).1; omega) | simpa using h_) (seg := [.string t200]) (j := 1) hcl14 hcc14 (show 2 ≤ 2 from by decide) (x' := (⟨(rd_T44 y199 x5_1).f0, t200⟩ : S44)) (k44_mkM _ _ _ (⟨(rd_T44 y199 x5_1).f0, t200⟩ : S44) ) (fun _ hk => hk); have hx14_1 := hcc14 1 _ rfl; (try simp only [show (k44).sz = 2 from rfl, Nat.mul_one, Nat.add_zero] at hx14_1); have hf14_1 := hfr14 1; (try simp only [show (k44).sz = 2 from rfl, Nat.mul_one, Nat.add_zero] at hf14_1); clear hcl14 hcc14 hfr14; (try clear hM14)) | ((with_reducible refine gate_store (t := 9) (p := 25) rfl ?_); refine store_event (t := 9) (p := 25) (v := ?vo_w15) (w1 := (w13.setCell ⟨go6, (x5_1 : Int).toNat * 2 + 1, none⟩ (.string t200))) ?hg ?ho ?hn ?hr ?_; (case ho => rfl); (case hg => rfl); (case hn => rfl); (case hr => first | (go_simp; done) | (go_simp; rfl)); intro w15 hw; have hg : w13.grownBy w15 (some go6) := (by rw [hw]; exact HP14.2); have hp_ : Kd.R k44 44 w15 w0.heap.size (fun k_ => (P0_ k_ ∨ w.heap.size ≤ k_)) (.slice (some ⟨go6, 0, none⟩) x0_1.length co9) y201 := (by rw [hw, Ny201.out]; exact HP14.1); clear HP14; have n0_ := Aside0.mk (hp_); have n1_ := Aside0.mk ((by rw [hw]; exact below_set (HB.out) GB6.out : Below w0.heap.size w0 w15)); have n2_ := Aside0.mk (Kept.of_grown (S := (fun k_ => P0_ k_)) hg (by repeat (first | (with_reducible first | exact HK.out | apply Kept.alloc | apply Kept.drewN | apply Kept.drew) | exact HK.out)) (fun k_ e_ => (HO_0.out.1 k_ e_))); clear HO_0; clear HB; clear HK; have HO_0 := n0_; have HB := n1_; have HK := n2_; clear n0_ n1_ n2_; clear hg hw hp_))
     go_roundg k1
     case measure => have := HK1.out; omega
     case rel => exact ⟨(y201), (wrap64 ((wrap64 (x1_1 + 1)) + 1)), (wrap64 (x5_1 + 1)), zS, zS, H', ⟨by have := HK1.out; omega⟩, ⟨by (with_reducible repeat (first | apply Kd.R_alloc | apply Kd.R_drewN | apply Kd.R_drew)); exact HO_0.out⟩, ⟨by repeat (first | (with_reducible first | exact HK.out | apply Kept.alloc | apply Kept.drewN | apply Kept.drew) | exact HK.out)⟩, ⟨zB⟩⟩
    ·rw [if_neg c5] at H
     exact absurd H (by simp)
   ·rw [if_neg c3] at H
    have c3b0 : decide (x5_1 < (x0_1.length : Int)) = false := decide_eq_false c3
    clear c3
    simp only [Option.some.injEq, Prod.mk.injEq] at H
    obtain ⟨rfl, rfl⟩ := H
    obtain ⟨Ao16, co16, eo16⟩ := Kd.R_slice HO_0.out
    subst eo16
    go_wp2
    go_ret
    exact ⟨zE, by (with_reducible repeat (first | apply Kd.R_alloc | apply Kd.R_drewN | apply Kd.R_drew)); exact HO_0.out, zB, by repeat (first | (with_reducible first | exact HK.out | apply Kept.alloc | apply Kept.drewN | apply Kept.drew) | exact HK.out)⟩
end Go.Proofs.YtpmooegakomnbaaDoor.PGN

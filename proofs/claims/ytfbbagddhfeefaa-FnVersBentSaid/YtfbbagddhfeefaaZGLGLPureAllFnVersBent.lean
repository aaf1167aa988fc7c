/- What the functions come to that the law FnVersBent reaches: the parts, one behind the other. -/
import Derived.Test.YtfbbagddhfeefaaZGLAux
import Derived.Test.YtfbbagddhfeefaaZGLPGLx5
import Derived.Test.YtfbbagddhfeefaaZGLPGLx7
import Derived.Test.YtfbbagddhfeefaaZGLPGLx6
import Derived.Test.YtfbbagddhfeefaaZGLMine
import Derived.Test.YtfbbagddhfeefaaZGLPGLx1
import Derived.Test.YtfbbagddhfeefaaZGLPGLx2
import Derived.Test.YtfbbagddhfeefaaZGLPGLx3
set_option linter.unusedVariables false
set_option linter.unusedSimpArgs false
/- What the draws come to: their values' bounds. -/
namespace Go.Proofs.Ytfbbagddhfeefaa.Pure
open Go.RowKit Go.Proofs.Ytfbbagddhfeefaa.PGL Go.Proofs.YtfbbagddhfeefaaW.PrintWords Go.Proofs.YtfbbagddhfeefaaW.PrintLast Go.Proofs.Ytfbbagddhfeefaa.Aux

/-- With enough rounds there is an answer, of which p holds. -/
def Got {α : Type} (g : Nat → Option α) (p : α → Prop) : Prop := ∃ r, Ev g r ∧ p r
theorem Got.bind {α β : Type} {g : Nat → Option α} {f : Nat → α → Option β} {p : α → Prop} {q : β → Prop} (h : Got g p) (h' : ∀ r, p r → Got (fun k => f k r) q) : Got (fun k => (g k).bind (f k)) q := by
  obtain ⟨r, hr, hp⟩ := h
  obtain ⟨s, hs, hq⟩ := h' r hp
  exact ⟨s, Ev.bind hr hs, hq⟩
theorem Got.some {α : Type} {r : α} {p : α → Prop} (h : p r) : Got (fun _ => Option.some r) p := ⟨r, Ev.some, h⟩
theorem Got.succ {α : Type} {g : Nat → Option α} {p : α → Prop} (h : Got (fun k => g (k + 1)) p) : Got g p := by
  obtain ⟨r, hr, hp⟩ := h
  exact ⟨r, Ev.succ hr, hp⟩
theorem Got.const {α : Type} {o : Option α} {p : α → Prop} (h : ∃ r, o = Option.some r ∧ p r) : Got (fun _ => o) p := by
  obtain ⟨r, e, hp⟩ := h
  exact ⟨r, Ev.const e, hp⟩
theorem Got.of {α : Type} {g : Nat → Option α} {r : α} {p : α → Prop} (h : Ev g r) (hp : p r) : Got g p := ⟨r, h, hp⟩
theorem Got.mono {α : Type} {g : Nat → Option α} {p q : α → Prop} (h : Got g p) (hpq : ∀ r, p r → q r) : Got g q := by
  obtain ⟨r, hr, hp⟩ := h
  exact ⟨r, hr, hpq r hp⟩
theorem Got.cond {α : Type} {c : Prop} [Decidable c] {g f : Nat → Option α} {p : α → Prop} (h : c → Got g p) (h' : ¬c → Got f p) : Got (fun k => if c then g k else f k) p := by
  by_cases hc : c
  · simpa only [hc, if_true] using h hc
  · simpa only [hc, if_false] using h' hc
theorem Got.ev {α : Type} {g : Nat → Option α} {s : α} (h : Got g (fun r => r = s)) : Ev g s := by
  obtain ⟨r, hr, rfl⟩ := h
  exact hr

/-- A cursor stands within its bytes. -/
def Cur (b : List Int) (i : Int) : Prop := 0 ≤ i ∧ i ≤ (b.length : Int) ∧ b.length ≤ 140737488355328

theorem and255 (x : Int) : 0 ≤ Go.bits .and .i64 x 255 ∧ Go.bits .and .i64 x 255 ≤ 255 := by
  have h : (BitVec.ofInt 64 x &&& BitVec.ofInt 64 255).toNat ≤ 255 := by
    rw [BitVec.toNat_and]
    exact Nat.and_le_right
  have e : Go.bits .and .i64 x 255 = IntKind.wrap .i64 ((BitVec.ofInt 64 x &&& BitVec.ofInt 64 255).toNat : Int) := rfl
  rw [e, IntKind.wrap_i64]
  omega
theorem draw_byte (b : List Int) (i h : Int) (hc : Cur b i) : ∃ r, spec_l1Byte.f b i h = some r ∧ (0 ≤ r.1 ∧ r.1 ≤ 255) ∧ Cur b r.2.1 := by
  obtain ⟨c0, c1, c2⟩ := hc
  unfold spec_l1Byte.f
  by_cases h1 : i < (b.length : Int)
  · simp only [h1, c0, if_true]
    refine ⟨_, rfl, and255 _, ?_⟩
    show Cur b (wrap64 (i + 1))
    rw [wrap64_id (by omega) (by omega)]
    exact ⟨by omega, by omega, c2⟩
  · simp only [h1, if_false]
    exact ⟨_, rfl, and255 _, c0, c1, c2⟩
theorem draw_below (b : List Int) (i h n : Int) (hn : 0 < n) (hn' : n ≤ 9223372036854775807) (hc : Cur b i) : Got (fun k => spec_l1Below.f k b i h n) fun r => (0 ≤ r.1 ∧ r.1 < n) ∧ Cur b r.2.1 := by
  have tm : ∀ x : Int, 0 ≤ x → 0 ≤ Int.tmod x n ∧ Int.tmod x n < n := by
    intro x hx
    rw [Int.tmod_eq_emod_of_nonneg hx]
    exact ⟨Int.emod_nonneg _ (by omega), Int.emod_lt_of_pos _ hn⟩
  unfold spec_l1Below.f
  simp only [show ¬ n ≤ 0 by omega, if_false]
  refine Got.succ ?_
  simp only [spec_l1Below.j0, show ¬ n = 0 by omega, if_false]
  refine Got.cond (fun _ => ?_) (fun _ => ?_)
  · refine Got.bind (Got.const (draw_byte b i h hc)) fun r hr => Got.some ?_
    exact ⟨tm _ hr.1.1, hr.2⟩
  · refine Got.bind (Got.const (draw_byte b i h hc)) fun r hr => ?_
    refine Got.bind (Got.const (draw_byte b _ _ hr.2)) fun r2 hr2 => ?_
    refine Got.bind (Got.const (draw_byte b _ _ hr2.2)) fun r3 hr3 => Got.some ?_
    obtain ⟨a1, a2⟩ := hr.1
    obtain ⟨b1, b2⟩ := hr2.1
    obtain ⟨c1, c2⟩ := hr3.1
    refine ⟨tm _ ?_, hr3.2⟩
    rw [wrap64_id (i := r.1 * 65536) (by omega) (by omega), wrap64_id (i := r2.1 * 256) (by omega) (by omega), wrap64_id (i := r.1 * 65536 + r2.1 * 256) (by omega) (by omega), wrap64_id (by omega) (by omega)]
    omega
theorem draw_once (b : List Int) (i h n : Int) (hn : 0 < n) (hn' : n ≤ 9223372036854775807) (hc : Cur b i) : Got (fun k => spec_l1Once.f k b i h n) fun r => Cur b r.2.1 := by
  unfold spec_l1Once.f
  exact Got.bind (draw_below b i h n hn hn' hc) fun r hr => Got.some hr.2
theorem draw_str (b : List Int) (i h : Int) (l : List ByteArray) (hl : 0 < l.length) (hl' : l.length ≤ 1000000) (hc : Cur b i) : Got (fun k => spec_l1Str.f k b i h l) fun r => r.1 ∈ l ∧ Cur b r.2.1 := by
  unfold spec_l1Str.f
  refine Got.bind (draw_below b i h _ (by omega) (by omega) hc) fun r hr => ?_
  obtain ⟨⟨h0, h1⟩, h2⟩ := hr
  simp only [h0, h1, if_true]
  refine Got.some ⟨?_, h2⟩
  obtain ⟨j, hj⟩ := Int.eq_ofNat_of_zero_le h0
  rw [hj]
  have hlt : j < l.length := by omega
  show rdOf ByteArray.empty l (j : Int) ∈ l
  rw [rdOf_cast _ hlt]
  exact List.getElem_mem hlt
theorem draw_int (b : List Int) (i h : Int) (l : List Int) (hl : 0 < l.length) (hl' : l.length ≤ 1000000) (hc : Cur b i) : Got (fun k => spec_l1Int.f k b i h l) fun r => r.1 ∈ l ∧ Cur b r.2.1 := by
  unfold spec_l1Int.f
  refine Got.bind (draw_below b i h _ (by omega) (by omega) hc) fun r hr => ?_
  obtain ⟨⟨h0, h1⟩, h2⟩ := hr
  simp only [h0, h1, if_true]
  refine Got.some ⟨?_, h2⟩
  obtain ⟨j, hj⟩ := Int.eq_ofNat_of_zero_le h0
  rw [hj]
  have hlt : j < l.length := by omega
  show rd l (j : Int) ∈ l
  rw [rd_cast hlt]
  exact List.getElem_mem hlt
theorem draw_new_l (l : List Int) (hl : l.length ≤ 1000000000) (d : Nat) : ∀ (j : Nat) (x : Int), j + d = l.length → Got (fun k => spec_l1New.l0 k l x (j : Int)) fun r => r.1 = l ∧ r.2.1 = 0 := by
  induction d with
  | zero =>
    intro j x hj
    refine Got.succ ?_
    simp only [spec_l1New.l0, show ¬ (j : Int) < (l.length : Int) by omega, if_false]
    exact Got.some ⟨rfl, rfl⟩
  | succ d ih =>
    intro j x hj
    refine Got.succ ?_
    simp only [spec_l1New.l0, show (j : Int) < (l.length : Int) by omega, if_true, show (0 : Int) ≤ (j : Int) by omega, next_i (show j < l.length by omega) (by omega)]
    exact Got.cond (fun _ => ih (j + 1) _ (by omega)) (fun _ => Got.some ⟨rfl, rfl⟩)
theorem draw_new (l : List Int) (hl : l.length ≤ 1000000000) : Got (fun k => spec_l1New.f k l) fun r => r.1 = l ∧ r.2.1 = 0 := draw_new_l l hl l.length 0 _ (by omega)
theorem cur_new {l : List Int} (hl : l.length ≤ 1000000000) {r : List Int × Int × Int} (h : r.1 = l ∧ r.2.1 = 0) : Cur r.1 r.2.1 := by
  obtain ⟨h1, h2⟩ := h
  rw [h1, h2]
  exact ⟨by omega, by omega, by omega⟩
end Go.Proofs.Ytfbbagddhfeefaa.Pure
/- What the draws of versions come to. -/
namespace Go.Proofs.Ytfbbagddhfeefaa.Pure
open Go.RowKit Go.Proofs.Ytfbbagddhfeefaa.PGL Go.Proofs.YtfbbagddhfeefaaW.PrintWords Go.Proofs.YtfbbagddhfeefaaW.PrintLast Go.Proofs.Ytfbbagddhfeefaa.Aux

theorem Ev.yes' {α : Type} {c : Prop} [Decidable c] {g f : Nat → Option α} {r : α} (hc : c) (h : Ev g r) : Ev (fun k => if c then g k else f k) r := by
  simpa only [hc, if_true] using h
theorem Ev.no' {α : Type} {c : Prop} [Decidable c] {g f : Nat → Option α} {r : α} (hc : ¬ c) (h : Ev f r) : Ev (fun k => if c then g k else f k) r := by
  simpa only [hc, if_false] using h
/-- Few short words. -/
def Few (n : Nat) (l : List ByteArray) : Prop := l.length ≤ n ∧ ∀ x ∈ l, x.size ≤ 9
theorem Few.mono {m n : Nat} {l : List ByteArray} (h : Few m l) (hmn : m ≤ n) : Few n l := ⟨Nat.le_trans h.1 hmn, h.2⟩
theorem Few.nil (n : Nat) : Few n [] := ⟨Nat.zero_le _, fun _ h => by cases h⟩
theorem Few.snoc {n : Nat} {l : List ByteArray} {x : ByteArray} (h : Few n l) (hx : x.size ≤ 9) : Few (n + 1) (l ++ [x]) := by
  refine ⟨by rw [List.length_append]; have := h.1; simp; omega, fun y hy => ?_⟩
  rcases List.mem_append.1 hy with hy | hy
  · exact h.2 y hy
  · rw [List.mem_singleton.1 hy]; exact hx
theorem draw_ver (b : List Int) (i h : Int) (hc : Cur b i) : Got (fun k => spec_l3Draw.f k b i h) fun r => Few 2 r.2.2.2.1 ∧ Cur b r.2.2.2.2.1 := by
  unfold spec_l3Draw.f
  refine Got.bind (draw_below b i h 3 (by omega) (by omega) hc) fun r1 h1 => ?_
  refine Got.bind (draw_below b _ _ 3 (by omega) (by omega) h1.2) fun r2 h2 => ?_
  refine Got.bind (draw_below b _ _ 3 (by omega) (by omega) h2.2) fun r3 h3 => ?_
  refine Got.bind (draw_once b _ _ 3 (by omega) (by omega) h3.2) fun r4 h4 => ?_
  refine Got.cond (fun _ => ?_) (fun _ => Got.some ⟨Few.nil _, h4⟩)
  refine Got.bind (draw_str b _ _ _ (by simp) (by simp) h4) fun r5 h5 => ?_
  have z5 : r5.1.size ≤ 9 := by
    have hm := h5.1
    simp only [List.mem_cons, List.not_mem_nil, or_false] at hm
    rcases hm with e | e | e | e | e | e <;> rw [e] <;> decide
  simp only [List.length_nil, show (0 : Nat) < 8796093022208 by omega, if_true, Option.bind_some, List.nil_append]
  refine Got.bind (draw_once b _ _ 3 (by omega) (by omega) h5.2) fun r6 h6 => ?_
  refine Got.cond (fun _ => ?_) (fun _ => Got.some ⟨(Few.snoc (Few.nil 1) z5 : Few 2 ([] ++ [r5.1])), h6⟩)
  refine Got.bind (draw_str b _ _ _ (by simp) (by simp) h6) fun r7 h7 => ?_
  have z7 : r7.1.size ≤ 9 := by
    have hm := h7.1
    simp only [List.mem_cons, List.not_mem_nil, or_false] at hm
    rcases hm with e | e | e <;> rw [e] <;> decide
  simp only [List.length_cons, List.length_nil, show (0 + 1 : Nat) < 8796093022208 by omega, if_true]
  exact Got.some ⟨Few.snoc (Few.snoc (Few.nil 0) z5) z7, h7.2⟩
theorem draw_any (b : List Int) (i h : Int) (hc : Cur b i) : Got (fun k => spec_l3Any.f k b i h) fun r => Few 4 r.2.2.2.1 ∧ Cur b r.2.2.2.2.1 := by
  unfold spec_l3Any.f
  refine Got.bind (draw_ver b i h hc) fun r hr => ?_
  have hlen := hr.1.1
  refine Got.bind (draw_below b _ _ 8 (by omega) (by omega) hr.2) fun r1 h1 => ?_
  refine Got.cond (fun _ => ?_) (fun _ => ?_)
  · exact Got.bind (draw_int b _ _ _ (by simp) (by simp) h1.2) fun r2 h2 => Got.some ⟨hr.1.mono (by omega), h2.2⟩
  refine Got.cond (fun _ => ?_) (fun _ => ?_)
  · exact Got.bind (draw_int b _ _ _ (by simp) (by simp) h1.2) fun r2 h2 => Got.some ⟨hr.1.mono (by omega), h2.2⟩
  refine Got.cond (fun _ => ?_) (fun _ => ?_)
  · refine Got.bind (draw_str b _ _ _ (by simp) (by simp) h1.2) fun r2 h2 => ?_
    have z2 : r2.1.size ≤ 9 := by
      have hm := h2.1
      simp only [List.mem_cons, List.not_mem_nil, or_false] at hm
      rcases hm with e | e | e | e | e | e <;> rw [e] <;> decide
    simp only [show r.2.2.2.1.length < 8796093022208 by omega, if_true]
    exact Got.some ⟨(hr.1.snoc z2).mono (by omega), h2.2⟩
  refine Got.cond (fun _ => ?_) (fun _ => Got.some ⟨hr.1.mono (by omega), h1.2⟩)
  simp only [Option.bind_some]
  refine Got.bind (draw_int b _ _ _ (by simp) (by simp) h1.2) fun r2 h2 => ?_
  have hm := h2.1
  simp only [List.mem_cons, List.not_mem_nil, or_false] at hm
  have h0 : 0 ≤ r2.1 ∧ r2.1 ≤ 4 := by omega
  simp only [h0.1, if_true, List.length_cons, List.length_nil, show r2.1 ≤ ((0 + 1 + 1 + 1 + 1 : Nat) : Int) by omega]
  refine Got.some ⟨⟨by rw [List.length_take]; exact Nat.min_le_right _ _, fun x hx => ?_⟩, h2.2⟩
  have := List.mem_of_mem_take hx
  simp only [List.mem_cons, List.not_mem_nil, or_false] at this
  rcases this with e | e | e | e <;> rw [e] <;> decide
theorem copy_ver (a b c : Int) (l : List ByteArray) (h : l.length ≤ 1000000) : spec_l3Copy.f a b c l = some (a, b, c, l) := by
  unfold spec_l3Copy.f
  simp [show l.length < 8796093022208 by omega]
end Go.Proofs.Ytfbbagddhfeefaa.Pure
/- The kinds of bytes: what the reference's and the program's tests of one byte come to. -/
namespace Go.Proofs.Ytfbbagddhfeefaa.Pure
open Go.RowKit Go.Proofs.Ytfbbagddhfeefaa.PGL Go.Proofs.YtfbbagddhfeefaaW.PrintWords Go.Proofs.YtfbbagddhfeefaaW.PrintLast Go.Proofs.Ytfbbagddhfeefaa.Aux

def inB (x a b : Int) : Bool := decide (a ≤ x) && decide (x ≤ b)
def smallB (x : Int) : Bool := inB x 97 122
def digitB (x : Int) : Bool := inB x 48 57
def upperB (x : Int) : Bool := inB x 65 90

theorem in_f (a b c : Int) : spec_l1In.f a b c = some (inB a b c) := by
  unfold spec_l1In.f inB
  by_cases h : b ≤ a <;> simp [h]
theorem inRange_f (a b c : Int) : impl_inRange.f a b c = some (inB a b c) := by
  unfold impl_inRange.f inB
  by_cases h : b ≤ a <;> simp [h]
theorem small_spec {x : Int} (h : 0 ≤ x ∧ x ≤ 255) : spec_l1Small.f x = some (smallB x) := by
  unfold spec_l1Small.f
  rw [wrap64_id (by omega) (by omega), in_f]
  rfl
theorem digit_spec {x : Int} (h : 0 ≤ x ∧ x ≤ 255) : spec_l1Digit.f x = some (digitB x) := by
  unfold spec_l1Digit.f
  rw [wrap64_id (by omega) (by omega), in_f]
  rfl
theorem small_impl (x : Int) : impl_isSmall.f x = some (smallB x) := by
  unfold impl_isSmall.f smallB inB
  by_cases h : 97 ≤ x <;> simp [h]
theorem digit_impl (x : Int) : impl_isFigure.f x = some (digitB x) := by
  unfold impl_isFigure.f digitB inB
  by_cases h : 48 ≤ x <;> simp [h]

end Go.Proofs.Ytfbbagddhfeefaa.Pure
/- Texts of digits alone, of the reference and of the program. -/
namespace Go.Proofs.Ytfbbagddhfeefaa.Pure
open Go.RowKit Go.Proofs.Ytfbbagddhfeefaa.PGL Go.Proofs.YtfbbagddhfeefaaW.PrintWords Go.Proofs.YtfbbagddhfeefaaW.PrintLast Go.Proofs.Ytfbbagddhfeefaa.Aux

def digitsB (s : ByteArray) : Bool := (bs s).all digitB

theorem spec_digits_l (s : ByteArray) (hs : s.size ≤ 9223372036854775807) (d : Nat) : ∀ i : Nat, i + d = s.size → Ev (fun k => spec_l3Digits.l0 k s (i : Int)) (((bs s).drop i).all digitB) := by
  induction d with
  | zero =>
    intro i hi
    have h1 : ¬ (i : Int) < (s.size : Int) := by omega
    refine Ev.succ ?_
    simp only [spec_l3Digits.l0, h1, if_false, bs_end (show s.size ≤ i by omega), List.all_nil]
    exact Ev.some
  | succ d ih =>
    intro i hi
    have h1 : (i : Int) < (s.size : Int) := by omega
    have h2 : (0 : Int) ≤ (i : Int) := by omega
    have h3 := next_i (show i < s.size by omega) hs
    have ih' := ih (i + 1) (by omega)
    refine Ev.succ ?_
    rw [bs_drop (by omega), List.all_cons]
    simp only [spec_l3Digits.l0, h1, h2, h3, if_true, digit_spec (bt_range s i), Option.bind_some]
    cases hp : digitB (bt s (i : Int)) with
    | true => simpa using ih'
    | false => simpa using Ev.some
theorem spec_digits (s : ByteArray) (hs : s.size ≤ 9223372036854775807) : Ev (fun k => spec_l3Digits.f k s) (digitsB s) := spec_digits_l s hs s.size 0 (by omega)

theorem impl_figures_l (s : ByteArray) (hs : s.size ≤ 9223372036854775807) (d : Nat) : ∀ i : Nat, i + d = s.size → Ev (fun k => impl_isFigures.l0 k s (i : Int)) (((bs s).drop i).all digitB && decide (s.size ≠ 0)) := by
  induction d with
  | zero =>
    intro i hi
    have h1 : ¬ (i : Int) < (s.size : Int) := by omega
    refine Ev.succ ?_
    simp only [impl_isFigures.l0, h1, if_false, bs_end (show s.size ≤ i by omega), List.all_nil, Bool.true_and]
    refine Ev.cast Ev.some ?_
    rw [toList_data]
    by_cases h : s.size = 0
    · have : s.data.toList = [] := by
        apply List.eq_nil_of_length_eq_zero
        simpa using h
      rw [this, h]
      rfl
    · have : s.data.toList ≠ [] := by
        intro e
        apply h
        have := congrArg List.length e
        simpa using this
      simp [h, this]
  | succ d ih =>
    intro i hi
    have h1 : (i : Int) < (s.size : Int) := by omega
    have h2 : (0 : Int) ≤ (i : Int) := by omega
    have h3 := next_i (show i < s.size by omega) hs
    have ih' := ih (i + 1) (by omega)
    refine Ev.succ ?_
    rw [bs_drop (by omega), List.all_cons]
    simp only [impl_isFigures.l0, h1, h2, h3, if_true, digit_impl, Option.bind_some]
    cases hp : digitB (bt s (i : Int)) with
    | true => simpa using ih'
    | false => simpa using Ev.some
theorem impl_figures (s : ByteArray) (hs : s.size ≤ 9223372036854775807) : Ev (fun k => impl_isFigures.f k s) (digitsB s && decide (s.size ≠ 0)) := impl_figures_l s hs s.size 0 (by omega)


end Go.Proofs.Ytfbbagddhfeefaa.Pure
/- What LessVer comes to, of the reference and of the program: the order of versions. -/
namespace Go.Proofs.Ytfbbagddhfeefaa.Pure
open Go.RowKit Go.Proofs.Ytfbbagddhfeefaa.PGL Go.Proofs.YtfbbagddhfeefaaW.PrintWords Go.Proofs.YtfbbagddhfeefaaW.PrintLast Go.Proofs.Ytfbbagddhfeefaa.Aux

def ltB (a b : ByteArray) : Bool := Op.bytesLess a.toList b.toList
theorem ltB_turned (a b : ByteArray) : ltB b a = !(ltB a b || decide (a = b)) := by
  unfold ltB
  rw [Mine.less_turned]
  congr 2
  by_cases h : a = b
  · subst h; simp
  · have : ¬ a.toList = b.toList := fun e => h (toList_inj.1 e)
    simp [h, this]
theorem ltB_self (a : ByteArray) : ltB a a = false := by
  have h := ltB_turned a a
  cases hq : ltB a a with
  | false => rfl
  | true => rw [hq] at h; simp at h

def cmpI (a b : Int) : Int := if a < b then -1 else if a > b then 1 else 0
def cmpS (a b : ByteArray) : Int := if ltB a b = true then -1 else if ltB b a = true then 1 else 0
theorem cmpS_zero (a b : ByteArray) : cmpS a b = 0 ↔ a = b := by
  unfold cmpS
  rw [ltB_turned a b]
  constructor
  · intro h
    cases hq : ltB a b with
    | true => rw [hq] at h; simp at h
    | false =>
      rw [hq] at h
      by_cases e : a = b
      · exact e
      · simp [e] at h
  · rintro rfl
    simp [ltB_self]
theorem cmpS_neg (a b : ByteArray) : decide (cmpS a b < 0) = ltB a b := by
  unfold cmpS
  cases ltB a b with
  | true => simp
  | false => cases ltB b a <;> simp

theorem cmpInt (a b : Int) : Ev (fun k => cmp_Compare_int.f k a b) (cmpI a b) := by
  unfold cmp_Compare_int.f
  simp only [cmp_isNaN_int.f, Option.bind_some, bne_self_eq_false, Bool.false_eq_true, if_false]
  refine Ev.succ ?_
  simp only [cmp_Compare_int.j0, Bool.false_eq_true, if_false]
  refine Ev.succ ?_
  simp only [cmp_Compare_int.j1]
  unfold cmpI
  by_cases h : a < b
  · simp only [h, if_true]
    exact Ev.some
  · by_cases h' : a > b
    · simp only [h, h', if_true, if_false]
      exact Ev.some
    · simp only [h, h', if_false]
      exact Ev.some
theorem cmpStr (a b : ByteArray) : Ev (fun k => cmp_Compare_string.f k a b) (cmpS a b) := by
  unfold cmp_Compare_string.f
  simp only [cmp_isNaN_string.f, Option.bind_some, bne_self_eq_false, Bool.false_eq_true, if_false]
  refine Ev.succ ?_
  simp only [cmp_Compare_string.j0, Bool.false_eq_true, if_false]
  refine Ev.succ ?_
  simp only [cmp_Compare_string.j1]
  unfold cmpS ltB
  cases h : Op.bytesLess a.toList b.toList with
  | true =>
    simp only [if_true]
    exact Ev.some
  | false =>
    cases h' : Op.bytesLess b.toList a.toList with
    | true =>
      simp only [Bool.false_eq_true, if_true, if_false]
      exact Ev.some
    | false =>
      simp only [Bool.false_eq_true, if_false]
      exact Ev.some

def orI : List Int → Int
  | [] => 0
  | x :: r => if x = 0 then orI r else x
theorem cmpOr_l (l : List Int) (hl : l.length ≤ 9223372036854775807) (d : Nat) : ∀ i : Nat, i + d = l.length → Ev (fun k => cmp_Or_int.l0 k 0 l (l.length : Int) (i : Int)) (orI (l.drop i)) := by
  induction d with
  | zero =>
    intro i hi
    have h1 : ¬ (i : Int) < (l.length : Int) := by omega
    refine Ev.succ ?_
    simp only [cmp_Or_int.l0, h1, if_false, List.drop_eq_nil_of_le (show l.length ≤ i by omega), orI]
    exact Ev.some
  | succ d ih =>
    intro i hi
    have hlt : i < l.length := by omega
    have h1 : (i : Int) < (l.length : Int) := by omega
    have h2 : (0 : Int) ≤ (i : Int) := by omega
    have h3 := next_i hlt hl
    refine Ev.succ ?_
    rw [drop_get hlt]
    simp only [cmp_Or_int.l0, h1, h2, h3, if_true, rd_cast hlt, orI]
    by_cases h : l[i] = 0
    · simp only [h, if_true]
      exact ih (i + 1) (by omega)
    · simp only [h, if_false]
      exact Ev.some
theorem cmpOr (l : List Int) (hl : l.length ≤ 9223372036854775807) : Ev (fun k => cmp_Or_int.f k l) (orI l) := cmpOr_l l hl l.length 0 (by omega)

def cmpW (a b : ByteArray) : Int :=
  if digitsB a = true then if digitsB b = true then orI [cmpI (a.size : Int) (b.size : Int), cmpS a b] else -1
  else if digitsB b = true then 1 else cmpS a b

theorem nil_size (s : ByteArray) : s.toList = ([] : List UInt8) ↔ s.size = 0 := by
  rw [toList_data]
  constructor
  · intro h
    have := congrArg List.length h
    simpa using this
  · intro h
    apply List.eq_nil_of_length_eq_zero
    simpa using h
theorem digits_nil (s : ByteArray) (h : s.size = 0) : digitsB s = true := by
  unfold digitsB bs
  have : s.data.toList = [] := by
    apply List.eq_nil_of_length_eq_zero
    simpa using h
  rw [this]
  rfl

theorem words_j (a b : ByteArray) : Ev (fun k => impl_compareWords.j0 k a b (digitsB a) (digitsB b)) (cmpW a b) := by
  refine Ev.succ ?_
  unfold cmpW
  cases ha : digitsB a with
  | true =>
    simp only [impl_compareWords.j0, if_true]
    refine Ev.succ ?_
    cases hb : digitsB b with
    | true =>
      simp only [impl_compareWords.j1, if_true]
      exact Ev.bind (cmpInt _ _) (Ev.bind (cmpStr _ _) (Ev.bind (cmpOr _ (by simp)) Ev.some))
    | false =>
      simp only [impl_compareWords.j1, if_true, Bool.false_eq_true, if_false]
      exact Ev.some
  | false =>
    simp only [impl_compareWords.j0, Bool.false_eq_true, if_false]
    refine Ev.succ ?_
    cases hb : digitsB b with
    | true =>
      simp only [impl_compareWords.j1, if_true, Bool.false_eq_true, if_false]
      exact Ev.some
    | false =>
      simp only [impl_compareWords.j1, Bool.false_eq_true, if_false]
      exact Ev.bind (cmpStr _ _) Ev.some
theorem words (a b : ByteArray) (ha : a.size ≤ 9223372036854775807) (hb : b.size ≤ 9223372036854775807) : Ev (fun k => impl_compareWords.f k a b) (cmpW a b) := by
  unfold impl_compareWords.f
  have fa := impl_figures a ha
  have fb := impl_figures b hb
  have hj := words_j a b
  simp only [nil_size]
  by_cases ea : a.size = 0
  · simp only [ea, if_true]
    rw [digits_nil a ea] at hj
    by_cases eb : b.size = 0
    · simp only [eb, if_true]
      rw [digits_nil b eb] at hj
      exact hj
    · simp only [eb, if_false]
      refine Ev.bind fb ?_
      simpa [eb] using hj
  · simp only [ea, if_false]
    refine Ev.bind fa ?_
    by_cases eb : b.size = 0
    · simp only [eb, if_true]
      rw [digits_nil b eb] at hj
      simpa [ea] using hj
    · simp only [eb, if_false]
      refine Ev.bind fb ?_
      simpa [ea, eb] using hj

def cmpWs : List ByteArray → List ByteArray → Int
  | [], [] => 0
  | [], _ :: _ => -1
  | _ :: _, [] => 1
  | x :: a, y :: b => if cmpW x y = 0 then cmpWs a b else cmpW x y
theorem compareFunc_l (a b : List ByteArray) (hl : a.length ≤ 9223372036854775807) (hs : ∀ x ∈ a, x.size ≤ 9223372036854775807) (hs' : ∀ x ∈ b, x.size ≤ 9223372036854775807) (d : Nat) : ∀ i : Nat, i + d = a.length → i ≤ b.length →
    Ev (fun k => slices_CompareFunc_string_string_string_string.l0 k a b a (a.length : Int) (i : Int)) (cmpWs (a.drop i) (b.drop i)) := by
  induction d with
  | zero =>
    intro i hi hb
    have h1 : ¬ (i : Int) < (a.length : Int) := by omega
    refine Ev.succ ?_
    simp only [slices_CompareFunc_string_string_string_string.l0, h1, if_false, List.drop_eq_nil_of_le (show a.length ≤ i by omega)]
    by_cases h : a.length < b.length
    · rw [drop_get (show i < b.length by omega)]
      simp only [show (a.length : Int) < (b.length : Int) by omega, if_true, cmpWs]
      exact Ev.some
    · rw [List.drop_eq_nil_of_le (show b.length ≤ i by omega)]
      simp only [show ¬ (a.length : Int) < (b.length : Int) by omega, if_false, cmpWs]
      exact Ev.some
  | succ d ih =>
    intro i hi hb
    have hlt : i < a.length := by omega
    have h1 : (i : Int) < (a.length : Int) := by omega
    have h2 : (0 : Int) ≤ (i : Int) := by omega
    have h3 := next_i hlt hl
    refine Ev.succ ?_
    simp only [slices_CompareFunc_string_string_string_string.l0, h1, if_true]
    refine Ev.succ ?_
    rw [drop_get hlt]
    by_cases h : i < b.length
    · rw [drop_get h]
      simp only [slices_CompareFunc_string_string_string_string.j1, h1, h2, h3, if_true, show ¬ (i : Int) ≥ (b.length : Int) by omega, if_false, show (i : Int) < (b.length : Int) by omega, rdOf_cast _ hlt, rdOf_cast _ h, cmpWs]
      refine Ev.bind (words _ _ (hs _ (List.getElem_mem hlt)) (hs' _ (List.getElem_mem h))) ?_
      by_cases hc : cmpW a[i] b[i] = 0
      · simp only [hc, if_true]
        exact ih (i + 1) (by omega) (by omega)
      · simp only [hc, if_false]
        exact Ev.some
    · rw [List.drop_eq_nil_of_le (show b.length ≤ i by omega)]
      simp only [slices_CompareFunc_string_string_string_string.j1, h1, h2, if_true, show (i : Int) ≥ (b.length : Int) by omega, cmpWs]
      exact Ev.some
theorem compareFunc (a b : List ByteArray) (hl : a.length ≤ 9223372036854775807) (hs : ∀ x ∈ a, x.size ≤ 9223372036854775807) (hs' : ∀ x ∈ b, x.size ≤ 9223372036854775807) :
    Ev (fun k => slices_CompareFunc_string_string_string_string.f k a b) (cmpWs a b) := compareFunc_l a b hl hs hs' a.length 0 (by omega) (by omega)

def cmpP (a b : List ByteArray) : Int :=
  if ((a.length : Int) == 0) != ((b.length : Int) == 0) then if (a.length : Int) > 0 then -1 else 1 else cmpWs a b
def cmpV (a b c : Int) (l : List ByteArray) (a' b' c' : Int) (l' : List ByteArray) : Int :=
  if orI [cmpI a a', cmpI b b', cmpI c c'] = 0 then cmpP l l' else orI [cmpI a a', cmpI b b', cmpI c c']
theorem compareVer (a b c : Int) (l : List ByteArray) (a' b' c' : Int) (l' : List ByteArray) (hl : l.length ≤ 9223372036854775807) (hs : ∀ x ∈ l, x.size ≤ 9223372036854775807) (hs' : ∀ x ∈ l', x.size ≤ 9223372036854775807) :
    Ev (fun k => impl_compareVer.f k a b c l a' b' c' l') (cmpV a b c l a' b' c' l') := by
  unfold impl_compareVer.f cmpV
  refine Ev.bind (cmpInt _ _) (Ev.bind (cmpInt _ _) (Ev.bind (cmpInt _ _) (Ev.bind (cmpOr _ (by simp)) ?_)))
  by_cases h : orI [cmpI a a', cmpI b b', cmpI c c'] = 0
  · simp only [h, if_true]
    refine Ev.succ ?_
    simp only [impl_compareVer.j0]
    unfold cmpP
    cases hq : (((l.length : Int) == 0) != ((l'.length : Int) == 0)) with
    | true =>
      simp only [if_true]
      by_cases h0 : (l.length : Int) > 0
      · simp only [h0, if_true]
        exact Ev.some
      · simp only [h0, if_false]
        exact Ev.some
    | false =>
      simp only [Bool.false_eq_true, if_false]
      exact Ev.bind (compareFunc _ _ hl hs hs') Ev.some
  · simp only [h, if_false]
    exact Ev.some

/-! The reference's. -/
def lessW (a b : ByteArray) : Bool :=
  if digitsB a = true ∧ digitsB b = true then if a.size = b.size then ltB a b else decide (a.size < b.size)
  else if (digitsB a != digitsB b) = true then digitsB a else ltB a b
theorem spec_lessPart (a b : ByteArray) (ha : a.size ≤ 9223372036854775807) (hb : b.size ≤ 9223372036854775807) : Ev (fun k => spec_l3LessPart.f k a b) (lessW a b) := by
  unfold spec_l3LessPart.f
  refine Ev.bind (spec_digits a ha) (Ev.bind (spec_digits b hb) ?_)
  unfold lessW
  cases da : digitsB a with
  | true =>
    simp only [if_true]
    refine Ev.succ ?_
    cases db : digitsB b with
    | true =>
      simp only [spec_l3LessPart.j0, if_true, and_self]
      by_cases h : a.size = b.size
      · simp only [h, if_true]
        exact Ev.some
      · simp only [show ¬ (a.size : Int) = (b.size : Int) by omega, h, if_false]
        refine Ev.cast Ev.some ?_
        rw [decide_eq_decide]
        omega
    | false =>
      simp only [spec_l3LessPart.j0, Bool.false_eq_true, if_false, and_false]
      exact Ev.some
  | false =>
    simp only [Bool.false_eq_true, if_false, false_and]
    refine Ev.succ ?_
    cases db : digitsB b with
    | true =>
      simp only [spec_l3LessPart.j0, Bool.false_eq_true, if_false]
      exact Ev.some
    | false =>
      simp only [spec_l3LessPart.j0, Bool.false_eq_true, if_false]
      exact Ev.some

def lessWs : List ByteArray → List ByteArray → Bool
  | [], [] => false
  | [], _ :: _ => true
  | _ :: _, [] => false
  | x :: a, y :: b => if x = y then lessWs a b else lessW x y
theorem spec_lessPre_l (a b : List ByteArray) (hl : a.length ≤ 9223372036854775807) (hs : ∀ x ∈ a, x.size ≤ 9223372036854775807) (hs' : ∀ x ∈ b, x.size ≤ 9223372036854775807) (d : Nat) : ∀ i : Nat, i + d = a.length → i ≤ b.length →
    Ev (fun k => spec_l3LessPre.l0 k a b (i : Int)) (lessWs (a.drop i) (b.drop i)) := by
  induction d with
  | zero =>
    intro i hi hb
    have h1 : ¬ (i : Int) < (a.length : Int) := by omega
    refine Ev.succ ?_
    simp only [spec_l3LessPre.l0, h1, if_false, List.drop_eq_nil_of_le (show a.length ≤ i by omega)]
    refine Ev.succ ?_
    simp only [spec_l3LessPre.j3, Bool.false_eq_true, if_false]
    refine Ev.cast Ev.some ?_
    by_cases h : a.length < b.length
    · rw [drop_get (show i < b.length by omega)]
      simp [lessWs, h]
    · rw [List.drop_eq_nil_of_le (show b.length ≤ i by omega)]
      simp [lessWs, h]
  | succ d ih =>
    intro i hi hb
    have hlt : i < a.length := by omega
    have h1 : (i : Int) < (a.length : Int) := by omega
    have h2 : (0 : Int) ≤ (i : Int) := by omega
    have h3 := next_i hlt hl
    refine Ev.succ ?_
    simp only [spec_l3LessPre.l0, h1, if_true]
    refine Ev.succ ?_
    rw [drop_get hlt]
    by_cases h : i < b.length
    · rw [drop_get h]
      have h1' : (i : Int) < (b.length : Int) := by omega
      simp only [spec_l3LessPre.j3, h1, h1', h2, h3, decide_true, if_true, rdOf_cast _ hlt, rdOf_cast _ h, toList_inj, lessWs]
      by_cases hc : a[i] = b[i]
      · simp only [hc, if_true]
        exact ih (i + 1) (by omega) (by omega)
      · simp only [hc, if_false]
        exact Ev.bind (spec_lessPart _ _ (hs _ (List.getElem_mem hlt)) (hs' _ (List.getElem_mem h))) Ev.some
    · rw [List.drop_eq_nil_of_le (show b.length ≤ i by omega)]
      have h1' : ¬ (i : Int) < (b.length : Int) := by omega
      simp only [spec_l3LessPre.j3, h1', decide_false, Bool.false_eq_true, if_false, lessWs]
      refine Ev.cast Ev.some ?_
      simp
      omega
def lessP (a b : List ByteArray) : Bool :=
  if (a.length = 0 ∨ b.length = 0) then decide (a.length > 0 ∧ b.length = 0) else lessWs a b
theorem spec_lessPre (a b : List ByteArray) (hl : a.length ≤ 9223372036854775807) (hs : ∀ x ∈ a, x.size ≤ 9223372036854775807) (hs' : ∀ x ∈ b, x.size ≤ 9223372036854775807) :
    Ev (fun k => spec_l3LessPre.f k a b) (lessP a b) := by
  unfold spec_l3LessPre.f lessP
  by_cases h : a.length = 0
  · simp only [show (a.length : Int) = 0 by omega, if_true, h, true_or]
    refine Ev.succ ?_
    simp only [spec_l3LessPre.j0, if_true, h]
    refine Ev.cast Ev.some ?_
    simp
  · simp only [show ¬ (a.length : Int) = 0 by omega, if_false, h, false_or]
    refine Ev.succ ?_
    by_cases hb : b.length = 0
    · simp only [hb, if_true]
      simp only [spec_l3LessPre.j0, Int.ofNat_zero, beq_self_eq_true, if_true, show (a.length : Int) > 0 by omega, hb]
      refine Ev.cast Ev.some ?_
      simp
      omega
    · simp only [hb, if_false, show ((b.length : Int) == 0) = false by simpa using hb]
      simp only [spec_l3LessPre.j0, Bool.false_eq_true, if_false]
      refine Ev.succ ?_
      simp only [spec_l3LessPre.j1]
      exact spec_lessPre_l a b hl hs hs' a.length 0 (by omega) (by omega)
def lessV (a b c : Int) (l : List ByteArray) (a' b' c' : Int) (l' : List ByteArray) : Bool :=
  if a = a' then if b = b' then if c = c' then lessP l l' else decide (c < c') else decide (b < b') else decide (a < a')
theorem spec_less (a b c : Int) (l : List ByteArray) (a' b' c' : Int) (l' : List ByteArray) (hl : l.length ≤ 9223372036854775807) (hs : ∀ x ∈ l, x.size ≤ 9223372036854775807) (hs' : ∀ x ∈ l', x.size ≤ 9223372036854775807) :
    Ev (fun k => spec_LessVer.f k a b c l a' b' c' l') (lessV a b c l a' b' c' l') := by
  unfold spec_LessVer.f lessV
  by_cases h1 : a = a'
  · by_cases h2 : b = b'
    · by_cases h3 : c = c'
      · simp only [h1, h2, h3, if_true]
        exact Ev.bind (spec_lessPre _ _ hl hs hs') Ev.some
      · simp only [h1, h2, h3, if_true, if_false]
        exact Ev.some
    · simp only [h1, h2, if_true, if_false]
      exact Ev.some
  · simp only [h1, if_false]
    exact Ev.some

/-! Both are one. -/
theorem cmpW_zero (a b : ByteArray) : cmpW a b = 0 ↔ a = b := by
  unfold cmpW
  constructor
  · intro h
    cases ha : digitsB a <;> cases hb : digitsB b <;> simp only [ha, hb, if_true, Bool.false_eq_true, if_false] at h
    · exact (cmpS_zero a b).1 h
    · omega
    · omega
    · simp only [orI] at h
      by_cases hc : cmpI (a.size : Int) (b.size : Int) = 0
      · by_cases hs : cmpS a b = 0
        · exact (cmpS_zero a b).1 hs
        · simp [hc, hs] at h
      · simp [hc] at h
  · rintro rfl
    have h0 : cmpS a a = 0 := (cmpS_zero a a).2 rfl
    cases ha : digitsB a <;> simp [h0, orI, cmpI]
theorem cmpW_neg (a b : ByteArray) : decide (cmpW a b < 0) = lessW a b := by
  unfold cmpW lessW
  cases ha : digitsB a <;> cases hb : digitsB b <;> simp only [if_true, Bool.false_eq_true, if_false, and_self, and_false, false_and]
  · simpa using cmpS_neg a b
  · simp
  · simp
  · simp only [orI]
    by_cases hs : a.size = b.size
    · simp only [hs, if_true]
      have : cmpI (b.size : Int) (b.size : Int) = 0 := by simp [cmpI]
      simp only [this, if_true]
      by_cases h0 : cmpS a b = 0
      · simp only [h0, if_true]
        rw [(cmpS_zero a b).1 h0, ltB_self]
        rfl
      · simp only [h0, if_false]
        exact cmpS_neg a b
    · simp only [hs, if_false]
      unfold cmpI
      by_cases hlt : a.size < b.size
      · simp [hlt]
      · have : (b.size : Int) < (a.size : Int) := by omega
        have h2 : ¬ (a.size : Int) < (b.size : Int) := by omega
        simp [hlt, this]
theorem cmpWs_neg : ∀ (a b : List ByteArray), decide (cmpWs a b < 0) = lessWs a b
  | [], [] => by simp [cmpWs, lessWs]
  | [], _ :: _ => by simp [cmpWs, lessWs]
  | _ :: _, [] => by simp [cmpWs, lessWs]
  | x :: a, y :: b => by
    simp only [cmpWs, lessWs]
    by_cases h : x = y
    · subst h
      simp only [(cmpW_zero x x).2 rfl, if_true]
      exact cmpWs_neg a b
    · simp only [show ¬ cmpW x y = 0 from fun e => h ((cmpW_zero x y).1 e), h, if_false]
      exact cmpW_neg x y
theorem cmpP_neg (a b : List ByteArray) : decide (cmpP a b < 0) = lessP a b := by
  unfold cmpP lessP
  cases a with
  | nil =>
    cases b with
    | nil => simp [cmpWs]
    | cons y b => simp; omega
  | cons x a =>
    cases b with
    | nil => simp; omega
    | cons y b =>
      have e1 : (((x :: a).length : Int) == 0) = false := by rw [beq_eq_false_iff_ne, List.length_cons]; omega
      have e2 : (((y :: b).length : Int) == 0) = false := by rw [beq_eq_false_iff_ne, List.length_cons]; omega
      rw [e1, e2]
      simpa using cmpWs_neg (x :: a) (y :: b)
theorem cmpI_zero (a b : Int) : cmpI a b = 0 ↔ a = b := by unfold cmpI; split <;> (try split) <;> omega
theorem cmpI_neg (a b : Int) : cmpI a b < 0 ↔ a < b := by unfold cmpI; split <;> (try split) <;> omega
theorem cmpV_neg (a b c : Int) (l : List ByteArray) (a' b' c' : Int) (l' : List ByteArray) : decide (cmpV a b c l a' b' c' l' < 0) = lessV a b c l a' b' c' l' := by
  unfold cmpV lessV
  simp only [orI]
  by_cases h1 : a = a'
  · subst h1
    have ea := (cmpI_zero a a).2 rfl
    by_cases h2 : b = b'
    · subst h2
      have eb := (cmpI_zero b b).2 rfl
      by_cases h3 : c = c'
      · subst h3
        have ec := (cmpI_zero c c).2 rfl
        simp only [ea, eb, ec, if_true]
        exact cmpP_neg l l'
      · simp only [ea, eb, show ¬ cmpI c c' = 0 from fun e => h3 ((cmpI_zero c c').1 e), if_true, if_false, h3, cmpI_neg]
    · simp only [ea, show ¬ cmpI b b' = 0 from fun e => h2 ((cmpI_zero b b').1 e), if_true, if_false, h2, cmpI_neg]
  · simp only [show ¬ cmpI a a' = 0 from fun e => h1 ((cmpI_zero a a').1 e), if_false, h1, cmpI_neg]

end Go.Proofs.Ytfbbagddhfeefaa.Pure
/- What LessVer of the program comes to. -/
namespace Go.Proofs.Ytfbbagddhfeefaa.Pure
open Go.RowKit Go.Proofs.Ytfbbagddhfeefaa.PGL Go.Proofs.YtfbbagddhfeefaaW.PrintWords Go.Proofs.YtfbbagddhfeefaaW.PrintLast Go.Proofs.Ytfbbagddhfeefaa.Aux

theorem impl_lessV (a b c : Int) (l : List ByteArray) (a' b' c' : Int) (l' : List ByteArray) (hl : l.length ≤ 9223372036854775807) (hs : ∀ x ∈ l, x.size ≤ 9223372036854775807) (hs' : ∀ x ∈ l', x.size ≤ 9223372036854775807) :
    Ev (fun k => impl_LessVer.f k a b c l a' b' c' l') (lessV a b c l a' b' c' l') := by
  unfold impl_LessVer.f
  refine Ev.bind (compareVer _ _ _ _ _ _ _ _ hl hs hs') ?_
  rw [cmpV_neg]
  exact Ev.some
end Go.Proofs.Ytfbbagddhfeefaa.Pure
/- What SameVer comes to, of the reference and of the program. -/
namespace Go.Proofs.Ytfbbagddhfeefaa.Pure
open Go.RowKit Go.Proofs.Ytfbbagddhfeefaa.PGL Go.Proofs.YtfbbagddhfeefaaW.PrintWords Go.Proofs.YtfbbagddhfeefaaW.PrintLast Go.Proofs.Ytfbbagddhfeefaa.Aux

theorem sameTexts_l (a b : List ByteArray) (hl : a.length ≤ 9223372036854775807) (hab : a.length = b.length) (d : Nat) : ∀ i : Nat, i + d = a.length →
    Ev (fun k => spec_l2SameTexts.l0 k a b (i : Int)) (decide (a.drop i = b.drop i)) := by
  induction d with
  | zero =>
    intro i hi
    have h1 : ¬ (i : Int) < (a.length : Int) := by omega
    refine Ev.succ ?_
    rw [List.drop_eq_nil_of_le (by omega), List.drop_eq_nil_of_le (by omega)]
    simp only [spec_l2SameTexts.l0, h1, if_false, decide_true]
    exact Ev.some
  | succ d ih =>
    intro i hi
    have hlt : i < a.length := by omega
    have hlb : i < b.length := by omega
    have h1 : (i : Int) < (a.length : Int) := by omega
    have h1b : (i : Int) < (b.length : Int) := by omega
    have h2 : (0 : Int) ≤ (i : Int) := by omega
    have h3 := next_i hlt hl
    refine Ev.succ ?_
    rw [drop_get hlt, drop_get hlb]
    simp only [spec_l2SameTexts.l0, h1, h1b, h2, h3, if_true, rdOf_cast _ hlt, rdOf_cast _ hlb, toList_inj]
    by_cases h : a[i] = b[i]
    · simp only [h, if_true, List.cons.injEq, true_and]
      exact ih (i + 1) (by omega)
    · simp only [h, if_false, List.cons.injEq, false_and, decide_false]
      exact Ev.some
theorem sameTexts (a b : List ByteArray) (hl : a.length ≤ 9223372036854775807) : Ev (fun k => spec_l2SameTexts.f k a b) (decide (a = b)) := by
  unfold spec_l2SameTexts.f
  by_cases h : (a.length : Int) = (b.length : Int)
  · simp only [h, if_true]
    refine Ev.succ ?_
    simp only [spec_l2SameTexts.j0]
    exact sameTexts_l a b hl (by omega) a.length 0 (by omega)
  · simp only [h, if_false]
    have : ¬ a = b := fun e => h (by rw [e])
    simp only [this, decide_false]
    exact Ev.some
theorem slicesEqual_l (a b : List ByteArray) (hl : a.length ≤ 9223372036854775807) (hab : a.length = b.length) (d : Nat) : ∀ i : Nat, i + d = a.length →
    Ev (fun k => slices_Equal_string_string.l0 k a b (a.length : Int) (i : Int)) (decide (a.drop i = b.drop i)) := by
  induction d with
  | zero =>
    intro i hi
    have h1 : ¬ (i : Int) < (a.length : Int) := by omega
    refine Ev.succ ?_
    rw [List.drop_eq_nil_of_le (by omega), List.drop_eq_nil_of_le (by omega)]
    simp only [slices_Equal_string_string.l0, h1, if_false, decide_true]
    exact Ev.some
  | succ d ih =>
    intro i hi
    have hlt : i < a.length := by omega
    have hlb : i < b.length := by omega
    have h1 : (i : Int) < (a.length : Int) := by omega
    have h1b : (i : Int) < (b.length : Int) := by omega
    have h2 : (0 : Int) ≤ (i : Int) := by omega
    have h3 := next_i hlt hl
    refine Ev.succ ?_
    rw [drop_get hlt, drop_get hlb]
    simp only [slices_Equal_string_string.l0, h1, h1b, h2, h3, if_true, rdOf_cast _ hlt, rdOf_cast _ hlb, toList_inj]
    by_cases h : a[i] = b[i]
    · simp only [h, if_true, List.cons.injEq, true_and]
      exact ih (i + 1) (by omega)
    · simp only [h, if_false, List.cons.injEq, false_and, decide_false]
      exact Ev.some
theorem slicesEqual (a b : List ByteArray) (hl : a.length ≤ 9223372036854775807) : Ev (fun k => slices_Equal_string_string.f k a b) (decide (a = b)) := by
  unfold slices_Equal_string_string.f
  by_cases h : (a.length : Int) = (b.length : Int)
  · simp only [h, if_true]
    refine Ev.succ ?_
    simp only [slices_Equal_string_string.j0, ← h]
    exact slicesEqual_l a b hl (by omega) a.length 0 (by omega)
  · simp only [h, if_false]
    have : ¬ a = b := fun e => h (by rw [e])
    simp only [this, decide_false]
    exact Ev.some
def sameV (a b c : Int) (l : List ByteArray) (a' b' c' : Int) (l' : List ByteArray) : Bool := decide (a = a') && (decide (b = b') && (decide (c = c') && decide (l = l')))

theorem spec_same (a b c : Int) (l : List ByteArray) (a' b' c' : Int) (l' : List ByteArray) (hl : l.length ≤ 9223372036854775807) :
    Ev (fun k => spec_SameVer.f k a b c l a' b' c' l') (sameV a b c l a' b' c' l') := by
  unfold spec_SameVer.f spec_l3SameCore.f sameV
  have hs := sameTexts l l' hl
  rw [show (c == c') = decide (c = c') from rfl]
  by_cases h1 : a = a' <;> by_cases h2 : b = b' <;> by_cases h3 : c = c' <;> simp only [h1, h2, h3, if_true, if_false, Option.bind_some, decide_true, decide_false, Bool.true_and, Bool.false_and, Bool.false_eq_true]
  all_goals first | exact Ev.some | exact Ev.bind hs Ev.some
theorem impl_same (a b c : Int) (l : List ByteArray) (a' b' c' : Int) (l' : List ByteArray) (hl : l.length ≤ 9223372036854775807) :
    Ev (fun k => impl_SameVer.f k a b c l a' b' c' l') (sameV a b c l a' b' c' l') := by
  unfold impl_SameVer.f sameV
  have hs := slicesEqual l l' hl
  by_cases h1 : a = a' <;> by_cases h2 : b = b' <;> by_cases h3 : c = c' <;> simp only [h1, h2, h3, if_true, if_false, decide_true, decide_false, Bool.true_and, Bool.false_and]
  all_goals first | exact Ev.some | exact Ev.bind hs Ev.some

end Go.Proofs.Ytfbbagddhfeefaa.Pure
/- What VerOk comes to, of the reference and of the program. -/
namespace Go.Proofs.Ytfbbagddhfeefaa.Pure
open Go.RowKit Go.Proofs.Ytfbbagddhfeefaa.PGL Go.Proofs.YtfbbagddhfeefaaW.PrintWords Go.Proofs.YtfbbagddhfeefaaW.PrintLast Go.Proofs.Ytfbbagddhfeefaa.Aux

def preC (x : Int) : Bool := smallB x || upperB x || digitB x || decide (x = 45)
def preEnd (s : ByteArray) : Bool := inB s.size 1 8 && (!digitsB s || decide (s.size = 1) || decide (bt s 0 ≠ 48))
def preB (s : ByteArray) : Bool := (bs s).all preC && preEnd s

theorem spec_part_l (s : ByteArray) (hs : s.size ≤ 9223372036854775807) (d : Nat) : ∀ i : Nat, i + d = s.size → Ev (fun k => spec_l3Part.l0 k s (i : Int)) (((bs s).drop i).all preC && preEnd s) := by
  induction d with
  | zero =>
    intro i hi
    have h1 : ¬ (i : Int) < (s.size : Int) := by omega
    refine Ev.succ ?_
    simp only [spec_l3Part.l0, h1, if_false, bs_end (show s.size ≤ i by omega), List.all_nil, Bool.true_and, in_f, Option.bind_some, preEnd]
    cases hb : inB (s.size : Int) 1 8 with
    | false => simpa using Ev.some
    | true =>
      simp only [if_true, Bool.true_and]
      refine Ev.bind (spec_digits s hs) ?_
      cases hd : digitsB s with
      | false => simpa using Ev.some
      | true =>
        have hpos : (0 : Int) < (s.size : Int) := by simp [inB] at hb; omega
        simp only [if_true, hpos, Bool.not_true, Bool.false_or]
        by_cases he : (s.size : Int) = 1
        · simp only [he, if_true]
          refine Ev.cast Ev.some ?_
          simp [show s.size = 1 by omega]
        · simp only [he, if_false]
          refine Ev.cast Ev.some ?_
          simp only [show ¬ s.size = 1 by omega, decide_false, Bool.false_or]
          by_cases h0 : bt s 0 = 48 <;> simp [h0]
  | succ d ih =>
    intro i hi
    have h1 : (i : Int) < (s.size : Int) := by omega
    have h2 : (0 : Int) ≤ (i : Int) := by omega
    have h3 := next_i (show i < s.size by omega) hs
    have ih' := ih (i + 1) (by omega)
    have hr := bt_range s i
    refine Ev.succ ?_
    rw [bs_drop (by omega), List.all_cons]
    simp only [spec_l3Part.l0, h1, if_true]
    refine Ev.succ ?_
    simp only [spec_l3Part.j1, h1, h2, h3, if_true, digit_spec hr, small_spec hr, wrap64_id (show -9223372036854775808 ≤ bt s (i : Int) by omega) (show bt s (i : Int) ≤ 9223372036854775807 by omega), in_f, Option.bind_some, preC]
    cases hp : digitB (bt s (i : Int)) with
    | true => simpa using ih'
    | false =>
      cases hq : smallB (bt s (i : Int)) with
      | true => simpa using ih'
      | false =>
        cases hu : inB (bt s (i : Int)) 65 90 with
        | true => simpa [upperB, hu] using ih'
        | false =>
          by_cases he : bt s (i : Int) = 45
          · simpa [he] using ih'
          · simpa [upperB, hu, he] using Ev.some
theorem spec_part (s : ByteArray) (hs : s.size ≤ 9223372036854775807) : Ev (fun k => spec_l3Part.f k s) (preB s) := spec_part_l s hs s.size 0 (by omega)

theorem one_zero (s : ByteArray) : s.toList = ([48] : List UInt8) ↔ (s.size = 1 ∧ bt s 0 = 48) := by
  rw [toList_data]
  constructor
  · intro h
    have hl : s.size = 1 := by
      have := congrArg List.length h
      simpa using this
    refine ⟨hl, ?_⟩
    rw [bt_bs]
    unfold bs
    rw [h]
    rfl
  · rintro ⟨h1, h2⟩
    rw [bt_bs] at h2
    have hb : bs s = [48] := by
      have hl := bs_length s
      rw [h1] at hl
      match hq : bs s, hl with
      | [x], _ =>
        rw [hq] at h2
        simp at h2
        rw [h2]
    unfold bs at hb
    match hq : s.data.toList with
    | [] => rw [hq] at hb; cases hb
    | [x] =>
      rw [hq] at hb
      simp at hb
      have : x = 48 := by
        apply UInt8.toNat_inj.1
        simp
        omega
      rw [this]
    | x :: y :: r => rw [hq] at hb; simp at hb

theorem impl_pre_l (s : ByteArray) (hs : s.size ≤ 9223372036854775807) (d : Nat) : ∀ i : Nat, i + d = s.size → Ev (fun k => impl_preOk.l0 k s (i : Int)) (((bs s).drop i).all preC && preEnd s) := by
  induction d with
  | zero =>
    intro i hi
    have h1 : ¬ (i : Int) < (s.size : Int) := by omega
    refine Ev.succ ?_
    simp only [impl_preOk.l0, h1, if_false, bs_end (show s.size ≤ i by omega), List.all_nil, Bool.true_and, inRange_f, Option.bind_some, preEnd]
    cases hb : inB (s.size : Int) 1 8 with
    | false => simpa using Ev.some
    | true =>
      simp only [if_true, Bool.true_and]
      have hpos : (0 : Int) < (s.size : Int) := by simp [inB] at hb; omega
      refine Ev.bind (impl_figures s hs) ?_
      simp only [show s.size ≠ 0 by omega, ne_eq, not_false_eq_true, decide_true, Bool.and_true]
      cases hd : digitsB s with
      | false => simpa using Ev.some
      | true =>
        simp only [if_true, hpos, Bool.not_true, Bool.false_or, one_zero]
        by_cases he : s.size = 1
        · by_cases h0 : bt s 0 = 48
          · simp only [he, h0, and_self, if_true]
            exact Ev.some
          · simp only [he, h0, and_false, if_false]
            refine Ev.cast Ev.some ?_
            simp [h0]
        · simp only [he, false_and, if_false]
          refine Ev.cast Ev.some ?_
          simp only [decide_false, Bool.false_or]
          by_cases h0 : bt s 0 = 48 <;> simp [h0]
  | succ d ih =>
    intro i hi
    have h1 : (i : Int) < (s.size : Int) := by omega
    have h2 : (0 : Int) ≤ (i : Int) := by omega
    have h3 := next_i (show i < s.size by omega) hs
    have ih' := ih (i + 1) (by omega)
    have hr := bt_range s i
    refine Ev.succ ?_
    rw [bs_drop (by omega), List.all_cons]
    simp only [impl_preOk.l0, h1, if_true]
    refine Ev.succ ?_
    simp only [impl_preOk.j1, h1, h2, h3, if_true, digit_impl, small_impl, Option.bind_some, preC, upperB, inB, ge_iff_le]
    cases hq : smallB (bt s (i : Int)) with
    | true => simpa using ih'
    | false =>
      by_cases ha : 65 ≤ bt s (i : Int)
      · by_cases hb : bt s (i : Int) ≤ 90
        · simpa [ha, hb] using ih'
        · cases hp : digitB (bt s (i : Int)) with
          | true => simpa [ha, hb] using ih'
          | false =>
            by_cases he : bt s (i : Int) = 45
            · simp [he] at ha
            · simpa [ha, hb, he] using Ev.some
      · cases hp : digitB (bt s (i : Int)) with
        | true => simpa [ha] using ih'
        | false =>
          by_cases he : bt s (i : Int) = 45
          · simpa [he] using ih'
          · simpa [ha, he] using Ev.some
theorem impl_pre (s : ByteArray) (hs : s.size ≤ 9223372036854775807) : Ev (fun k => impl_preOk.f k s) (preB s) := impl_pre_l s hs s.size 0 (by omega)

def verEnd (a b c : Int) (l : List ByteArray) : Bool := inB a 0 9999 && (inB b 0 9999 && (inB c 0 9999 && decide ((l.length : Int) ≤ 3)))
def verB (a b c : Int) (l : List ByteArray) : Bool := l.all preB && verEnd a b c l

theorem spec_ver_l (a b c : Int) (l : List ByteArray) (hl : l.length ≤ 9223372036854775807) (hs : ∀ x ∈ l, x.size ≤ 9223372036854775807) (d : Nat) : ∀ i : Nat, i + d = l.length → Ev (fun k => spec_VerOk.l0 k (i : Int) a b c l) ((l.drop i).all preB && verEnd a b c l) := by
  induction d with
  | zero =>
    intro i hi
    have h1 : ¬ (i : Int) < (l.length : Int) := by omega
    refine Ev.succ ?_
    rw [List.drop_eq_nil_of_le (by omega)]
    simp only [spec_VerOk.l0, h1, if_false, List.all_nil, Bool.true_and, in_f, Option.bind_some, verEnd]
    cases inB a 0 9999 <;> cases inB b 0 9999 <;> cases inB c 0 9999 <;> simpa using Ev.some
  | succ d ih =>
    intro i hi
    have hlt : i < l.length := by omega
    have h1 : (i : Int) < (l.length : Int) := by omega
    have h2 : (0 : Int) ≤ (i : Int) := by omega
    have h3 := next_i hlt hl
    have ih' := ih (i + 1) (by omega)
    refine Ev.succ ?_
    rw [drop_get hlt, List.all_cons]
    simp only [spec_VerOk.l0, h1, h2, h3, if_true, rdOf_cast _ hlt]
    refine Ev.bind (spec_part l[i] (hs _ (List.getElem_mem hlt))) ?_
    cases hp : preB l[i] with
    | true => simpa using ih'
    | false => simpa using Ev.some
theorem spec_ver (a b c : Int) (l : List ByteArray) (hl : l.length ≤ 9223372036854775807) (hs : ∀ x ∈ l, x.size ≤ 9223372036854775807) : Ev (fun k => spec_VerOk.f k a b c l) (verB a b c l) := spec_ver_l a b c l hl hs l.length 0 (by omega)

theorem impl_ver_l (a b c : Int) (l : List ByteArray) (hl : l.length ≤ 9223372036854775807) (hs : ∀ x ∈ l, x.size ≤ 9223372036854775807) (d : Nat) : ∀ i : Nat, i + d = l.length → Ev (fun k => impl_VerOk.l0 k l (l.length : Int) (i : Int) a b c l) ((l.drop i).all preB && verEnd a b c l) := by
  induction d with
  | zero =>
    intro i hi
    have h1 : ¬ (i : Int) < (l.length : Int) := by omega
    refine Ev.succ ?_
    rw [List.drop_eq_nil_of_le (by omega)]
    simp only [impl_VerOk.l0, h1, if_false, List.all_nil, Bool.true_and, inRange_f, Option.bind_some, verEnd]
    cases inB a 0 9999 <;> cases inB b 0 9999 <;> cases inB c 0 9999 <;> simpa using Ev.some
  | succ d ih =>
    intro i hi
    have hlt : i < l.length := by omega
    have h1 : (i : Int) < (l.length : Int) := by omega
    have h2 : (0 : Int) ≤ (i : Int) := by omega
    have h3 := next_i hlt hl
    have ih' := ih (i + 1) (by omega)
    refine Ev.succ ?_
    rw [drop_get hlt, List.all_cons]
    simp only [impl_VerOk.l0, h1, h2, h3, if_true, rdOf_cast _ hlt]
    refine Ev.bind (impl_pre l[i] (hs _ (List.getElem_mem hlt))) ?_
    cases hp : preB l[i] with
    | true => simpa using ih'
    | false => simpa using Ev.some
theorem impl_ver (a b c : Int) (l : List ByteArray) (hl : l.length ≤ 9223372036854775807) (hs : ∀ x ∈ l, x.size ≤ 9223372036854775807) : Ev (fun k => impl_VerOk.f k a b c l) (verB a b c l) := impl_ver_l a b c l hl hs l.length 0 (by omega)

end Go.Proofs.Ytfbbagddhfeefaa.Pure

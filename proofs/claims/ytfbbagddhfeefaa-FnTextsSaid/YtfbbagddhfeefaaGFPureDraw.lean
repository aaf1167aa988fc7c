/- What the draws come to: their values' bounds. -/
import Derived.Test.YtfbbagddhfeefaaAux
import Derived.Test.YtfbbagddhfeefaaPGFx1
import Derived.Test.YtfbbagddhfeefaaPGFx2
set_option linter.unusedVariables false
set_option linter.unusedSimpArgs false
namespace Go.Proofs.Ytfbbagddhfeefaa.Pure
open Go.RowKit Go.Proofs.Ytfbbagddhfeefaa.PGF Go.Proofs.YtfbbagddhfeefaaW.PrintWords Go.Proofs.YtfbbagddhfeefaaW.PrintLast Go.Proofs.Ytfbbagddhfeefaa.Aux

/-- With enough rounds there is an answer, of which p holds. -/
def Got {α : Type} (g : Nat → Option α) (p : α → Prop) : Prop := ∃ r, Ev g r ∧ p r
theorem Got.bind {α β : Type} {g : Nat → Option α} {f : Nat → α → Option β} {p : α → Prop} {q : β → Prop} (h : Got g p) (h' : ∀ r, p r → Got (fun k => f k r) q) : Got (fun k => (g k).bind (f k)) q := by
  obtain ⟨r, hr, hp⟩ := h
  obtain ⟨s, hs, hq⟩ := h' r hp
  exact ⟨s, Ev.bind hr hs, hq⟩
theorem Got.some {α : Type} {r : α} {p : α → Prop} (h : p r) : Got (fun _ => Option.some r) p := ⟨r, Ev.some, h⟩
theorem Got.succ {α : Type} {g : Nat → Option α} {p : α → Prop} (h : Got (fun k => g (k + 1)) p) : Got g p := by
  obtain ⟨r, hr, hp⟩ := h
  exact ⟨r, Ev.succ hr, hp⟩
theorem Got.const {α : Type} {o : Option α} {p : α → Prop} (h : ∃ r, o = Option.some r ∧ p r) : Got (fun _ => o) p := by
  obtain ⟨r, e, hp⟩ := h
  exact ⟨r, Ev.const e, hp⟩
theorem Got.of {α : Type} {g : Nat → Option α} {r : α} {p : α → Prop} (h : Ev g r) (hp : p r) : Got g p := ⟨r, h, hp⟩
theorem Got.mono {α : Type} {g : Nat → Option α} {p q : α → Prop} (h : Got g p) (hpq : ∀ r, p r → q r) : Got g q := by
  obtain ⟨r, hr, hp⟩ := h
  exact ⟨r, hr, hpq r hp⟩
theorem Got.cond {α : Type} {c : Prop} [Decidable c] {g f : Nat → Option α} {p : α → Prop} (h : c → Got g p) (h' : ¬c → Got f p) : Got (fun k => if c then g k else f k) p := by
  by_cases hc : c
  · simpa only [hc, if_true] using h hc
  · simpa only [hc, if_false] using h' hc
theorem Got.ev {α : Type} {g : Nat → Option α} {s : α} (h : Got g (fun r => r = s)) : Ev g s := by
  obtain ⟨r, hr, rfl⟩ := h
  exact hr

/-- A cursor stands within its bytes. -/
def Cur (b : List Int) (i : Int) : Prop := 0 ≤ i ∧ i ≤ (b.length : Int) ∧ b.length ≤ 140737488355328

theorem and255 (x : Int) : 0 ≤ Go.bits .and .i64 x 255 ∧ Go.bits .and .i64 x 255 ≤ 255 := by
  have h : (BitVec.ofInt 64 x &&& BitVec.ofInt 64 255).toNat ≤ 255 := by
    rw [BitVec.toNat_and]
    exact Nat.and_le_right
  have e : Go.bits .and .i64 x 255 = IntKind.wrap .i64 ((BitVec.ofInt 64 x &&& BitVec.ofInt 64 255).toNat : Int) := rfl
  rw [e, IntKind.wrap_i64]
  omega
theorem draw_byte (b : List Int) (i h : Int) (hc : Cur b i) : ∃ r, spec_l1Byte.f b i h = some r ∧ (0 ≤ r.1 ∧ r.1 ≤ 255) ∧ Cur b r.2.1 := by
  obtain ⟨c0, c1, c2⟩ := hc
  unfold spec_l1Byte.f
  by_cases h1 : i < (b.length : Int)
  · simp only [h1, c0, if_true]
    refine ⟨_, rfl, and255 _, ?_⟩
    show Cur b (wrap64 (i + 1))
    rw [wrap64_id (by omega) (by omega)]
    exact ⟨by omega, by omega, c2⟩
  · simp only [h1, if_false]
    exact ⟨_, rfl, and255 _, c0, c1, c2⟩
theorem draw_below (b : List Int) (i h n : Int) (hn : 0 < n) (hn' : n ≤ 9223372036854775807) (hc : Cur b i) : Got (fun k => spec_l1Below.f k b i h n) fun r => (0 ≤ r.1 ∧ r.1 < n) ∧ Cur b r.2.1 := by
  have tm : ∀ x : Int, 0 ≤ x → 0 ≤ Int.tmod x n ∧ Int.tmod x n < n := by
    intro x hx
    rw [Int.tmod_eq_emod_of_nonneg hx]
    exact ⟨Int.emod_nonneg _ (by omega), Int.emod_lt_of_pos _ hn⟩
  unfold spec_l1Below.f
  simp only [show ¬ n ≤ 0 by omega, if_false]
  refine Got.succ ?_
  simp only [spec_l1Below.j0, show ¬ n = 0 by omega, if_false]
  refine Got.cond (fun _ => ?_) (fun _ => ?_)
  · refine Got.bind (Got.const (draw_byte b i h hc)) fun r hr => Got.some ?_
    exact ⟨tm _ hr.1.1, hr.2⟩
  · refine Got.bind (Got.const (draw_byte b i h hc)) fun r hr => ?_
    refine Got.bind (Got.const (draw_byte b _ _ hr.2)) fun r2 hr2 => ?_
    refine Got.bind (Got.const (draw_byte b _ _ hr2.2)) fun r3 hr3 => Got.some ?_
    obtain ⟨a1, a2⟩ := hr.1
    obtain ⟨b1, b2⟩ := hr2.1
    obtain ⟨c1, c2⟩ := hr3.1
    refine ⟨tm _ ?_, hr3.2⟩
    rw [wrap64_id (i := r.1 * 65536) (by omega) (by omega), wrap64_id (i := r2.1 * 256) (by omega) (by omega), wrap64_id (i := r.1 * 65536 + r2.1 * 256) (by omega) (by omega), wrap64_id (by omega) (by omega)]
    omega
theorem draw_once (b : List Int) (i h n : Int) (hn : 0 < n) (hn' : n ≤ 9223372036854775807) (hc : Cur b i) : Got (fun k => spec_l1Once.f k b i h n) fun r => Cur b r.2.1 := by
  unfold spec_l1Once.f
  exact Got.bind (draw_below b i h n hn hn' hc) fun r hr => Got.some hr.2
theorem draw_str (b : List Int) (i h : Int) (l : List ByteArray) (hl : 0 < l.length) (hl' : l.length ≤ 1000000) (hc : Cur b i) : Got (fun k => spec_l1Str.f k b i h l) fun r => r.1 ∈ l ∧ Cur b r.2.1 := by
  unfold spec_l1Str.f
  refine Got.bind (draw_below b i h _ (by omega) (by omega) hc) fun r hr => ?_
  obtain ⟨⟨h0, h1⟩, h2⟩ := hr
  simp only [h0, h1, if_true]
  refine Got.some ⟨?_, h2⟩
  obtain ⟨j, hj⟩ := Int.eq_ofNat_of_zero_le h0
  rw [hj]
  have hlt : j < l.length := by omega
  show rdOf ByteArray.empty l (j : Int) ∈ l
  rw [rdOf_cast _ hlt]
  exact List.getElem_mem hlt
theorem draw_int (b : List Int) (i h : Int) (l : List Int) (hl : 0 < l.length) (hl' : l.length ≤ 1000000) (hc : Cur b i) : Got (fun k => spec_l1Int.f k b i h l) fun r => r.1 ∈ l ∧ Cur b r.2.1 := by
  unfold spec_l1Int.f
  refine Got.bind (draw_below b i h _ (by omega) (by omega) hc) fun r hr => ?_
  obtain ⟨⟨h0, h1⟩, h2⟩ := hr
  simp only [h0, h1, if_true]
  refine Got.some ⟨?_, h2⟩
  obtain ⟨j, hj⟩ := Int.eq_ofNat_of_zero_le h0
  rw [hj]
  have hlt : j < l.length := by omega
  show rd l (j : Int) ∈ l
  rw [rd_cast hlt]
  exact List.getElem_mem hlt
theorem draw_text (b : List Int) (i h : Int) (hc : Cur b i) : Got (fun k => spec_l1Text.f k b i h) fun r => r.1.size ≤ 11 ∧ Cur b r.2.1 := by
  unfold spec_l1Text.f
  refine Got.bind (draw_str b i h _ (by simp) (by simp) hc) fun r hr => Got.some ⟨?_, hr.2⟩
  have hm := hr.1
  simp only [List.mem_cons, List.not_mem_nil, or_false] at hm
  rcases hm with e | e | e | e | e | e | e | e | e | e | e | e | e | e | e | e <;> rw [e] <;> decide
theorem draw_bytes_l (b : List Int) (n : Nat) (hn : n ≤ 1000000) (d : Nat) : ∀ (j : Nat) (x : List Int) (i h : Int), j + d = n → Cur b i → x.length = j → (∀ z ∈ x, 0 ≤ z ∧ z ≤ 255) →
    Got (fun k => spec_l1Bytes.l0 k (n : Int) x (j : Int) b i h) fun r => (r.1.length = n ∧ ∀ z ∈ r.1, 0 ≤ z ∧ z ≤ 255) ∧ Cur b r.2.1 := by
  induction d with
  | zero =>
    intro j x i h hj hc hx hz
    refine Got.succ ?_
    simp only [spec_l1Bytes.l0, show ¬ (j : Int) < (n : Int) by omega, if_false]
    exact Got.some ⟨⟨by show x.length = n; omega, hz⟩, hc⟩
  | succ d ih =>
    intro j x i h hj hc hx hz
    refine Got.succ ?_
    simp only [spec_l1Bytes.l0, show (j : Int) < (n : Int) by omega, if_true]
    refine Got.bind (Got.const (draw_byte b i h hc)) fun r hr => ?_
    simp only [show x.length < 140737488355328 by omega, if_true, next_i (show j < n by omega) (by omega)]
    refine ih (j + 1) _ _ _ (by omega) hr.2 (by simp [hx]) ?_
    intro z hz'
    rcases List.mem_append.1 hz' with hz' | hz'
    · exact hz z hz'
    · rw [List.mem_singleton.1 hz']; omega
theorem draw_bytes (b : List Int) (i h : Int) (n : Int) (h0 : 0 ≤ n) (hn : n ≤ 1000000) (hc : Cur b i) : Got (fun k => spec_l1Bytes.f k b i h n) fun r => ((r.1.length : Int) = n ∧ ∀ z ∈ r.1, 0 ≤ z ∧ z ≤ 255) ∧ Cur b r.2.1 := by
  unfold spec_l1Bytes.f
  obtain ⟨m, rfl⟩ := Int.eq_ofNat_of_zero_le h0
  refine Got.mono (draw_bytes_l b m (by omega) m 0 [] i h (by omega) hc rfl (by simp)) fun r hr => ⟨⟨by omega, hr.1.2⟩, hr.2⟩
theorem draw_new_l (l : List Int) (hl : l.length ≤ 1000000000) (d : Nat) : ∀ (j : Nat) (x : Int), j + d = l.length → Got (fun k => spec_l1New.l0 k l x (j : Int)) fun r => r.1 = l ∧ r.2.1 = 0 := by
  induction d with
  | zero =>
    intro j x hj
    refine Got.succ ?_
    simp only [spec_l1New.l0, show ¬ (j : Int) < (l.length : Int) by omega, if_false]
    exact Got.some ⟨rfl, rfl⟩
  | succ d ih =>
    intro j x hj
    refine Got.succ ?_
    simp only [spec_l1New.l0, show (j : Int) < (l.length : Int) by omega, if_true, show (0 : Int) ≤ (j : Int) by omega, next_i (show j < l.length by omega) (by omega)]
    exact Got.cond (fun _ => ih (j + 1) _ (by omega)) (fun _ => Got.some ⟨rfl, rfl⟩)
theorem draw_new (l : List Int) (hl : l.length ≤ 1000000000) : Got (fun k => spec_l1New.f k l) fun r => r.1 = l ∧ r.2.1 = 0 := draw_new_l l hl l.length 0 _ (by omega)
theorem cur_new {l : List Int} (hl : l.length ≤ 1000000000) {r : List Int × Int × Int} (h : r.1 = l ∧ r.2.1 = 0) : Cur r.1 r.2.1 := by
  obtain ⟨h1, h2⟩ := h
  rw [h1, h2]
  exact ⟨by omega, by omega, by omega⟩
end Go.Proofs.Ytfbbagddhfeefaa.Pure

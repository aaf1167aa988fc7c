/- What may come in, and each law's one statement over numbers and lists. -/
import Derived.Test.YtfbbagddhfeefaaPGAx0
import Derived.Test.YtfbbagddhfeefaaOpen
set_option linter.unusedVariables false
set_option linter.unusedSimpArgs false
namespace Go.Proofs.Ytfbbagddhfeefaa.PGA
open Go.RowKit Go.Proofs.YtfbbagddhfeefaaW.PrintWords Go.Proofs.Ytfbbagddhfeefaa Go.ChangeShapes Go.WideShapes
def ok127 (x : S127) : Prop := (x.f0.size ≤ maxLen) ∧ (x.f1.size ≤ maxLen)
theorem sz_127 : k127.sz = 2 := rfl
theorem opn127 (m : Nat) : Open.Opn Try.prog k127 127 ok127 m := by
  refine ⟨?_⟩
  intro H enc w spare held fuel cs x hm h hl
  obtain ⟨xs, n, hn, _, hlen, hsz, hf⟩ := DataW.trod_struct Try.underlying127 h
  rw [sz_127] at hl
  obtain ⟨a0, h0, o0⟩ := Open.field_of (d := Kd.string) (Ok := (fun s : ByteArray => s.size ≤ maxLen)) 0 0 hsz hf rfl rfl (by kernel_rfl) (by rw [hl]; decide) (Open.Opn.string Try.underlying9)
  obtain ⟨a1, h1, o1⟩ := Open.field_of (d := Kd.string) (Ok := (fun s : ByteArray => s.size ≤ maxLen)) 1 1 hsz hf rfl rfl (by kernel_rfl) (by rw [hl]; decide) (Open.Opn.string Try.underlying9)
  exact ⟨(⟨a0, a1⟩ : S127), Open.first_of ((Open.pair_cons (A := Kd.string) 0 h0 (Open.last_of (d := Kd.string) 1 (by rw [hl]; rfl) h1))), ⟨o0, o1⟩⟩
def ok197 (x : S197) : Prop := (x.f0.size ≤ maxLen) ∧ (x.f1.size ≤ maxLen)
theorem sz_197 : k197.sz = 2 := rfl
theorem opn197 (m : Nat) : Open.Opn Try.prog k197 197 ok197 m := by
  refine ⟨?_⟩
  intro H enc w spare held fuel cs x hm h hl
  obtain ⟨xs, n, hn, _, hlen, hsz, hf⟩ := DataW.trod_struct Try.underlying197 h
  rw [sz_197] at hl
  obtain ⟨a0, h0, o0⟩ := Open.field_of (d := Kd.string) (Ok := (fun s : ByteArray => s.size ≤ maxLen)) 0 0 hsz hf rfl rfl (by kernel_rfl) (by rw [hl]; decide) (Open.Opn.string Try.underlying9)
  obtain ⟨a1, h1, o1⟩ := Open.field_of (d := Kd.string) (Ok := (fun s : ByteArray => s.size ≤ maxLen)) 1 1 hsz hf rfl rfl (by kernel_rfl) (by rw [hl]; decide) (Open.Opn.string Try.underlying9)
  exact ⟨(⟨a0, a1⟩ : S197), Open.first_of ((Open.pair_cons (A := Kd.string) 0 h0 (Open.last_of (d := Kd.string) 1 (by rw [hl]; rfl) h1))), ⟨o0, o1⟩⟩
def ok199 (x : S199) : Prop := (x.f0.size ≤ maxLen) ∧ ((x.f1.length ≤ maxLen ∧ ∀ y_ ∈ x.f1, y_.size ≤ maxLen))
theorem sz_199 : k199.sz = 2 := rfl
theorem opn199 (m : Nat) : Open.Opn Try.prog k199 199 ok199 m := by
  refine ⟨?_⟩
  intro H enc w spare held fuel cs x hm h hl
  obtain ⟨xs, n, hn, _, hlen, hsz, hf⟩ := DataW.trod_struct Try.underlying199 h
  rw [sz_199] at hl
  obtain ⟨a0, h0, o0⟩ := Open.field_of (d := Kd.string) (Ok := (fun s : ByteArray => s.size ≤ maxLen)) 0 0 hsz hf rfl rfl (by kernel_rfl) (by rw [hl]; decide) (Open.Opn.string Try.underlying9)
  obtain ⟨a1, h1, o1⟩ := Open.field_of (d := (Kd.slice 9 Kd.string)) (Ok := (fun xs : List ByteArray => xs.length ≤ maxLen ∧ ∀ x ∈ xs, (fun s : ByteArray => s.size ≤ maxLen) x)) 1 1 hsz hf rfl rfl (by kernel_rfl) (by rw [hl]; decide) (Open.Opn.slice (Ok := (fun s : ByteArray => s.size ≤ maxLen)) Try.underlying22 (by kernel_rfl) (fun m' _ => (Open.Opn.string Try.underlying9)))
  exact ⟨(⟨a0, a1⟩ : S199), Open.first_of ((Open.pair_cons (A := Kd.string) 0 h0 (Open.last_of (d := (Kd.slice 9 Kd.string)) 1 (by rw [hl]; rfl) h1))), ⟨o0, o1⟩⟩
def ok90 (x : S90) : Prop := (x.f0.size ≤ maxLen) ∧ ((x.f1.length ≤ maxLen ∧ ∀ y_ ∈ x.f1, y_.size ≤ maxLen)) ∧ ((x.f2.length ≤ maxLen ∧ ∀ y_ ∈ x.f2, ok197 y_)) ∧ ((x.f3.length ≤ maxLen ∧ ∀ y_ ∈ x.f3, ok199 y_))
theorem sz_90 : k90.sz = 4 := rfl
theorem opn90 (m : Nat) : Open.Opn Try.prog k90 90 ok90 m := by
  refine ⟨?_⟩
  intro H enc w spare held fuel cs x hm h hl
  obtain ⟨xs, n, hn, _, hlen, hsz, hf⟩ := DataW.trod_struct Try.underlying90 h
  rw [sz_90] at hl
  obtain ⟨a0, h0, o0⟩ := Open.field_of (d := Kd.string) (Ok := (fun s : ByteArray => s.size ≤ maxLen)) 0 0 hsz hf rfl rfl (by kernel_rfl) (by rw [hl]; decide) (Open.Opn.string Try.underlying9)
  obtain ⟨a1, h1, o1⟩ := Open.field_of (d := (Kd.slice 9 Kd.string)) (Ok := (fun xs : List ByteArray => xs.length ≤ maxLen ∧ ∀ x ∈ xs, (fun s : ByteArray => s.size ≤ maxLen) x)) 1 1 hsz hf rfl rfl (by kernel_rfl) (by rw [hl]; decide) (Open.Opn.slice (Ok := (fun s : ByteArray => s.size ≤ maxLen)) Try.underlying22 (by kernel_rfl) (fun m' _ => (Open.Opn.string Try.underlying9)))
  obtain ⟨a2, h2, o2⟩ := Open.field_of (d := (Kd.slice 197 k197)) (Ok := (fun xs : List (S197) => xs.length ≤ maxLen ∧ ∀ x ∈ xs, ok197 x)) 2 2 hsz hf rfl rfl (by kernel_rfl) (by rw [hl]; decide) (Open.Opn.slice (Ok := ok197) Try.underlying87 (by kernel_rfl) (fun m' _ => (opn197 m')))
  obtain ⟨a3, h3, o3⟩ := Open.field_of (d := (Kd.slice 199 k199)) (Ok := (fun xs : List (S199) => xs.length ≤ maxLen ∧ ∀ x ∈ xs, ok199 x)) 3 3 hsz hf rfl rfl (by kernel_rfl) (by rw [hl]; decide) (Open.Opn.slice (Ok := ok199) Try.underlying88 (by kernel_rfl) (fun m' _ => (opn199 m')))
  exact ⟨(⟨a0, a1, a2, a3⟩ : S90), Open.first_of ((Open.pair_cons (A := Kd.string) 0 h0 (Open.pair_cons (A := (Kd.slice 9 Kd.string)) 1 h1 (Open.pair_cons (A := (Kd.slice 197 k197)) 2 h2 (Open.last_of (d := (Kd.slice 199 k199)) 3 (by rw [hl]; rfl) h3))))), ⟨o0, o1, o2, o3⟩⟩
end Go.Proofs.Ytfbbagddhfeefaa.PGA

/- What may come in, and each law's one statement over numbers and lists. -/
import Derived.Test.YtpcdhoeoefoeoaaGreatDoorZGEPGEx0
import Derived.Test.YtpcdhoeoefoeoaaGreatDoorZGEOpen
set_option linter.unusedVariables false
set_option linter.unusedSimpArgs false
namespace Go.Proofs.YtpcdhoeoefoeoaaGreatDoor.PGE
open Go.RowKit Go.Proofs.YtpcdhoeoefoeoaaGreatDoorW.PrintWords Go.Proofs.YtpcdhoeoefoeoaaGreatDoor Go.ChangeShapes Go.WideShapes
def ok23 (x : S23) : Prop := (x.f0.size ≤ maxLen) ∧ (x.f1.size ≤ maxLen)
theorem sz_23 : k23.sz = 2 := rfl
theorem opn23 (m : Nat) : Open.Opn Tryz.prog k23 23 ok23 m := by
  refine ⟨?_⟩
  intro H enc w spare held fuel cs x hm h hl
  obtain ⟨xs, n, hn, _, hlen, hsz, hf⟩ := DataW.trod_struct Tryz.underlying23 h
  rw [sz_23] at hl
  obtain ⟨a0, h0, o0⟩ := Open.field_of (d := Kd.string) (Ok := (fun s : ByteArray => s.size ≤ maxLen)) 0 0 hsz hf rfl rfl (by kernel_rfl) (by rw [hl]; decide) (Open.Opn.string Tryz.underlying9)
  obtain ⟨a1, h1, o1⟩ := Open.field_of (d := Kd.string) (Ok := (fun s : ByteArray => s.size ≤ maxLen)) 1 1 hsz hf rfl rfl (by kernel_rfl) (by rw [hl]; decide) (Open.Opn.string Tryz.underlying9)
  exact ⟨(⟨a0, a1⟩ : S23), Open.first_of ((Open.pair_cons (A := Kd.string) 0 h0 (Open.last_of (d := Kd.string) 1 (by rw [hl]; rfl) h1))), ⟨o0, o1⟩⟩
def ok134 (x : S134) : Prop := (x.f0.size ≤ maxLen) ∧ ((x.f1.length ≤ maxLen ∧ ∀ y_ ∈ x.f1, y_.size ≤ maxLen))
theorem sz_134 : k134.sz = 2 := rfl
theorem opn134 (m : Nat) : Open.Opn Tryz.prog k134 134 ok134 m := by
  refine ⟨?_⟩
  intro H enc w spare held fuel cs x hm h hl
  obtain ⟨xs, n, hn, _, hlen, hsz, hf⟩ := DataW.trod_struct Tryz.underlying134 h
  rw [sz_134] at hl
  obtain ⟨a0, h0, o0⟩ := Open.field_of (d := Kd.string) (Ok := (fun s : ByteArray => s.size ≤ maxLen)) 0 0 hsz hf rfl rfl (by kernel_rfl) (by rw [hl]; decide) (Open.Opn.string Tryz.underlying9)
  obtain ⟨a1, h1, o1⟩ := Open.field_of (d := (Kd.slice 9 Kd.string)) (Ok := (fun xs : List ByteArray => xs.length ≤ maxLen ∧ ∀ x ∈ xs, (fun s : ByteArray => s.size ≤ maxLen) x)) 1 1 hsz hf rfl rfl (by kernel_rfl) (by rw [hl]; decide) (Open.Opn.slice (Ok := (fun s : ByteArray => s.size ≤ maxLen)) Tryz.underlying24 (by kernel_rfl) (fun m' _ => (Open.Opn.string Tryz.underlying9)))
  exact ⟨(⟨a0, a1⟩ : S134), Open.first_of ((Open.pair_cons (A := Kd.string) 0 h0 (Open.last_of (d := (Kd.slice 9 Kd.string)) 1 (by rw [hl]; rfl) h1))), ⟨o0, o1⟩⟩
def ok39 (x : S39) : Prop := (x.f0.size ≤ maxLen) ∧ ((x.f1.length ≤ maxLen ∧ ∀ y_ ∈ x.f1, y_.size ≤ maxLen)) ∧ ((x.f2.length ≤ maxLen ∧ ∀ y_ ∈ x.f2, ok23 y_)) ∧ ((x.f3.length ≤ maxLen ∧ ∀ y_ ∈ x.f3, ok134 y_))
theorem sz_39 : k39.sz = 4 := rfl
theorem opn39 (m : Nat) : Open.Opn Tryz.prog k39 39 ok39 m := by
  refine ⟨?_⟩
  intro H enc w spare held fuel cs x hm h hl
  obtain ⟨xs, n, hn, _, hlen, hsz, hf⟩ := DataW.trod_struct Tryz.underlying39 h
  rw [sz_39] at hl
  obtain ⟨a0, h0, o0⟩ := Open.field_of (d := Kd.string) (Ok := (fun s : ByteArray => s.size ≤ maxLen)) 0 0 hsz hf rfl rfl (by kernel_rfl) (by rw [hl]; decide) (Open.Opn.string Tryz.underlying9)
  obtain ⟨a1, h1, o1⟩ := Open.field_of (d := (Kd.slice 9 Kd.string)) (Ok := (fun xs : List ByteArray => xs.length ≤ maxLen ∧ ∀ x ∈ xs, (fun s : ByteArray => s.size ≤ maxLen) x)) 1 1 hsz hf rfl rfl (by kernel_rfl) (by rw [hl]; decide) (Open.Opn.slice (Ok := (fun s : ByteArray => s.size ≤ maxLen)) Tryz.underlying24 (by kernel_rfl) (fun m' _ => (Open.Opn.string Tryz.underlying9)))
  obtain ⟨a2, h2, o2⟩ := Open.field_of (d := (Kd.slice 23 k23)) (Ok := (fun xs : List (S23) => xs.length ≤ maxLen ∧ ∀ x ∈ xs, ok23 x)) 2 2 hsz hf rfl rfl (by kernel_rfl) (by rw [hl]; decide) (Open.Opn.slice (Ok := ok23) Tryz.underlying36 (by kernel_rfl) (fun m' _ => (opn23 m')))
  obtain ⟨a3, h3, o3⟩ := Open.field_of (d := (Kd.slice 134 k134)) (Ok := (fun xs : List (S134) => xs.length ≤ maxLen ∧ ∀ x ∈ xs, ok134 x)) 3 3 hsz hf rfl rfl (by kernel_rfl) (by rw [hl]; decide) (Open.Opn.slice (Ok := ok134) Tryz.underlying37 (by kernel_rfl) (fun m' _ => (opn134 m')))
  exact ⟨(⟨a0, a1, a2, a3⟩ : S39), Open.first_of ((Open.pair_cons (A := Kd.string) 0 h0 (Open.pair_cons (A := (Kd.slice 9 Kd.string)) 1 h1 (Open.pair_cons (A := (Kd.slice 23 k23)) 2 h2 (Open.last_of (d := (Kd.slice 134 k134)) 3 (by rw [hl]; rfl) h3))))), ⟨o0, o1, o2, o3⟩⟩
end Go.Proofs.YtpcdhoeoefoeoaaGreatDoor.PGE

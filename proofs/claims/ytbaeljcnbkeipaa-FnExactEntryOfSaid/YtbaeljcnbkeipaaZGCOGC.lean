/- What may come in, and each law's one statement over numbers and lists. -/
import Derived.Test.YtbaeljcnbkeipaaZGCPGCx0
import Derived.Test.YtbaeljcnbkeipaaZGCOpen
set_option linter.unusedVariables false
set_option linter.unusedSimpArgs false
namespace Go.Proofs.Ytbaeljcnbkeipaa.PGC
open Go.RowKit Go.Proofs.YtbaeljcnbkeipaaW.PrintWords Go.Proofs.Ytbaeljcnbkeipaa Go.ChangeShapes Go.WideShapes
def ok38 (x : S38) : Prop := ((Lit.int .i64 x.f0).wf = true) ∧ ((Lit.int .i64 x.f1).wf = true) ∧ ((Lit.int .i64 x.f2).wf = true) ∧ ((x.f3.length ≤ maxLen ∧ ∀ y_ ∈ x.f3, y_.size ≤ maxLen))
theorem sz_38 : k38.sz = 4 := rfl
theorem opn38 (m : Nat) : Open.Opn Try.prog k38 38 ok38 m := by
  refine ⟨?_⟩
  intro H enc w spare held fuel cs x hm h hl
  obtain ⟨xs, n, hn, _, hlen, hsz, hf⟩ := DataW.trod_struct Try.underlying38 h
  rw [sz_38] at hl
  obtain ⟨a0, h0, o0⟩ := Open.field_of (d := (Kd.int .i64)) (Ok := (fun n : Int => (Lit.int .i64 n).wf = true)) 0 0 hsz hf rfl rfl (by kernel_rfl) (by rw [hl]; decide) (Open.Opn.int Try.underlying3)
  obtain ⟨a1, h1, o1⟩ := Open.field_of (d := (Kd.int .i64)) (Ok := (fun n : Int => (Lit.int .i64 n).wf = true)) 1 1 hsz hf rfl rfl (by kernel_rfl) (by rw [hl]; decide) (Open.Opn.int Try.underlying3)
  obtain ⟨a2, h2, o2⟩ := Open.field_of (d := (Kd.int .i64)) (Ok := (fun n : Int => (Lit.int .i64 n).wf = true)) 2 2 hsz hf rfl rfl (by kernel_rfl) (by rw [hl]; decide) (Open.Opn.int Try.underlying3)
  obtain ⟨a3, h3, o3⟩ := Open.field_of (d := (Kd.slice 9 Kd.string)) (Ok := (fun xs : List ByteArray => xs.length ≤ maxLen ∧ ∀ x ∈ xs, (fun s : ByteArray => s.size ≤ maxLen) x)) 3 3 hsz hf rfl rfl (by kernel_rfl) (by rw [hl]; decide) (Open.Opn.slice (Ok := (fun s : ByteArray => s.size ≤ maxLen)) Try.underlying23 (by kernel_rfl) (fun m' _ => (Open.Opn.string Try.underlying9)))
  exact ⟨(⟨a0, a1, a2, a3⟩ : S38), Open.first_of ((Open.pair_cons (A := (Kd.int .i64)) 0 h0 (Open.pair_cons (A := (Kd.int .i64)) 1 h1 (Open.pair_cons (A := (Kd.int .i64)) 2 h2 (Open.last_of (d := (Kd.slice 9 Kd.string)) 3 (by rw [hl]; rfl) h3))))), ⟨o0, o1, o2, o3⟩⟩
def ok113 (x : S113) : Prop := (x.f0.size ≤ maxLen) ∧ (x.f1.size ≤ maxLen)
theorem sz_113 : k113.sz = 2 := rfl
theorem opn113 (m : Nat) : Open.Opn Try.prog k113 113 ok113 m := by
  refine ⟨?_⟩
  intro H enc w spare held fuel cs x hm h hl
  obtain ⟨xs, n, hn, _, hlen, hsz, hf⟩ := DataW.trod_struct Try.underlying113 h
  rw [sz_113] at hl
  obtain ⟨a0, h0, o0⟩ := Open.field_of (d := Kd.string) (Ok := (fun s : ByteArray => s.size ≤ maxLen)) 0 0 hsz hf rfl rfl (by kernel_rfl) (by rw [hl]; decide) (Open.Opn.string Try.underlying9)
  obtain ⟨a1, h1, o1⟩ := Open.field_of (d := Kd.string) (Ok := (fun s : ByteArray => s.size ≤ maxLen)) 1 1 hsz hf rfl rfl (by kernel_rfl) (by rw [hl]; decide) (Open.Opn.string Try.underlying9)
  exact ⟨(⟨a0, a1⟩ : S113), Open.first_of ((Open.pair_cons (A := Kd.string) 0 h0 (Open.last_of (d := Kd.string) 1 (by rw [hl]; rfl) h1))), ⟨o0, o1⟩⟩
def ok84 (x : S84) : Prop := (x.f0.size ≤ maxLen) ∧ (ok38 x.f1) ∧ ((x.f2.length ≤ maxLen ∧ ∀ y_ ∈ x.f2, ok113 y_))
theorem sz_84 : k84.sz = 6 := rfl
theorem opn84 (m : Nat) : Open.Opn Try.prog k84 84 ok84 m := by
  refine ⟨?_⟩
  intro H enc w spare held fuel cs x hm h hl
  obtain ⟨xs, n, hn, _, hlen, hsz, hf⟩ := DataW.trod_struct Try.underlying84 h
  rw [sz_84] at hl
  obtain ⟨a0, h0, o0⟩ := Open.field_of (d := Kd.string) (Ok := (fun s : ByteArray => s.size ≤ maxLen)) 0 0 hsz hf rfl rfl (by kernel_rfl) (by rw [hl]; decide) (Open.Opn.string Try.underlying9)
  obtain ⟨a1, h1, o1⟩ := Open.field_of (d := k38) (Ok := ok38) 1 1 hsz hf rfl rfl (by kernel_rfl) (by rw [hl]; decide) (opn38 n)
  obtain ⟨a2, h2, o2⟩ := Open.field_of (d := (Kd.slice 113 k113)) (Ok := (fun xs : List (S113) => xs.length ≤ maxLen ∧ ∀ x ∈ xs, ok113 x)) 2 5 hsz hf rfl rfl (by kernel_rfl) (by rw [hl]; decide) (Open.Opn.slice (Ok := ok113) Try.underlying57 (by kernel_rfl) (fun m' _ => (opn113 m')))
  exact ⟨(⟨a0, a1, a2⟩ : S84), Open.first_of ((Open.pair_cons (A := Kd.string) 0 h0 (Open.pair_cons (A := k38) 1 h1 (Open.last_of (d := (Kd.slice 113 k113)) 5 (by rw [hl]; rfl) h2)))), ⟨o0, o1, o2⟩⟩
end Go.Proofs.Ytbaeljcnbkeipaa.PGC

/- What may come in, and each law's one statement over numbers and lists. -/
import Derived.Test.YtpcdhoeoefoeoaaGreatDoorZGDPGDx0
import Derived.Test.YtpcdhoeoefoeoaaGreatDoorZGDOpen
set_option linter.unusedVariables false
set_option linter.unusedSimpArgs false
namespace Go.Proofs.YtpcdhoeoefoeoaaGreatDoor.PGD
open Go.RowKit Go.Proofs.YtpcdhoeoefoeoaaGreatDoorW.PrintWords Go.Proofs.YtpcdhoeoefoeoaaGreatDoor Go.ChangeShapes Go.WideShapes
def ok26 (x : S26) : Prop := ((Lit.int .i64 x.f0).wf = true) ∧ ((Lit.int .i64 x.f1).wf = true) ∧ ((Lit.int .i64 x.f2).wf = true) ∧ ((x.f3.length ≤ maxLen ∧ ∀ y_ ∈ x.f3, y_.size ≤ maxLen))
theorem sz_26 : k26.sz = 4 := rfl
theorem opn26 (m : Nat) : Open.Opn Tryz.prog k26 26 ok26 m := by
  refine ⟨?_⟩
  intro H enc w spare held fuel cs x hm h hl
  obtain ⟨xs, n, hn, _, hlen, hsz, hf⟩ := DataW.trod_struct Tryz.underlying26 h
  rw [sz_26] at hl
  obtain ⟨a0, h0, o0⟩ := Open.field_of (d := (Kd.int .i64)) (Ok := (fun n : Int => (Lit.int .i64 n).wf = true)) 0 0 hsz hf rfl rfl (by kernel_rfl) (by rw [hl]; decide) (Open.Opn.int Tryz.underlying3)
  obtain ⟨a1, h1, o1⟩ := Open.field_of (d := (Kd.int .i64)) (Ok := (fun n : Int => (Lit.int .i64 n).wf = true)) 1 1 hsz hf rfl rfl (by kernel_rfl) (by rw [hl]; decide) (Open.Opn.int Tryz.underlying3)
  obtain ⟨a2, h2, o2⟩ := Open.field_of (d := (Kd.int .i64)) (Ok := (fun n : Int => (Lit.int .i64 n).wf = true)) 2 2 hsz hf rfl rfl (by kernel_rfl) (by rw [hl]; decide) (Open.Opn.int Tryz.underlying3)
  obtain ⟨a3, h3, o3⟩ := Open.field_of (d := (Kd.slice 9 Kd.string)) (Ok := (fun xs : List ByteArray => xs.length ≤ maxLen ∧ ∀ x ∈ xs, (fun s : ByteArray => s.size ≤ maxLen) x)) 3 3 hsz hf rfl rfl (by kernel_rfl) (by rw [hl]; decide) (Open.Opn.slice (Ok := (fun s : ByteArray => s.size ≤ maxLen)) Tryz.underlying24 (by kernel_rfl) (fun m' _ => (Open.Opn.string Tryz.underlying9)))
  exact ⟨(⟨a0, a1, a2, a3⟩ : S26), Open.first_of ((Open.pair_cons (A := (Kd.int .i64)) 0 h0 (Open.pair_cons (A := (Kd.int .i64)) 1 h1 (Open.pair_cons (A := (Kd.int .i64)) 2 h2 (Open.last_of (d := (Kd.slice 9 Kd.string)) 3 (by rw [hl]; rfl) h3))))), ⟨o0, o1, o2, o3⟩⟩
def ok23 (x : S23) : Prop := (x.f0.size ≤ maxLen) ∧ (x.f1.size ≤ maxLen)
theorem sz_23 : k23.sz = 2 := rfl
theorem opn23 (m : Nat) : Open.Opn Tryz.prog k23 23 ok23 m := by
  refine ⟨?_⟩
  intro H enc w spare held fuel cs x hm h hl
  obtain ⟨xs, n, hn, _, hlen, hsz, hf⟩ := DataW.trod_struct Tryz.underlying23 h
  rw [sz_23] at hl
  obtain ⟨a0, h0, o0⟩ := Open.field_of (d := Kd.string) (Ok := (fun s : ByteArray => s.size ≤ maxLen)) 0 0 hsz hf rfl rfl (by kernel_rfl) (by rw [hl]; decide) (Open.Opn.string Tryz.underlying9)
  obtain ⟨a1, h1, o1⟩ := Open.field_of (d := Kd.string) (Ok := (fun s : ByteArray => s.size ≤ maxLen)) 1 1 hsz hf rfl rfl (by kernel_rfl) (by rw [hl]; decide) (Open.Opn.string Tryz.underlying9)
  exact ⟨(⟨a0, a1⟩ : S23), Open.first_of ((Open.pair_cons (A := Kd.string) 0 h0 (Open.last_of (d := Kd.string) 1 (by rw [hl]; rfl) h1))), ⟨o0, o1⟩⟩
def ok100 (x : S100) : Prop := (x.f0.size ≤ maxLen) ∧ (ok26 x.f1) ∧ ((x.f2.length ≤ maxLen ∧ ∀ y_ ∈ x.f2, ok23 y_))
theorem sz_100 : k100.sz = 6 := rfl
theorem opn100 (m : Nat) : Open.Opn Tryz.prog k100 100 ok100 m := by
  refine ⟨?_⟩
  intro H enc w spare held fuel cs x hm h hl
  obtain ⟨xs, n, hn, _, hlen, hsz, hf⟩ := DataW.trod_struct Tryz.underlying100 h
  rw [sz_100] at hl
  obtain ⟨a0, h0, o0⟩ := Open.field_of (d := Kd.string) (Ok := (fun s : ByteArray => s.size ≤ maxLen)) 0 0 hsz hf rfl rfl (by kernel_rfl) (by rw [hl]; decide) (Open.Opn.string Tryz.underlying9)
  obtain ⟨a1, h1, o1⟩ := Open.field_of (d := k26) (Ok := ok26) 1 1 hsz hf rfl rfl (by kernel_rfl) (by rw [hl]; decide) (opn26 n)
  obtain ⟨a2, h2, o2⟩ := Open.field_of (d := (Kd.slice 23 k23)) (Ok := (fun xs : List (S23) => xs.length ≤ maxLen ∧ ∀ x ∈ xs, ok23 x)) 2 5 hsz hf rfl rfl (by kernel_rfl) (by rw [hl]; decide) (Open.Opn.slice (Ok := ok23) Tryz.underlying36 (by kernel_rfl) (fun m' _ => (opn23 m')))
  exact ⟨(⟨a0, a1, a2⟩ : S100), Open.first_of ((Open.pair_cons (A := Kd.string) 0 h0 (Open.pair_cons (A := k26) 1 h1 (Open.last_of (d := (Kd.slice 23 k23)) 5 (by rw [hl]; rfl) h2)))), ⟨o0, o1, o2⟩⟩
end Go.Proofs.YtpcdhoeoefoeoaaGreatDoor.PGD

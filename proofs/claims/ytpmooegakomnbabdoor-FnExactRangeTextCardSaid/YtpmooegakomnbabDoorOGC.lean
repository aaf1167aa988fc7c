/- What may come in, and each law's one statement over numbers and lists. -/
import Derived.Test.YtpmooegakomnbabDoorPGCx0
import Derived.Test.YtpmooegakomnbabDoorOpen
set_option linter.unusedVariables false
set_option linter.unusedSimpArgs false
namespace Go.Proofs.YtpmooegakomnbabDoor.PGC
open Go.RowKit Go.Proofs.YtpmooegakomnbabDoorW.PrintWords Go.Proofs.YtpmooegakomnbabDoor Go.ChangeShapes Go.WideShapes
def ok27 (x : S27) : Prop := ((Lit.int .i64 x.f0).wf = true) ∧ ((Lit.int .i64 x.f1).wf = true) ∧ ((Lit.int .i64 x.f2).wf = true) ∧ ((x.f3.length ≤ maxLen ∧ ∀ y_ ∈ x.f3, y_.size ≤ maxLen))
theorem sz_27 : k27.sz = 4 := rfl
theorem opn27 (m : Nat) : Open.Opn Tryd.prog k27 27 ok27 m := by
  refine ⟨?_⟩
  intro H enc w spare held fuel cs x hm h hl
  obtain ⟨xs, n, hn, _, hlen, hsz, hf⟩ := DataW.trod_struct Tryd.underlying27 h
  rw [sz_27] at hl
  obtain ⟨a0, h0, o0⟩ := Open.field_of (d := (Kd.int .i64)) (Ok := (fun n : Int => (Lit.int .i64 n).wf = true)) 0 0 hsz hf rfl rfl (by kernel_rfl) (by rw [hl]; decide) (Open.Opn.int Tryd.underlying3)
  obtain ⟨a1, h1, o1⟩ := Open.field_of (d := (Kd.int .i64)) (Ok := (fun n : Int => (Lit.int .i64 n).wf = true)) 1 1 hsz hf rfl rfl (by kernel_rfl) (by rw [hl]; decide) (Open.Opn.int Tryd.underlying3)
  obtain ⟨a2, h2, o2⟩ := Open.field_of (d := (Kd.int .i64)) (Ok := (fun n : Int => (Lit.int .i64 n).wf = true)) 2 2 hsz hf rfl rfl (by kernel_rfl) (by rw [hl]; decide) (Open.Opn.int Tryd.underlying3)
  obtain ⟨a3, h3, o3⟩ := Open.field_of (d := (Kd.slice 9 Kd.string)) (Ok := (fun xs : List ByteArray => xs.length ≤ maxLen ∧ ∀ x ∈ xs, (fun s : ByteArray => s.size ≤ maxLen) x)) 3 3 hsz hf rfl rfl (by kernel_rfl) (by rw [hl]; decide) (Open.Opn.slice (Ok := (fun s : ByteArray => s.size ≤ maxLen)) Tryd.underlying25 (by kernel_rfl) (fun m' _ => (Open.Opn.string Tryd.underlying9)))
  exact ⟨(⟨a0, a1, a2, a3⟩ : S27), Open.first_of ((Open.pair_cons (A := (Kd.int .i64)) 0 h0 (Open.pair_cons (A := (Kd.int .i64)) 1 h1 (Open.pair_cons (A := (Kd.int .i64)) 2 h2 (Open.last_of (d := (Kd.slice 9 Kd.string)) 3 (by rw [hl]; rfl) h3))))), ⟨o0, o1, o2, o3⟩⟩
def ok93 (x : S93) : Prop := ((Lit.int .i64 x.f0).wf = true) ∧ (ok27 x.f1)
theorem sz_93 : k93.sz = 5 := rfl
theorem opn93 (m : Nat) : Open.Opn Tryd.prog k93 93 ok93 m := by
  refine ⟨?_⟩
  intro H enc w spare held fuel cs x hm h hl
  obtain ⟨xs, n, hn, _, hlen, hsz, hf⟩ := DataW.trod_struct Tryd.underlying93 h
  rw [sz_93] at hl
  obtain ⟨a0, h0, o0⟩ := Open.field_of (d := (Kd.int .i64)) (Ok := (fun n : Int => (Lit.int .i64 n).wf = true)) 0 0 hsz hf rfl rfl (by kernel_rfl) (by rw [hl]; decide) (Open.Opn.int Tryd.underlying3)
  obtain ⟨a1, h1, o1⟩ := Open.field_of (d := k27) (Ok := ok27) 1 1 hsz hf rfl rfl (by kernel_rfl) (by rw [hl]; decide) (opn27 n)
  exact ⟨(⟨a0, a1⟩ : S93), Open.first_of ((Open.pair_cons (A := (Kd.int .i64)) 0 h0 (Open.last_of (d := k27) 1 (by rw [hl]; rfl) h1))), ⟨o0, o1⟩⟩
end Go.Proofs.YtpmooegakomnbabDoor.PGC

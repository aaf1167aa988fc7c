/- What may come in, and each law's one statement over numbers and lists. -/
import Derived.Test.YtglhniiabhknoaaZGAPGAx0
import Derived.Test.YtglhniiabhknoaaZGAOpen
set_option linter.unusedVariables false
set_option linter.unusedSimpArgs false
namespace Go.Proofs.Ytglhniiabhknoaa.PGA
open Go.RowKit Go.Proofs.YtglhniiabhknoaaW.PrintWords Go.Proofs.Ytglhniiabhknoaa Go.ChangeShapes Go.WideShapes
inductive ok25 : S25 → Prop
  | mk (x : S25) (h0 : (Lit.int .i64 x.f0).wf = true) (h1 : (Lit.int .i64 x.f1).wf = true) (h2 : x.f2.size ≤ maxLen) (h3 : x.f3.length ≤ maxLen) (g3 : ∀ y_ ∈ x.f3, ok25 y_) (h4 : x.f4.length ≤ maxLen) (g4 : ∀ y_ ∈ x.f4, y_.size ≤ maxLen) : ok25 x
theorem sz_25 : k25.sz = 5 := rfl
theorem opn25 (m : Nat) : Open.Opn Try.prog k25 25 ok25 m := by
  induction m using Nat.strongRecOn with
  | _ m ih =>
  refine ⟨?_⟩
  intro H enc w spare held fuel cs x hm h hl
  obtain ⟨xs, n, hn, _, hlen, hsz, hf⟩ := DataW.trod_struct Try.underlying25 h
  rw [sz_25] at hl
  obtain ⟨a0, h0, o0⟩ := Open.field_of (d := (Kd.int .i64)) (Ok := (fun n : Int => (Lit.int .i64 n).wf = true)) 0 0 hsz hf rfl rfl (by kernel_rfl) (by rw [hl]; decide) (Open.Opn.int Try.underlying3)
  obtain ⟨a1, h1, o1⟩ := Open.field_of (d := (Kd.int .i64)) (Ok := (fun n : Int => (Lit.int .i64 n).wf = true)) 1 1 hsz hf rfl rfl (by kernel_rfl) (by rw [hl]; decide) (Open.Opn.int Try.underlying3)
  obtain ⟨a2, h2, o2⟩ := Open.field_of (d := Kd.string) (Ok := (fun s : ByteArray => s.size ≤ maxLen)) 2 2 hsz hf rfl rfl (by kernel_rfl) (by rw [hl]; decide) (Open.Opn.string Try.underlying9)
  obtain ⟨a3, h3, o3⟩ := Open.field_of (d := (Kd.slice 25 k25)) (Ok := (fun xs : List (S25) => xs.length ≤ maxLen ∧ ∀ x ∈ xs, ok25 x)) 3 3 hsz hf rfl rfl (by kernel_rfl) (by rw [hl]; decide) (Open.Opn.slice (Ok := ok25) Try.underlying22 (by kernel_rfl) (fun m' hm' => ih m' (by omega)))
  obtain ⟨a4, h4, o4⟩ := Open.field_of (d := (Kd.slice 9 Kd.string)) (Ok := (fun xs : List ByteArray => xs.length ≤ maxLen ∧ ∀ x ∈ xs, (fun s : ByteArray => s.size ≤ maxLen) x)) 4 4 hsz hf rfl rfl (by kernel_rfl) (by rw [hl]; decide) (Open.Opn.slice (Ok := (fun s : ByteArray => s.size ≤ maxLen)) Try.underlying23 (by kernel_rfl) (fun m' _ => (Open.Opn.string Try.underlying9)))
  have hK : (Kd.pair (Kd.int .i64) (Kd.pair (Kd.int .i64) (Kd.pair Kd.string (Kd.pair (Kd.slice 25 k25) (Kd.slice 9 Kd.string))))).K w (a0, a1, a2, a3, a4) cs := Open.first_of ((Open.pair_cons (A := (Kd.int .i64)) 0 h0 (Open.pair_cons (A := (Kd.int .i64)) 1 h1 (Open.pair_cons (A := Kd.string) 2 h2 (Open.pair_cons (A := (Kd.slice 25 k25)) 3 h3 (Open.last_of (d := (Kd.slice 9 Kd.string)) 4 (by rw [hl]; rfl) h4))))))
  clear h0 h1 h2 h3 h4
  refine ⟨(⟨a0, a1, a2, a3, a4⟩ : S25), ?_, ok25.mk _ o0 o1 o2 o3.1 o3.2 o4.1 o4.2⟩
  obtain ⟨_, _, rfl, rfl, ⟨_, _, rfl, rfl, ⟨_, _, rfl, rfl, ⟨_, _, rfl, ⟨A3, c3, rfl, l3, g3⟩, ⟨A4, c4, rfl, l4, g4⟩⟩⟩⟩⟩ := hK
  exact k25_mk w (⟨a0, a1, a2, a3, a4⟩ : S25) l3 g3 l4 g4
end Go.Proofs.Ytglhniiabhknoaa.PGA

/- What may come in, and each law's one statement over numbers and lists. -/
import Derived.Test.YtbaeljcnbkeipaaDoorZGCPGCx0
import Derived.Test.YtbaeljcnbkeipaaDoorZGCOpen
set_option linter.unusedVariables false
set_option linter.unusedSimpArgs false
namespace Go.Proofs.YtbaeljcnbkeipaaDoor.PGC
open Go.RowKit Go.Proofs.YtbaeljcnbkeipaaDoorW.PrintWords Go.Proofs.YtbaeljcnbkeipaaDoor Go.ChangeShapes Go.WideShapes
def ok24 (x : S24) : Prop := (x.f0.size ≤ maxLen) ∧ (x.f1.size ≤ maxLen)
theorem sz_24 : k24.sz = 2 := rfl
theorem opn24 (m : Nat) : Open.Opn Tryd.prog k24 24 ok24 m := by
  refine ⟨?_⟩
  intro H enc w spare held fuel cs x hm h hl
  obtain ⟨xs, n, hn, _, hlen, hsz, hf⟩ := DataW.trod_struct Tryd.underlying24 h
  rw [sz_24] at hl
  obtain ⟨a0, h0, o0⟩ := Open.field_of (d := Kd.string) (Ok := (fun s : ByteArray => s.size ≤ maxLen)) 0 0 hsz hf rfl rfl (by kernel_rfl) (by rw [hl]; decide) (Open.Opn.string Tryd.underlying9)
  obtain ⟨a1, h1, o1⟩ := Open.field_of (d := Kd.string) (Ok := (fun s : ByteArray => s.size ≤ maxLen)) 1 1 hsz hf rfl rfl (by kernel_rfl) (by rw [hl]; decide) (Open.Opn.string Tryd.underlying9)
  exact ⟨(⟨a0, a1⟩ : S24), Open.first_of ((Open.pair_cons (A := Kd.string) 0 h0 (Open.last_of (d := Kd.string) 1 (by rw [hl]; rfl) h1))), ⟨o0, o1⟩⟩
end Go.Proofs.YtbaeljcnbkeipaaDoor.PGC

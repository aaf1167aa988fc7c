/- What may come in, and each law's one statement over numbers and lists. -/
import Derived.Test.YtglhniiabhknoaaZGCPGCx0
import Derived.Test.YtglhniiabhknoaaZGCOpen
set_option linter.unusedVariables false
set_option linter.unusedSimpArgs false
namespace Go.Proofs.Ytglhniiabhknoaa.PGC
open Go.RowKit Go.Proofs.YtglhniiabhknoaaW.PrintWords Go.Proofs.Ytglhniiabhknoaa Go.ChangeShapes Go.WideShapes
def ok99 (x:S99):Prop:=(x.f0.size≤maxLen)∧(x.f1.size≤maxLen)
theorem sz_99:k99.sz=2:=rfl
theorem opn99 (m:Nat):Open.Opn Try.prog k99 99 ok99 m:=by
  refine⟨?_⟩
  intro H enc w spare held fuel cs x hm h hl
  obtain⟨xs,n,hn,_,hlen,hsz,hf⟩:=DataW.trod_struct Try.underlying99 h
  rw[sz_99] at hl
  obtain⟨a0,h0,o0⟩:=Open.field_of (d:=Kd.string) (Ok:=(fun s:ByteArray=>s.size≤maxLen)) 0 0 hsz hf rfl rfl (by kernel_rfl) (by rw[hl];decide) (Open.Opn.string Try.underlying9)
  obtain⟨a1,h1,o1⟩:=Open.field_of (d:=Kd.string) (Ok:=(fun s:ByteArray=>s.size≤maxLen)) 1 1 hsz hf rfl rfl (by kernel_rfl) (by rw[hl];decide) (Open.Opn.string Try.underlying9)
  exact⟨(⟨a0,a1⟩:S99),Open.first_of ((Open.pair_cons (A:=Kd.string) 0 h0 (Open.last_of (d:=Kd.string) 1 (by rw[hl];rfl) h1))),⟨o0,o1⟩⟩
def ok101 (x:S101):Prop:=(x.f0.size≤maxLen)∧((x.f1.length≤maxLen∧∀ y_∈x.f1,y_.size≤maxLen))
theorem sz_101:k101.sz=2:=rfl
theorem opn101 (m:Nat):Open.Opn Try.prog k101 101 ok101 m:=by
  refine⟨?_⟩
  intro H enc w spare held fuel cs x hm h hl
  obtain⟨xs,n,hn,_,hlen,hsz,hf⟩:=DataW.trod_struct Try.underlying101 h
  rw[sz_101] at hl
  obtain⟨a0,h0,o0⟩:=Open.field_of (d:=Kd.string) (Ok:=(fun s:ByteArray=>s.size≤maxLen)) 0 0 hsz hf rfl rfl (by kernel_rfl) (by rw[hl];decide) (Open.Opn.string Try.underlying9)
  obtain⟨a1,h1,o1⟩:=Open.field_of (d:=(Kd.slice 9 Kd.string)) (Ok:=(fun xs:List ByteArray=>xs.length≤maxLen∧∀ x∈xs,(fun s:ByteArray=>s.size≤maxLen) x)) 1 1 hsz hf rfl rfl (by kernel_rfl) (by rw[hl];decide) (Open.Opn.slice (Ok:=(fun s:ByteArray=>s.size≤maxLen)) Try.underlying23 (by kernel_rfl) (fun m' _=>(Open.Opn.string Try.underlying9)))
  exact⟨(⟨a0,a1⟩:S101),Open.first_of ((Open.pair_cons (A:=Kd.string) 0 h0 (Open.last_of (d:=(Kd.slice 9 Kd.string)) 1 (by rw[hl];rfl) h1))),⟨o0,o1⟩⟩
def ok39 (x:S39):Prop:=(x.f0.size≤maxLen)∧((x.f1.length≤maxLen∧∀ y_∈x.f1,y_.size≤maxLen))∧((x.f2.length≤maxLen∧∀ y_∈x.f2,ok99 y_))∧((x.f3.length≤maxLen∧∀ y_∈x.f3,ok101 y_))
theorem sz_39:k39.sz=4:=rfl
theorem opn39 (m:Nat):Open.Opn Try.prog k39 39 ok39 m:=by
  refine⟨?_⟩
  intro H enc w spare held fuel cs x hm h hl
  obtain⟨xs,n,hn,_,hlen,hsz,hf⟩:=DataW.trod_struct Try.underlying39 h
  rw[sz_39] at hl
  obtain⟨a0,h0,o0⟩:=Open.field_of (d:=Kd.string) (Ok:=(fun s:ByteArray=>s.size≤maxLen)) 0 0 hsz hf rfl rfl (by kernel_rfl) (by rw[hl];decide) (Open.Opn.string Try.underlying9)
  obtain⟨a1,h1,o1⟩:=Open.field_of (d:=(Kd.slice 9 Kd.string)) (Ok:=(fun xs:List ByteArray=>xs.length≤maxLen∧∀ x∈xs,(fun s:ByteArray=>s.size≤maxLen) x)) 1 1 hsz hf rfl rfl (by kernel_rfl) (by rw[hl];decide) (Open.Opn.slice (Ok:=(fun s:ByteArray=>s.size≤maxLen)) Try.underlying23 (by kernel_rfl) (fun m' _=>(Open.Opn.string Try.underlying9)))
  obtain⟨a2,h2,o2⟩:=Open.field_of (d:=(Kd.slice 99 k99)) (Ok:=(fun xs:List (S99)=>xs.length≤maxLen∧∀ x∈xs,ok99 x)) 2 2 hsz hf rfl rfl (by kernel_rfl) (by rw[hl];decide) (Open.Opn.slice (Ok:=ok99) Try.underlying36 (by kernel_rfl) (fun m' _=>(opn99 m')))
  obtain⟨a3,h3,o3⟩:=Open.field_of (d:=(Kd.slice 101 k101)) (Ok:=(fun xs:List (S101)=>xs.length≤maxLen∧∀ x∈xs,ok101 x)) 3 3 hsz hf rfl rfl (by kernel_rfl) (by rw[hl];decide) (Open.Opn.slice (Ok:=ok101) Try.underlying37 (by kernel_rfl) (fun m' _=>(opn101 m')))
  exact⟨(⟨a0,a1,a2,a3⟩:S39),Open.first_of ((Open.pair_cons (A:=Kd.string) 0 h0 (Open.pair_cons (A:=(Kd.slice 9 Kd.string)) 1 h1 (Open.pair_cons (A:=(Kd.slice 99 k99)) 2 h2 (Open.last_of (d:=(Kd.slice 101 k101)) 3 (by rw[hl];rfl) h3))))),⟨o0,o1,o2,o3⟩⟩
end Go.Proofs.Ytglhniiabhknoaa.PGC

/- Small lemmas by which the shelf's contracts are told in the print's words. -/
import Derived.Test.YtglhniiabhknoaaZGCWN
import Derived.Test.YtglhniiabhknoaaZGCWMore
import Derived.Test.YtglhniiabhknoaaShelf
import Derived.Sort.Grow
import Derived.Lib.SliceRun
import Derived.Lib.SlicesDelete
import Derived.Deep.RegionLaw
import Derived.Shelf.RegionOpenPlain
namespace Go.Proofs.Ytglhniiabhknoaa.Lb
open Go.RowKit Go.Sort Go.Proofs.YtglhniiabhknoaaW.PrintWords
theorem split_R (w:World) (e:Nat) (L:List ByteArray) (n:Nat) (hl:L.length=n) (hn:n≤9223372036854775807) :
    Kd.R Kd.string e (w.alloc (.cells (L.map Value.string).toArray e)) w.heap.size (fun _=>True) (.slice (some ⟨w.heap.size,0,none⟩) n n) L:=by
  subst hl
  refine Kd.R_of_own ⟨by simp[encs],.inr ⟨w.heap.size,L.length,(L.map Value.string).toArray,rfl,Nat.le_refl _,(by show (w.heap.push _)[w.heap.size]?=_;simp),Nat.le_refl _,hn,by simp,?_⟩⟩ (fun _ _=>trivial)
  simp[encs]
  exact List.take_of_length_le (by simp)
theorem C_string_plain {w:World} {A:Option Addr} {n:Nat} {l:List ByteArray} (h:Kd.C Kd.string w A n l) (hn:0<n) :
    ∃ b o,A=some ⟨b,o,none⟩∧∀ (j:Nat) x,l[j]?=some x→w.cell? ⟨b,o+j,none⟩=some (.string x):=by
  obtain⟨h1,_,h2⟩:=h
  obtain⟨ad,rfl,hc⟩:=h2 hn
  have hcell:∀ (j:Nat) x,l[j]?=some x→w.cell? (ad.add j)=some (.string x):=by
    intro j x hx
    obtain⟨c,hs,hr,hcl⟩:=hc j x hx
    have hr':c=[.string x]:=hr
    subst hr'
    have:=hcl 0 _ rfl
    rwa [show j*Kd.string.sz+0=j from by simp[Kd.string,Kd.scalar]] at this
  have hs:ad.spot=none:=by
    have h0:=hcell 0 l[0] (List.getElem?_eq_getElem (by omega))
    rw[show ad.add 0=ad from by unfold Addr.add;simp] at h0
    unfold World.cell? at h0
    split at h0
    · by_cases hsp:ad.spot.isSome
      · rw[if_pos hsp] at h0;cases h0
      · simpa using hsp
    · cases h0
  obtain⟨b,o,s⟩:=ad
  simp only at hs
  subst hs
  exact⟨b,o,rfl,fun j x hx=>by rw[← add_at];exact hcell j x hx⟩
theorem below_grow (w:World) (k:Nat) (os:Array Obj):Below w.heap.size w (grow (w.drewN k) os):=by
  refine⟨rfl,rfl,rfl,by simp[grow],fun i hi=>?_⟩
  show (w.heap++os)[i]?=w.heap[i]?
  rw[Array.getElem?_append_left hi]
theorem one_byte {s:ByteArray} (h:s.size=1):∃ c,s=⟨#[c]⟩:=by
  obtain⟨⟨l⟩⟩:=s
  match l,h with
  | [c],_=>exact⟨c,rfl⟩
theorem bt_one (c:UInt8):bt ⟨#[c]⟩ 0=(c.toNat:Int):=rfl
end Go.Proofs.Ytglhniiabhknoaa.Lb

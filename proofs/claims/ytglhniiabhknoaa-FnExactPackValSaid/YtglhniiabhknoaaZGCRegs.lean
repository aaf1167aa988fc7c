/- The steps of a region whose order is open, said once. -/
import Derived.Test.YtglhniiabhknoaaZGCSays
import Derived.Test.YtglhniiabhknoaaZGCWLast
import Derived.Test.YtglhniiabhknoaaZGCWTab
import Derived.Test.YtglhniiabhknoaaZGCWMore
set_option autoImplicit false
namespace Go.Proofs.Ytglhniiabhknoaa
open Go.RowKit Go.Proofs.YtglhniiabhknoaaW.PrintWords Go.Proofs.YtglhniiabhknoaaW.PrintLast Go.Proofs.YtglhniiabhknoaaW.PrintMore
section
variable {P : Program} {ops : Array Oper} {Q : Exit → Act → World → Prop} {md : Region.Mode} {S : World → Prop} {ds : List Nat} {fuel : Nat} {l : Array Bool} {a : Act} {w : World}
theorem zp (i N:Nat) {oi:Oper} {v:Value} {a':Act} (h:wpAnyLast P md ops Q S ds fuel (l.setIfInBounds i true) a' w) (hi:ops[i]?=some oi:=by exact rfl) (hN:oi.dst=some N:=by exact rfl) (hc:anyB md ops l (l.setIfInBounds i true) i=true:=by first|exact any_of HT_.out (by kernel_rfl)|kernel_rfl) (hQ:∀ c a w,Q (.panic c) (a.put oi.dst v) w→Q (.panic c) a w:=by exact fun _ _ _ h=>h) (hy:Yields P ops oi v a:=by refine Or.inl ⟨by rfl,?_⟩;intro w';go_simp;with_reducible rfl) (ha:a.put (some N) v=a':=by simp only[Act.put,zT,i64_w,i32_w];rfl):wpAnyLast P md ops Q S ds (fuel+1) l a w:=pure_ _ hi hN hc hQ hy ha h
theorem zt (i N:Nat) {oi:Oper} {v:Value} {a':Act} (h:wpAnyLast P md ops Q S ds fuel (l.setIfInBounds i true) a' w) (hi:ops[i]?=some oi:=by exact rfl) (hN:oi.dst=some N:=by exact rfl) (hc:takeB md ops ds l (l.setIfInBounds i true) i=true:=by first|exact take_ofW HT_.out HW_.out (by kernel_rfl)|kernel_rfl) (hQ:∀ c a w,Q (.panic c) (a.put oi.dst v) w→Q (.panic c) a w:=by exact fun _ _ _ h=>h) (hy:YieldsIf P ops S oi v a:=by refine Or.inl ⟨by rfl,?_⟩;intro w' s_;(repeat(have s0_:=And.left s_;replace s_:=And.right s_));go_simp;with_reducible rfl) (hS:S w:=by exact hHeld) (ha:a.put (some N) v=a':=by simp only[Act.put,zT,i64_w,i32_w];rfl):wpAnyLast P md ops Q S ds (fuel+1) l a w:=take_ _ hi hN hc hQ hy hS ha h
theorem zo (i:Nat) (N:Option Tmp) {oi:Oper} (h:∀ K:Act→World→Prop,Shut (∀ a' w',S w'→(S w'→wpAnyLast P md ops Q S ds fuel (l.setIfInBounds i true) a' w')→K a' w')→if Region.wanted oi (yielded ops a.tmps)=true then Oper.wp P oi a w K Q else K (a.put N undef) w) (hi:ops[i]?=some oi:=by exact rfl) (hN:oi.dst=N:=by exact rfl) (hc:readyB md ops l (l.setIfInBounds i true) i=true:=by first|exact one_of HT_.out (by kernel_rfl)|kernel_rfl) (hd:i ∉ ds:=by decide):wpAnyLast P md ops Q S ds (fuel+1) l a w:=one_ _ hi hN hc hd h
theorem zn {a':Act} (h:wpAnyLast P md ops Q S ds fuel l a' w) (ha:a=a':=by show Act.put _ (some _) _=_;simp only[Act.put,zT,i64_w,i32_w];rfl):wpAnyLast P md ops Q S ds fuel l a w:=norm_ ha h
end
end Go.Proofs.Ytglhniiabhknoaa

/- The same for rows whose elements hold rows. -/
import Derived.Test.YtglhniiabhknoaaGreatDoorZGCSays
import Derived.Test.YtglhniiabhknoaaGreatDoorZGCWLast
import Derived.Test.YtglhniiabhknoaaGreatDoorZGCWN
import Derived.Test.YtglhniiabhknoaaGreatDoorZGCWMore
import Derived.Test.YtglhniiabhknoaaGreatDoorZGCWNEv
set_option autoImplicit false
namespace Go.Proofs.YtglhniiabhknoaaGreatDoor
open Go.RowKit Go.Proofs.YtglhniiabhknoaaGreatDoorW.PrintWords Go.Proofs.YtglhniiabhknoaaGreatDoorW.PrintLast Go.Proofs.YtglhniiabhknoaaGreatDoorW.PrintMore
theorem zNl {α:Type} {P:Program} {ops:Array Oper} {Q:Exit→Act→World→Prop} {rest:List Oper} {o:Oper} {a:Act} {W:World} (d:Kd α) (e:Nat) (N':Tmp) {xs:List α} {inner:List Value} {ok:Nat→Prop} (hrep:Reps (Kd.FK d W ok) d.sz xs inner) (hf:∀ k,W.heap.size≤k→ok k)
    (h:∀ v1 w1,Kd.N d e w1 W.heap.size ok v1 xs→Below W.heap.size W w1→W.grownBy w1 none→(∃ b,v1.ownBlock=some b∧W.heap.size≤b)→wpList P ops Q rest (a.put o.dst v1) w1) (hd:o.dst=some N':=by exact rfl) (hgd:o.guard=none:=by exact rfl)
    (hrun:(execOp a.eval o).run P W=.ok (.value (.slice (some ⟨W.heap.size,0,none⟩) xs.length xs.length)) (W.alloc (.cells inner.toArray e)):=by first|(go_simp;done)|(go_simp;rfl)) (hm:xs.length≤9223372036854775807:=by simp):wpList P ops Q (o :: rest) a W:=Kd.N_lit d W.heap.size e hgd hd hrun hrep (fun _ hk=>hk) (hf _ (Nat.le_refl _)) (Below.refl _ _) (Nat.le_refl _) hm h
theorem zNt {α:Type} {d:Kd α} {e base:Nat} {w w':World} {ok:Nat→Prop} {v:Value} {xs:List α} (x:Kd.N d e w base ok v xs) (h:Kd.N d e w base ok v xs→Kd.N d e w' base ok v xs:=by intro x_;(with_reducible repeat(first|apply Kd.N_alloc|apply Kd.N_drewN|apply Kd.N_drew));exact x_):Kd.N d e w' base ok v xs:=h x
theorem zn4 {α:Type} {d':Kd α} {e' base g:Nat} {w:World} {ok:Nat→Prop} {u:Value} {xs:List α} {a b c d:Value} (x:Kd.N d' e' w base ok u xs) (n:∀ k,ok k→k≠g):Kd.N d' e' ((((w.setCell ⟨g,0,none⟩ a).setCell ⟨g,1,none⟩ b).setCell ⟨g,2,none⟩ c).setCell ⟨g,3,none⟩ d) base ok u xs:=Kd.N_far (p:=⟨g,3,none⟩) (Kd.N_far (p:=⟨g,2,none⟩) (Kd.N_far (p:=⟨g,1,none⟩) (Kd.N_far (p:=⟨g,0,none⟩) (x) n a) n b) n c) n d
end Go.Proofs.YtglhniiabhknoaaGreatDoor

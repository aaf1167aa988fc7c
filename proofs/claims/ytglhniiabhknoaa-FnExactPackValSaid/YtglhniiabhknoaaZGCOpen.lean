import Derived.Test.YtglhniiabhknoaaZGCWWords
import Derived.Deep.Slices
import Derived.ChangeArms
import Derived.WideShapes
set_option linter.unusedVariables false
set_option linter.unusedSimpArgs false
namespace Go.Proofs.Ytglhniiabhknoaa.Open
open Go.RowKit Go.Proofs.YtglhniiabhknoaaW.PrintWords Go.ChangeShapes Go.WideShapes
structure Opn {α:Type} (P:Program) (d:Kd α) (t:TypeId) (Ok:α→Prop) (m:Nat):Prop where
 down:∀ {H:Type} {enc:TypeId × Value→H} {w:World} {spare:Nat→Bool} {held:Bool} {fuel:Nat} {cs:List Value} {x:DataW H × List MemPlace},
  fuel≤m→DataW.trod enc P w 0 spare held fuel t cs=some x→cs.length=d.sz→∃ a,d.K w a cs∧Ok a
section
variable {P : Program} {t e : TypeId} {m : Nat}
theorem Opn.int {k:IntKind} (ht:P.underlying t=some (.int k)):Opn P (Kd.int k) t (fun n=>(Lit.int k n).wf=true) m:=
 ⟨fun _ h _=>by
  obtain⟨n,rfl,_,hw⟩:=DataW.trod_int ht h
  exact⟨n,rfl,hw⟩⟩
theorem Opn.bool (ht:P.underlying t=some .bool):Opn P Kd.bool t (fun _=>True) m:=
 ⟨fun _ h _=>by
  obtain⟨b,rfl,_⟩:=DataW.trod_bool ht h
  exact⟨b,rfl,trivial⟩⟩
theorem Opn.string (ht:P.underlying t=some .string):Opn P Kd.string t (fun s=>s.size≤maxLen) m:=
 ⟨fun _ h _=>by
  obtain⟨s,rfl,_,hs⟩:=DataW.trod_string ht h
  exact⟨s,rfl,hs⟩⟩
theorem row_of {α:Type} {d:Kd α} {Ok:α→Prop} {w:World} {a:Addr} {len:Nat} (hl:len≤maxLen)
  (h:∀ i,i<len→∃ cs',w.cells? 0 (a.add (i*d.sz)) d.sz=some cs'∧∃ x,d.K w x cs'∧Ok x) :
  ∃ xs:List α,xs.length=len∧d.C w (some a) xs.length xs∧∀ x∈xs,Ok x:=by
 classical
 have h':∀ i:Fin len,∃ x,∃ cs',w.cells? 0 (a.add (i.1*d.sz)) d.sz=some cs'∧d.K w x cs'∧Ok x:=fun i=>by
  obtain⟨cs',h1,x,h2,h3⟩:=h i.1 i.2
  exact⟨x,cs',h1,h2,h3⟩
 let f:Fin len→α:=fun i=>Classical.choose (h' i)
 have hf:∀ i:Fin len,∃ cs',w.cells? 0 (a.add (i.1*d.sz)) d.sz=some cs'∧d.K w (f i) cs'∧Ok (f i):=fun i=>Classical.choose_spec (h' i)
 refine⟨List.ofFn f,by simp,⟨by simp,by simp only[List.length_ofFn];unfold maxLen at hl;omega,fun _=>⟨a,rfl,fun j p hj=>?_⟩⟩,fun x hx=>?_⟩
 ·rw[List.getElem?_ofFn] at hj
  split at hj
  ·rename_i hlt
   obtain rfl:=Option.some.inj hj
   obtain⟨cs',h1,h2,_⟩:=hf ⟨j,hlt⟩
   obtain⟨_,hlen,hc⟩:=World.cells?_some h1
   refine⟨cs',hlen,h2,fun i u hu=>?_⟩
   have hi:i<d.sz:=by
    have:=(List.getElem?_eq_some_iff.1 hu).1
    omega
   have:=hc i hi
   rw[Go.Deep.add_add] at this
   rw[this,hu]
  ·cases hj
 ·obtain⟨i,rfl⟩:=List.mem_ofFn.1 hx
  obtain⟨_,_,_,h3⟩:=hf i
  exact h3
theorem Opn.slice {α:Type} {d:Kd α} {Ok:α→Prop} (ht:P.underlying t=some (.slice e)) (hc:P.cellsOf e=d.sz) (h:∀ m',m'<m→Opn P d e Ok m') :
  Opn P (Kd.slice e d) t (fun xs=>xs.length≤maxLen∧∀ x∈xs,Ok x) m:=
 ⟨by
  intro H enc w spare held fuel cs x hm hr hlen0
  rcases DataW.trod_slice ht hr with ⟨rfl,_⟩|⟨a,len,cap,elems,rest,n,hn,rfl,_,hb,hl,hmx,hlen,hel,_⟩
  ·exact⟨[],⟨none,0,rfl,Nat.le_refl _,Kd.C_nil d _⟩,by simp,by simp⟩
  ·obtain⟨xs,hx,hC,hO⟩:=row_of (d:=d) (Ok:=Ok) (w:=w) (a:=a) (len:=len) (by omega) (fun i hi=>by
    have k:=hel i hi
    rw[List.getElem?_eq_getElem (by omega)] at k
    obtain⟨cs',h1,h2⟩:=Option.bind_eq_some_iff.1 k
    rw[hc] at h1
    obtain⟨x,hx,ho⟩:=(h n (by omega)).down (Nat.le_refl _) h2 (World.cells?_some h1).2.1
    exact⟨cs',h1,x,hx,ho⟩)
   subst hx
   exact⟨xs,⟨some a,cap,rfl,hl,hC⟩,by omega,hO⟩⟩
theorem pair_cons {α β:Type} {A:Kd α} {B:Kd β} {w:World} {cs:List Value} {a:α} {b:β} (o:Nat) (h0:A.K w a ((cs.drop o).take A.sz)) (h1:B.K w b (cs.drop (o+A.sz))):(Kd.pair A B).K w (a,b) (cs.drop o):=
 ⟨_,_,(by rw[← List.drop_drop,List.take_append_drop]),h0,h1⟩
theorem last_of {α:Type} {d:Kd α} {w:World} {cs:List Value} {a:α} (o:Nat) (hl:cs.length=o+d.sz) (h:d.K w a ((cs.drop o).take d.sz)):d.K w a (cs.drop o):=by
 rwa [List.take_of_length_le (by rw[List.length_drop];omega)] at h
theorem first_of {α:Type} {d:Kd α} {w:World} {cs:List Value} {a:α} (h:d.K w a (cs.drop 0)):d.K w a cs:=h
theorem field_of {α:Type} {H:Type} {enc:TypeId × Value→H} {w:World} {spare:Nat→Bool} {held:Bool} {d:Kd α} {Ok:α→Prop} {fs:Array Field} {f:Field} {n:Nat} {cs:List Value} {xs:List (DataW H × List MemPlace)} (i:Nat) (o:Nat)
  (hx:xs.length=fs.size) (hf:∀ (i:Nat) (f:Field),fs[i]?=some f→DataW.trod enc P w 0 spare held n f.type ((cs.drop f.offset).take (P.cellsOf f.type))=xs[i]?)
  (hi:fs[i]?=some f) (ho:f.offset=o) (hc:P.cellsOf f.type=d.sz) (hl:o+d.sz≤cs.length) (h:Opn P d f.type Ok n):∃ a,d.K w a ((cs.drop o).take d.sz)∧Ok a:=by
 have k:=hf i f hi
 have hlt:i<xs.length:=by
  rw[hx]
  exact(Array.getElem?_eq_some_iff.1 hi).1
 rw[List.getElem?_eq_getElem hlt,ho,hc] at k
 exact h.down (Nat.le_refl _) k (by rw[List.length_take,List.length_drop];omega)
theorem top_struct {H:Type} {enc:TypeId × Value→H} {w:World} {spare:Nat→Bool} {held:Bool} {r:Reach} {b0:Nat} {v:Value} {D:DataW H} {ps:List MemPlace} {α:Type} {d:Kd α} {Ok:α→Prop} {fs:Array Field} (ht:P.underlying t=some (.struct fs))
  (hc:P.cellsOf t=d.sz) (hv:Value.okWide P w r b0 t v) (h:DataW.Trod enc P w 0 spare held t v D ps) (ho:∀ m,Opn P d t Ok m) :
  ∃ (cs:List Value) (x:α),v=.agg cs.toArray∧d.K w x cs∧Ok x:=by
 obtain⟨cs,rfl,hs⟩:=okWide_struct ht hv
 obtain⟨fuel,hf⟩:=h
 obtain⟨x,h1,h2⟩:=(ho fuel).down (Nat.le_refl _) hf (by show cs.toList.length=_;rw[Array.length_toList];omega)
 exact⟨cs.toList,x,by simp,h1,h2⟩
end
end Go.Proofs.Ytglhniiabhknoaa.Open

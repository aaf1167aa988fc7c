/- Rows whose elements lead to rows, told apart: what is stored into one says nothing of the others. -/
import Derived.Test.YtglhniiabhknoaaZGCWKept
import Derived.Test.YtglhniiabhknoaaZGCWMore
set_option linter.unusedVariables false
namespace Go.Proofs.Ytglhniiabhknoaa.Deep
open Go.RowKit Go.Proofs.YtglhniiabhknoaaW.PrintWords
section
variable {α : Type} {d : Kd α} {e g n cap base : Nat} {ok oki P Q : Nat → Prop} {w w1 w2 W : World} {v : Value} {xs : List α} {i : Int} {c : List Value}
/-- A flat row is its own block. -/
theorem R_flat (hE:d.E=[]) (h:d.R e w base ok v xs):d.R e w base (fun k=>some k=v.ownBlock) v xs:=Kd.R_tight hE h
theorem R_back (hE:d.E=[]) (h:d.R e w base P v xs) (hP:∀ k,v.ownBlock=some k→Q k):d.R e w base Q v xs:=Kd.R_mono (Kd.R_tight hE h) (fun k hk=>hP k hk.symm)
/-- A store into the lent element. -/
theorem H_put (h:Kd.H d e W base ok (.slice (some ⟨g,0,none⟩) n cap) xs i oki c) (h0:0≤i) (h1:i<n) {u:Value} (j:Nat) (hj:j<d.sz) (hc:c.length=d.sz) (hu:u.oneCell'=true) {W2:World} (hw:W2=W.setCell ⟨g,i.toNat*d.sz+j,none⟩ u) :
    Kd.H d e W2 base ok (.slice (some ⟨g,0,none⟩) n cap) xs i oki (c.set j u)∧W.grownBy W2 (some g):=by
  have h2:=Kd.H_seg h h0 h1 (seg:=[u]) (j:=j) (by simp;omega) (fun q hq=>by rw[List.mem_singleton.1 hq];exact hu)
  have e1:c.take j++[u]++c.drop (j + [u].length)=c.set j u:=by
    rw[List.set_eq_take_append_cons_drop,if_pos (by omega),List.append_assoc]
    rfl
  rw[e1] at h2
  subst hw
  exact h2
/-- The lent element's cells. -/
theorem H_cells (h:Kd.H d e W base ok (.slice (some ⟨g,0,none⟩) n cap) xs i oki c) (h0:0≤i) (h1:i<n) :
    (∀ j u,c[j]?=some u→W.cell? ⟨g,i.toNat*d.sz+j,none⟩=some u)∧∀ j,W.frozen? ⟨g,i.toNat*d.sz+j,none⟩=false:=by
  obtain⟨rows,_,hraw,_,_,hcc,_⟩:=Kd.H_raw h h0 h1
  obtain⟨_,_,_,_,hfr⟩:=Kd.R_elem hraw [] i h0 h1
  exact⟨hcc,hfr⟩
theorem H_own (h:Kd.H d e W base ok (.slice (some ⟨g,0,none⟩) n cap) xs i oki c):ok g∧¬oki g:=by
  obtain⟨_,f,hR⟩:=h
  have:=hR.1 g (by simp[Value.ownBlock])
  exact this
/-- A row that the lent element leads to has been written. -/
theorem H_call (h:Kd.H d e W base ok v xs i oki c) (hk:Kept W w2 P) (hP:∀ k,P k→oki k):Kd.H d e w2 base ok v xs i oki c:=
  Kd.H_kept h hk (fun k _ hn hp=>hn (hP k hp))
theorem R_oth {β:Type} {d':Kd β} {e':Nat} {ys:List β} {u:Value} (hE:d'.E=[]) (h:d'.R e' W base oki u ys) (hk:Kept W w2 P) (hP:∀ k,some k=u.ownBlock→¬P k):d'.R e' w2 base oki u ys:=
  Kd.R_mono (Kd.R_kept (Kd.R_tight hE h) hk (fun k hk'=>hP k hk')) (fun k hk'=>h.1 k hk'.symm)
/-- Two rows of different types are two blocks. -/
theorem R_two {β γ:Type} {d1:Kd β} {d2:Kd γ} {e1 e2:Nat} {b1 b2:Nat} {o1 o2:Nat→Prop} {ys:List β} {zs:List γ} {u1 u2:Value} (h1:d1.R e1 W b1 o1 u1 ys) (h2:d2.R e2 W b2 o2 u2 zs) (he:e1≠e2):∀ k,some k=u2.ownBlock→¬some k=u1.ownBlock:=fun k hk h=>by
  obtain⟨cells,hc⟩:=Kd.R_typed h2 k hk.symm
  exact Kd.R_ne h1 hc he h
/-- The list behind a store of its next element. -/
theorem set_next {α:Type} {done rest:List α} {x x':α} {i:Int} (hi:i=(done.length:Int)):(done++x :: rest).set i.toNat x'=(done++[x'])++rest:=by
  subst hi
  rw[Int.toNat_natCast,List.set_append_right _ _ (Nat.le_refl _),Nat.sub_self]
  simp
theorem get_next {α:Type} {done rest:List α} {x z:α} {i:Int} (hi:i=(done.length:Int)):(done++x :: rest).getD i.toNat z=x:=by
  subst hi
  rw[Int.toNat_natCast,List.getD_eq_getElem?_getD,List.getElem?_append_right (Nat.le_refl _),Nat.sub_self]
  rfl
end

/-! What a call makes is told apart from what was there: by the heap's size ahead of it. -/
section
variable {α : Type} {d : Kd α} {e base : Nat} {ok : Nat → Prop} {W w1 : World} {v : Value} {xs : List α} {T : Nat → Prop}
theorem named (hb:Below W.heap.size W w1):∃ T:Nat→Prop,∀ k,T k↔W.heap.size≤k:=⟨fun k=>W.heap.size≤k,fun _=>Iff.rfl⟩
theorem S_oldT (hT:∀ k,T k↔W.heap.size≤k) (h:Kd.S d e w1 base (fun k=>ok k∧k<W.heap.size) v xs):Kd.S d e w1 base (fun k=>ok k∧¬T k) v xs:=
  Kd.S_mono h (fun k hk=>⟨hk.1,fun ht=>by have:=(hT k).1 ht;have:=hk.2;omega⟩)
theorem N_oldT (hT:∀ k,T k↔W.heap.size≤k) (h:Kd.N d e w1 base (fun k=>ok k∧k<W.heap.size) v xs):Kd.N d e w1 base (fun k=>ok k∧¬T k) v xs:=
  Kd.N_mono h (fun k hk=>⟨hk.1,fun ht=>by have:=(hT k).1 ht;have:=hk.2;omega⟩)
theorem S_newT (hT:∀ k,T k↔W.heap.size≤k) (h:Kd.S d e w1 W.heap.size ok v xs):Kd.S d e w1 W.heap.size (fun k=>ok k∧T k) v xs:=
  Kd.S_mono (Kd.S_bound h) (fun k hk=>⟨hk.1,(hT k).2 hk.2.1⟩)
theorem R_newT (hT:∀ k,T k↔W.heap.size≤k) (h:Kd.R d e w1 W.heap.size ok v xs):Kd.R d e w1 W.heap.size (fun k=>ok k∧T k) v xs:=
  Kd.R_mono (Kd.R_bound h) (fun k hk=>⟨hk.1,(hT k).2 hk.2.1⟩)
end

/-! A literal whose elements lead to rows: each to the blocks of one that is given away. -/
section
variable {P : Program} {ops : Array Oper} {rest : List Oper} {o : Oper} {a : Act} {Q : Exit → Act → World → Prop} {Kc : Act → World → Prop} {α : Type}
theorem S_lit1 (d:Kd α) {W:World} (base e:Nat) (hgd:o.guard=none) {N:Tmp} (hd:o.dst=some N) {x0:α} {inner:List Value} {ok:Nat→Prop} (u0:Value)
    (hrun:(execOp a.eval o).run P W=.ok (.value (.slice (some ⟨W.heap.size,0,none⟩) [x0].length [x0].length)) (W.alloc (.cells inner.toArray e)))
    (hl0:inner.length=d.sz) (hp0:d.M W base (fun k=>some k=u0.ownBlock) x0 inner)
    (hok0:∀ k,some k=u0.ownBlock→ok k) (hfresh:ok W.heap.size) (hbase:base≤W.heap.size)
    (h:∀ v1 w1,Kd.S d e w1 base ok v1 [x0]→Below W.heap.size W w1→W.grownBy w1 none→(∃ b,v1.ownBlock=some b∧W.heap.size≤b)→wpList P ops Q rest (a.put o.dst v1) w1):wpList P ops Q (o :: rest) a W:=by
  refine Kd.S_lits d (w0:=W) (base:=base) (e:=e) hgd hd (xs:=[x0]) (inner:=inner) (ok:=ok) (fun j k=>j=0∧some k=u0.ownBlock) hrun (by rw[hl0];simp) (fun j x hj=>?_) (fun i j k hi hj=>by rw[hi.1,hj.1]) (fun j k hk=>hok0 k hk.2) hfresh (Below.refl _ _) hbase (by simp) (fun v1 w1 hS _ hg hat=>h v1 w1 hS (pw_below_grown (Below.refl _ _) none (Nat.le_refl _) hg (by simp)) hg hat)
  match j,hj with
  | 0,hj=>
    obtain rfl:x0=x:=by simpa using hj
    rw[Nat.zero_mul,List.drop_zero,← hl0,List.take_length]
    exact d.M_mono (fun k hk=>⟨rfl,hk⟩) hp0
theorem S_lit1_step (d:Kd α) {W:World} (base e:Nat) (hw:Region.wanted o (yielded ops a.tmps)=true) {N:Tmp} (hd:o.dst=some N) {x0:α} {inner:List Value} {ok:Nat→Prop} (u0:Value)
    (hrun:(execOp a.eval o).run P W=.ok (.value (.slice (some ⟨W.heap.size,0,none⟩) [x0].length [x0].length)) (W.alloc (.cells inner.toArray e)))
    (hl0:inner.length=d.sz) (hp0:d.M W base (fun k=>some k=u0.ownBlock) x0 inner)
    (hok0:∀ k,some k=u0.ownBlock→ok k) (hfresh:ok W.heap.size) (hbase:base≤W.heap.size)
    (h:∀ v1 w1,Kd.S d e w1 base ok v1 [x0]→Below W.heap.size W w1→W.grownBy w1 none→(∃ b,v1.ownBlock=some b∧W.heap.size≤b)→Kc (a.put o.dst v1) w1):if Region.wanted o (yielded ops a.tmps)=true then Oper.wp P o a W Kc Q else Kc (a.put o.dst undef) W:=by
  refine Kd.S_lits_step d (w0:=W) (base:=base) (e:=e) hw hd (xs:=[x0]) (inner:=inner) (ok:=ok) (fun j k=>j=0∧some k=u0.ownBlock) hrun (by rw[hl0];simp) (fun j x hj=>?_) (fun i j k hi hj=>by rw[hi.1,hj.1]) (fun j k hk=>hok0 k hk.2) hfresh (Below.refl _ _) hbase (by simp) (fun v1 w1 hS _ hg hat=>h v1 w1 hS (pw_below_grown (Below.refl _ _) none (Nat.le_refl _) hg (by simp)) hg hat)
  match j,hj with
  | 0,hj=>
    obtain rfl:x0=x:=by simpa using hj
    rw[Nat.zero_mul,List.drop_zero,← hl0,List.take_length]
    exact d.M_mono (fun k hk=>⟨rfl,hk⟩) hp0
theorem S_lit2 (d:Kd α) {W:World} (base e:Nat) (hgd:o.guard=none) {N:Tmp} (hd:o.dst=some N) {x0 x1:α} {inner:List Value} {ok:Nat→Prop} (u0 u1:Value) (c0 c1:List Value)
    (hrun:(execOp a.eval o).run P W=.ok (.value (.slice (some ⟨W.heap.size,0,none⟩) [x0,x1].length [x0,x1].length)) (W.alloc (.cells inner.toArray e)))
    (hin:inner=c0++c1) (hl0:c0.length=d.sz) (hl1:c1.length=d.sz) (hp0:d.M W base (fun k=>some k=u0.ownBlock) x0 c0) (hp1:d.M W base (fun k=>some k=u1.ownBlock) x1 c1)
    (hne:∀ k,some k=u0.ownBlock→some k≠u1.ownBlock) (hok0:∀ k,some k=u0.ownBlock→ok k) (hok1:∀ k,some k=u1.ownBlock→ok k) (hfresh:ok W.heap.size) (hbase:base≤W.heap.size)
    (h:∀ v1 w1,Kd.S d e w1 base ok v1 [x0,x1]→Below W.heap.size W w1→W.grownBy w1 none→(∃ b,v1.ownBlock=some b∧W.heap.size≤b)→wpList P ops Q rest (a.put o.dst v1) w1):wpList P ops Q (o :: rest) a W:=by
  refine Kd.S_lits d (w0:=W) (base:=base) (e:=e) hgd hd (xs:=[x0,x1]) (inner:=inner) (ok:=ok) (fun j k=>(j=0∧some k=u0.ownBlock)∨(j=1∧some k=u1.ownBlock)) hrun (by rw[hin,List.length_append,hl0,hl1];simp;omega) (fun j x hj=>?_) (fun i j k hi hj=>?_) (fun j k hk=>hk.elim (fun h=>hok0 k h.2) (fun h=>hok1 k h.2)) hfresh (Below.refl _ _) hbase (by simp) (fun v1 w1 hS _ hg hat=>h v1 w1 hS (pw_below_grown (Below.refl _ _) none (Nat.le_refl _) hg (by simp)) hg hat)
  · match j,hj with
    | 0,hj=>
      obtain rfl:x0=x:=by simpa using hj
      rw[Nat.zero_mul,List.drop_zero,hin,← hl0,List.take_left]
      exact d.M_mono (fun k hk=>.inl ⟨rfl,hk⟩) hp0
    | 1,hj=>
      obtain rfl:x1=x:=by simpa using hj
      rw[Nat.one_mul,hin,← hl0,List.drop_left,hl0,← hl1,List.take_length]
      exact d.M_mono (fun k hk=>.inr ⟨rfl,hk⟩) hp1
  · rcases hi with hi|hi <;> rcases hj with hj|hj
    · rw[hi.1,hj.1]
    · exact absurd hj.2 (hne k hi.2)
    · exact absurd hi.2 (hne k hj.2)
    · rw[hi.1,hj.1]
theorem S_lit2_step (d:Kd α) {W:World} (base e:Nat) (hw:Region.wanted o (yielded ops a.tmps)=true) {N:Tmp} (hd:o.dst=some N) {x0 x1:α} {inner:List Value} {ok:Nat→Prop} (u0 u1:Value) (c0 c1:List Value)
    (hrun:(execOp a.eval o).run P W=.ok (.value (.slice (some ⟨W.heap.size,0,none⟩) [x0,x1].length [x0,x1].length)) (W.alloc (.cells inner.toArray e)))
    (hin:inner=c0++c1) (hl0:c0.length=d.sz) (hl1:c1.length=d.sz) (hp0:d.M W base (fun k=>some k=u0.ownBlock) x0 c0) (hp1:d.M W base (fun k=>some k=u1.ownBlock) x1 c1)
    (hne:∀ k,some k=u0.ownBlock→some k≠u1.ownBlock) (hok0:∀ k,some k=u0.ownBlock→ok k) (hok1:∀ k,some k=u1.ownBlock→ok k) (hfresh:ok W.heap.size) (hbase:base≤W.heap.size)
    (h:∀ v1 w1,Kd.S d e w1 base ok v1 [x0,x1]→Below W.heap.size W w1→W.grownBy w1 none→(∃ b,v1.ownBlock=some b∧W.heap.size≤b)→Kc (a.put o.dst v1) w1):if Region.wanted o (yielded ops a.tmps)=true then Oper.wp P o a W Kc Q else Kc (a.put o.dst undef) W:=by
  refine Kd.S_lits_step d (w0:=W) (base:=base) (e:=e) hw hd (xs:=[x0,x1]) (inner:=inner) (ok:=ok) (fun j k=>(j=0∧some k=u0.ownBlock)∨(j=1∧some k=u1.ownBlock)) hrun (by rw[hin,List.length_append,hl0,hl1];simp;omega) (fun j x hj=>?_) (fun i j k hi hj=>?_) (fun j k hk=>hk.elim (fun h=>hok0 k h.2) (fun h=>hok1 k h.2)) hfresh (Below.refl _ _) hbase (by simp) (fun v1 w1 hS _ hg hat=>h v1 w1 hS (pw_below_grown (Below.refl _ _) none (Nat.le_refl _) hg (by simp)) hg hat)
  · match j,hj with
    | 0,hj=>
      obtain rfl:x0=x:=by simpa using hj
      rw[Nat.zero_mul,List.drop_zero,hin,← hl0,List.take_left]
      exact d.M_mono (fun k hk=>.inl ⟨rfl,hk⟩) hp0
    | 1,hj=>
      obtain rfl:x1=x:=by simpa using hj
      rw[Nat.one_mul,hin,← hl0,List.drop_left,hl0,← hl1,List.take_length]
      exact d.M_mono (fun k hk=>.inr ⟨rfl,hk⟩) hp1
  · rcases hi with hi|hi <;> rcases hj with hj|hj
    · rw[hi.1,hj.1]
    · exact absurd hj.2 (hne k hi.2)
    · exact absurd hi.2 (hne k hj.2)
    · rw[hi.1,hj.1]
end

section
open Classical
variable {P : Program} {ops : Array Oper} {rest : List Oper} {o : Oper} {a : Act} {Q : Exit → Act → World → Prop} {Kc : Act → World → Prop} {α : Type}
/-- append(v, u...): u's elements lead to blocks that are okp, v's to none of these. -/
theorem S_append_rows (d:Kd α) {w0 W:World} (base:Nat) (hgd:o.guard=none) (s x:Operand) (t e:TypeId) (z:Value) (bytes:Nat)
    (ho:o.op=.call { callee:=.builtin .append,args:=#[s,x],argTypes:=#[t,t] })
    (ht:P.underlying t=some (.slice e)) (hinfo:(P.info? e).map (fun i=>(i.zero,i.size,i.bytes))=some (some z,d.sz,bytes)) (hz:z.cells.size=d.sz) (hs0:0<d.sz) (hb0:0<bytes)
    (v:Value) (xs ys:List α) (A:Option Addr) (m c:Nat) (ok okp:Nat→Prop) (hs:a.eval s=v) (hx:a.eval x=.slice A m c)
    (HO:Kd.S d e W base (fun k=>ok k∧¬okp k) v xs) (HR:Kd.S d e W base okp (.slice A m c) ys) (hokp:∀ k,okp k→ok k∧some k≠v.ownBlock) (hfresh:∀ k,W.heap.size≤k→ok k)
    (HB:Below base w0 W) (hbase:base≤W.heap.size) (hl:(xs.length+m)*bytes≤140737488355328)
    (h:∀ v1 w1,Kd.S d e w1 base ok v1 (xs++ys)→Below base w0 w1→W.grownBy w1 v.ownBlock→(v1.ownBlock=v.ownBlock∨∃ b,v1.ownBlock=some b∧W.heap.size≤b)→wpList P ops Q rest (a.put o.dst v1) w1) :
    wpList P ops Q (o :: rest) a W:=by
  obtain⟨f,HO⟩:=HO
  obtain⟨g,HR⟩:=HR
  have hO:(Kd.tag (fun k=>if okp k then g k+xs.length else f k) d).R e W base ok v xs.zipIdx:=Kd.R_mono (Kd.R_tag HO (fun k hk _=>if_neg hk.2)) (fun _ hk=>hk.1)
  obtain⟨A',c',he,hle,hrd⟩:=OwnRow.reads HR.2
  injection he with e1 e2 e3
  subst e1 e2 e3
  have h2:ReadsRow ((Kd.tag (fun k=>if okp k then g k+xs.length else f k) d).M W base okp) d.sz W A ys.zipIdx.length (ys.zipIdx xs.length):=by
    refine⟨by rw[List.length_zipIdx,List.length_zipIdx],hrd.2.1,fun h0=>?_⟩
    obtain⟨ad,hA,hj⟩:=hrd.2.2 h0
    refine⟨ad,hA,fun j p hp=>?_⟩
    rw[List.getElem?_zipIdx] at hp
    obtain⟨y,hy,rfl⟩:=Option.map_eq_some_iff.1 hp
    obtain⟨cs,hc,hR,hi⟩:=hj j _ (Kd.zip_at hy)
    refine⟨cs,hc,d.M_mono (fun k hk=>⟨hk.1.1,?_⟩) hR,hi⟩
    show (if okp k then g k+xs.length else f k)=xs.length+j
    rw[if_pos hk.1.1,show g k=j from hk.2,Nat.add_comm]
  refine Kd.R_append_rows (Kd.tag (fun k=>if okp k then g k+xs.length else f k) d) base hgd s x t e z bytes ho ht hinfo hz hs0 hb0 v xs.zipIdx (ys.zipIdx xs.length) A _ c ok okp hs hx hO h2 (fun _ _ hk=>hk) hokp hfresh HB hbase (by rw[List.length_zipIdx];exact hl) ?_
  intro v1 w1 hr
  refine h v1 w1 ⟨fun k=>if okp k then g k+xs.length else f k,?_⟩
  rw[List.zipIdx_append,Nat.zero_add]
  exact hr
theorem S_append_rows_step (d:Kd α) {w0 W:World} (base:Nat) (hw:Region.wanted o (yielded ops a.tmps)=true) (s x:Operand) (t e:TypeId) (z:Value) (bytes:Nat)
    (ho:o.op=.call { callee:=.builtin .append,args:=#[s,x],argTypes:=#[t,t] })
    (ht:P.underlying t=some (.slice e)) (hinfo:(P.info? e).map (fun i=>(i.zero,i.size,i.bytes))=some (some z,d.sz,bytes)) (hz:z.cells.size=d.sz) (hs0:0<d.sz) (hb0:0<bytes)
    (v:Value) (xs ys:List α) (A:Option Addr) (m c:Nat) (ok okp:Nat→Prop) (hs:a.eval s=v) (hx:a.eval x=.slice A m c)
    (HO:Kd.S d e W base (fun k=>ok k∧¬okp k) v xs) (HR:Kd.S d e W base okp (.slice A m c) ys) (hokp:∀ k,okp k→ok k∧some k≠v.ownBlock) (hfresh:∀ k,W.heap.size≤k→ok k)
    (HB:Below base w0 W) (hbase:base≤W.heap.size) (hl:(xs.length+m)*bytes≤140737488355328)
    (h:∀ v1 w1,Kd.S d e w1 base ok v1 (xs++ys)→Below base w0 w1→W.grownBy w1 v.ownBlock→(v1.ownBlock=v.ownBlock∨∃ b,v1.ownBlock=some b∧W.heap.size≤b)→Kc (a.put o.dst v1) w1) :
    if Region.wanted o (yielded ops a.tmps)=true then Oper.wp P o a W Kc Q else Kc (a.put o.dst undef) W:=by
  obtain⟨f,HO⟩:=HO
  obtain⟨g,HR⟩:=HR
  have hO:(Kd.tag (fun k=>if okp k then g k+xs.length else f k) d).R e W base ok v xs.zipIdx:=Kd.R_mono (Kd.R_tag HO (fun k hk _=>if_neg hk.2)) (fun _ hk=>hk.1)
  obtain⟨A',c',he,hle,hrd⟩:=OwnRow.reads HR.2
  injection he with e1 e2 e3
  subst e1 e2 e3
  have h2:ReadsRow ((Kd.tag (fun k=>if okp k then g k+xs.length else f k) d).M W base okp) d.sz W A ys.zipIdx.length (ys.zipIdx xs.length):=by
    refine⟨by rw[List.length_zipIdx,List.length_zipIdx],hrd.2.1,fun h0=>?_⟩
    obtain⟨ad,hA,hj⟩:=hrd.2.2 h0
    refine⟨ad,hA,fun j p hp=>?_⟩
    rw[List.getElem?_zipIdx] at hp
    obtain⟨y,hy,rfl⟩:=Option.map_eq_some_iff.1 hp
    obtain⟨cs,hc,hR,hi⟩:=hj j _ (Kd.zip_at hy)
    refine⟨cs,hc,d.M_mono (fun k hk=>⟨hk.1.1,?_⟩) hR,hi⟩
    show (if okp k then g k+xs.length else f k)=xs.length+j
    rw[if_pos hk.1.1,show g k=j from hk.2,Nat.add_comm]
  refine Kd.R_append_rows_step (Kd.tag (fun k=>if okp k then g k+xs.length else f k) d) base hw s x t e z bytes ho ht hinfo hz hs0 hb0 v xs.zipIdx (ys.zipIdx xs.length) A _ c ok okp hs hx hO h2 (fun _ _ hk=>hk) hokp hfresh HB hbase (by rw[List.length_zipIdx];exact hl) ?_
  intro v1 w1 hr
  refine h v1 w1 ⟨fun k=>if okp k then g k+xs.length else f k,?_⟩
  rw[List.zipIdx_append,Nat.zero_add]
  exact hr
end

/-! Rows within rows, all of them apart: no two places of a value lead to one block. -/
/-- A row as a part of a value: its elements are apart. -/
def sslice {α:Type} (e:Nat) (d:Kd α):Kd (List α) where
  sz:=1
  E:=e :: d.E
  K:=fun w xs cs=>∃ A c,cs=[.slice A xs.length c]∧xs.length≤c∧d.C w A xs.length xs
  M:=fun w base ok xs cs=>∃ v,cs=[v]∧Kd.S d e w base ok v xs
  K_len:=by
    rintro w x cs ⟨A,c,rfl,_⟩
    rfl
  K_one:=by
    rintro w x cs ⟨A,c,rfl,_⟩ u hu
    rw[List.mem_singleton.1 hu]
    rfl
  K_below:=by
    rintro w w1 x cs hb ⟨A,c,rfl,hl,hr⟩
    exact⟨A,c,rfl,hl,Kd.C_below hr hb⟩
  K_of_M:=by
    rintro w base ok x cs ⟨v,rfl,h⟩
    obtain⟨A,c,rfl,hl,hr⟩:=Kd.S_reads h
    exact⟨A,c,rfl,hl,hr⟩
  M_mono:=by
    rintro w base ok ok' x cs hok ⟨v,rfl,h⟩
    exact⟨v,rfl,Kd.S_mono h hok⟩
  M_bound:=by
    rintro w base ok x cs ⟨v,rfl,h⟩
    exact⟨v,rfl,Kd.S_bound h⟩
  M_move:=by
    rintro w w1 base ok x cs hm ⟨v,rfl,h⟩
    exact⟨v,rfl,Kd.S_move h hm⟩
  M_lower:=by
    rintro w base base' ok x cs hb ⟨v,rfl,h⟩
    exact⟨v,rfl,Kd.S_lower h hb⟩
/-- Two in line that lead to different blocks. -/
def spair {α β:Type} (a:Kd α) (b:Kd β):Kd (α × β) where
  sz:=a.sz+b.sz
  E:=a.E++b.E
  K:=fun w x cs=>∃ c0 c1,cs=c0++c1∧a.K w x.1 c0∧b.K w x.2 c1
  M:=fun w base ok x cs=>∃ (c0 c1:List Value) (P:Nat→Prop),cs=c0++c1∧a.M w base (fun k=>ok k∧P k) x.1 c0∧b.M w base (fun k=>ok k∧¬P k) x.2 c1
  K_len:=by
    rintro w x cs ⟨c0,c1,rfl,h0,h1⟩
    rw[List.length_append,a.K_len h0,b.K_len h1]
  K_one:=by
    rintro w x cs ⟨c0,c1,rfl,h0,h1⟩ u hu
    rcases List.mem_append.1 hu with hu|hu
    · exact a.K_one h0 u hu
    · exact b.K_one h1 u hu
  K_below:=by
    rintro w w1 x cs hb ⟨c0,c1,rfl,h0,h1⟩
    exact⟨c0,c1,rfl,a.K_below hb h0,b.K_below hb h1⟩
  K_of_M:=by
    rintro w base ok x cs ⟨c0,c1,P,rfl,h0,h1⟩
    exact⟨c0,c1,rfl,a.K_of_M h0,b.K_of_M h1⟩
  M_mono:=by
    rintro w base ok ok' x cs hok ⟨c0,c1,P,rfl,h0,h1⟩
    exact⟨c0,c1,P,rfl,a.M_mono (fun k hk=>⟨hok k hk.1,hk.2⟩) h0,b.M_mono (fun k hk=>⟨hok k hk.1,hk.2⟩) h1⟩
  M_bound:=by
    rintro w base ok x cs ⟨c0,c1,P,rfl,h0,h1⟩
    refine⟨c0,c1,P,rfl,a.M_mono ?_ (a.M_bound h0),b.M_mono ?_ (b.M_bound h1)⟩
    · rintro k ⟨h2,h3,h4,q,hq,hc⟩
      exact⟨⟨h2.1,h3,h4,q,List.mem_append_left _ hq,hc⟩,h2.2⟩
    · rintro k ⟨h2,h3,h4,q,hq,hc⟩
      exact⟨⟨h2.1,h3,h4,q,List.mem_append_right _ hq,hc⟩,h2.2⟩
  M_move:=by
    rintro w w1 base ok x cs hm ⟨c0,c1,P,rfl,h0,h1⟩
    exact⟨c0,c1,P,rfl,a.M_move (fun k hk=>hm k hk.1) h0,b.M_move (fun k hk=>hm k hk.1) h1⟩
  M_lower:=by
    rintro w base base' ok x cs hb ⟨c0,c1,P,rfl,h0,h1⟩
    exact⟨c0,c1,P,rfl,a.M_lower hb h0,b.M_lower hb h1⟩
section
variable {α β γ : Type}
theorem S_imp {d d':Kd α} (hs:d.sz=d'.sz) (h:∀ w base ok x cs,d.M w base ok x cs→d'.M w base ok x cs) {e:Nat} {w:World} {base:Nat} {ok:Nat→Prop} {v:Value} {xs:List α} (hr:Kd.S d e w base ok v xs):Kd.S d' e w base ok v xs:=by
  obtain⟨f,hr⟩:=hr
  exact⟨f,Kd.R_imp (d:=Kd.tag f d) (d':=Kd.tag f d') hs (fun w base ok x cs hp=>h w base _ x.1 cs hp) hr⟩
theorem mono_sslice (e:Nat) {G:Kd α→Kd β} (hG:Kd.Mono G):Kd.Mono (fun d=>sslice e (G d)):=by
  refine⟨fun _ _ _=>rfl,?_,?_⟩
  · rintro d d' hs h w x cs ⟨A,c,rfl,hl,hr⟩
    exact⟨A,c,rfl,hl,Kd.C_imp (hG.sz d d' hs) (hG.K d d' hs h) hr⟩
  · rintro d d' hs h w base ok x cs ⟨v,rfl,hr⟩
    exact⟨v,rfl,S_imp (hG.sz d d' hs) (hG.M d d' hs h) hr⟩
theorem mono_spair {G:Kd α→Kd β} {H:Kd α→Kd γ} (hG:Kd.Mono G) (hH:Kd.Mono H):Kd.Mono (fun d=>spair (G d) (H d)):=by
  refine⟨fun d d' hs=>?_,?_,?_⟩
  · show (G d).sz+(H d).sz=(G d').sz+(H d').sz
    rw[hG.sz d d' hs,hH.sz d d' hs]
  · rintro d d' hs h w x cs ⟨c0,c1,rfl,h0,h1⟩
    exact⟨c0,c1,rfl,hG.K d d' hs h _ _ _ h0,hH.K d d' hs h _ _ _ h1⟩
  · rintro d d' hs h w base ok x cs ⟨c0,c1,P,rfl,h0,h1⟩
    exact⟨c0,c1,P,rfl,hG.M d d' hs h _ _ _ _ _ h0,hH.M d d' hs h _ _ _ _ _ h1⟩
theorem sub_sslice {E:List Nat} (e:Nat) {G:Kd α→Kd β} (he:e∈E) (hG:Kd.Sub G E):Kd.Sub (fun d=>sslice e (G d)) E:=fun d h q hq=>by
  rcases List.mem_cons.1 hq with rfl|hq
  · exact he
  · exact hG d h q hq
theorem sub_spair {E:List Nat} {G:Kd α→Kd β} {H:Kd α→Kd γ} (hG:Kd.Sub G E) (hH:Kd.Sub H E):Kd.Sub (fun d=>spair (G d) (H d)) E:=fun d h q hq=>by
  rcases List.mem_append.1 hq with hq|hq
  · exact hG d h q hq
  · exact hH d h q hq
variable {F : Kd α → Kd α} {sz : Nat} {E : List Nat} {hs : ∀ n, (Kd.upto F sz E n).sz = sz} {hE : ∀ n q, q ∈ (Kd.upto F sz E n).E → q ∈ E} {e base : Nat} {w : World} {ok : Nat → Prop} {v : Value} {xs : List α}
theorem fix_S {n:Nat} (h:Kd.S (Kd.upto F sz E n) e w base ok v xs):Kd.S (Kd.fix F sz E hs hE) e w base ok v xs:=S_imp (d':=Kd.fix F sz E hs hE) (hs n) (fun w base ok x cs hp=>(⟨n,hp⟩:∃ n,(Kd.upto F sz E n).M w base ok x cs)) h
theorem fix_S_back (hm:Kd.Mono F) (h:Kd.S (Kd.fix F sz E hs hE) e w base ok v xs):∃ n,Kd.S (Kd.upto F sz E n) e w base ok v xs:=by
  obtain⟨f,h0,inner,ho,hr⟩:=h
  obtain⟨N,hN⟩:=Kd.reps_bounded (R:=fun n p c=>(Kd.tag f (Kd.upto F sz E n)).M w base (fun k=>ok k∧some k≠v.ownBlock) p c) (fun n m p c hnm hp=>Kd.upto_M_le hm hs hnm hp) hr
  refine⟨N,f,h0,inner,?_,?_⟩
  · show w.ownsRow base e (Kd.upto F sz E N).sz v _ inner
    rw[hs N];exact ho
  · show Reps _ (Kd.upto F sz E N).sz _ inner
    rw[hs N];exact hN
theorem upto_S_le (hm:Kd.Mono F) (hs:∀ n,(Kd.upto F sz E n).sz=sz) {n m:Nat} (hnm:n≤m) (h:Kd.S (Kd.upto F sz E n) e w base ok v xs):Kd.S (Kd.upto F sz E m) e w base ok v xs:=S_imp (by rw[hs n,hs m]) (fun _ _ _ _ _ hp=>Kd.upto_M_le hm hs hnm hp) h
end
end Go.Proofs.Ytglhniiabhknoaa.Deep

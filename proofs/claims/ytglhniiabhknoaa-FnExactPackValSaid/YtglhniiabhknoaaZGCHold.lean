/- Several rows and boxes of one call, told together: each block has at most one owner. -/
import Derived.Test.YtglhniiabhknoaaZGCWKept
import Derived.Test.YtglhniiabhknoaaZGCWMore
import Derived.Test.YtglhniiabhknoaaZGCWApart
set_option linter.unusedVariables false
namespace Go.Proofs.Ytglhniiabhknoaa.Hold
open Go.RowKit Go.Proofs.YtglhniiabhknoaaW.PrintWords
/-- What is told of a world, where the blocks that it speaks of are ok. -/
structure Fact where
  F:World→(Nat→Prop)→Prop
  mono:∀ {W:World} {ok ok':Nat→Prop},(∀ k,ok k→ok' k)→F W ok→F W ok'
  bound:∀ {W:World} {ok:Nat→Prop},F W ok→F W (fun k=>ok k∧k<W.heap.size)
  step:∀ {W W2:World} {ok:Nat→Prop},F W ok→(∀ k,ok k→k<W.heap.size→W2.heap[k]?=W.heap[k]?)→F W2 ok
/-- A row whose elements are apart. -/
def SF {α:Type} (d:Kd α) (e b:Nat) (v:Value) (xs:List α):Fact where
  F W ok:=Kd.S d e W b ok v xs
  mono h x:=Kd.S_mono x h
  bound x:=Kd.S_mono (Kd.S_bound x) (fun k hk=>⟨hk.1,hk.2.2.1⟩)
  step x h:=Kd.S_step x h
/-- A row. -/
def RF {α:Type} (d:Kd α) (e b:Nat) (v:Value) (xs:List α):Fact where
  F W ok:=Kd.R d e W b ok v xs
  mono h x:=Kd.R_mono x h
  bound x:=Kd.R_mono (Kd.R_bound x) (fun k hk=>⟨hk.1,hk.2.2.1⟩)
  step x h:=Kd.R_step x h
/-- An element. -/
def EF {α:Type} (d:Kd α) (b:Nat) (x:α) (cs:List Value):Fact where
  F W ok:=d.M W b ok x cs
  mono h y:=d.M_mono h y
  bound y:=d.M_mono (fun k hk=>⟨hk.1,hk.2.2.1⟩) (d.M_bound y)
  step y h:=Kd.M_step y h
/-- Nothing. -/
def TF:Fact where
  F _ _:=True
  mono _ _:=trivial
  bound _:=trivial
  step _ _:=trivial
/-- The boxes (block, cells, type) and the facts, all apart. -/
structure St (w W:World) (bs:List (Nat × Array Value × Nat)) (Fs:List Fact):Prop where
  hb:Below w.heap.size w W
  bx:∀ b∈bs,W.heap[b.1]?=some (.cells b.2.1 b.2.2 (0,0))∧w.heap.size≤b.1
  nd:(bs.map (·.1)).Nodup
  ap:∃ col:Nat→Option Nat,(∀ b∈bs,col b.1=none)∧∀ (i:Nat) (F:Fact),Fs[i]?=some F→F.F W (fun k=>col k=some i)
section
variable {w W W2 : World} {bs bs' : List (Nat × Array Value × Nat)} {Fs : List Fact} {g g' t t' : Nat} {cs cs' : Array Value} {F G : Fact}
theorem St.start (w:World):St w w [] []:=⟨Below.refl _ _,by simp,List.nodup_nil,fun _=>none,by simp,by simp⟩
theorem St.below (h:St w W bs Fs) (hb:Below W.heap.size W W2):St w W2 bs Fs:=by
  obtain⟨col,h1,h2⟩:=h.ap
  exact⟨below_step h.hb hb,fun b hb'=>⟨blk_below (h.bx b hb').1 hb,(h.bx b hb').2⟩,h.nd,col,h1,fun i F hF=>F.step (h2 i F hF) (fun k _ hk=>hb.block k hk)⟩
theorem St.alloc (h:St w W bs Fs) (o:Obj):St w (W.alloc o) bs Fs:=h.below (below_alloc (Below.refl _ _) o)
theorem St.drew (h:St w W bs Fs):St w W.drew bs Fs:=h.below (below_drew (Below.refl _ _))
theorem St.drewN (h:St w W bs Fs) (m:Nat):St w (W.drewN m) bs Fs:=h.below (pw_below_drewN (Below.refl _ _) m)
theorem St.box (h:St w W bs Fs) (hg:g=W.heap.size) (hbox:W2.heap[g]?=some (.cells cs t (0,0))) (hb:Below W.heap.size W W2):St w W2 ((g,cs,t) :: bs) Fs:=by
  obtain⟨col,h1,h2⟩:=h.ap
  have hlt:∀ b∈bs,b.1<W.heap.size:=fun b hb'=>blk_lt (h.bx b hb').1
  refine⟨below_step h.hb hb,fun b hb'=>?_,?_,fun k=>if k=g then none else col k,fun b hb'=>?_,fun i F hF=>?_⟩
  · rcases List.mem_cons.1 hb' with rfl|hb'
    · exact⟨hbox,by show w.heap.size≤g;rw[hg];exact below_size h.hb⟩
    · exact⟨blk_below (h.bx b hb').1 hb,(h.bx b hb').2⟩
  · rw[List.map_cons,List.nodup_cons]
    refine⟨fun hm=>?_,h.nd⟩
    obtain⟨b,hb',e⟩:=List.mem_map.1 hm
    have:=hlt b hb'
    have e':b.1=g:=e
    omega
  · show (if b.1=g then none else col b.1)=none
    rcases List.mem_cons.1 hb' with rfl|hb'
    · exact if_pos rfl
    · split
      · rfl
      · exact h1 b hb'
  · refine F.mono (fun k hk=>?_) (F.step (F.bound (h2 i F hF)) (fun k _ hk=>hb.block k hk))
    show (if k=g then none else col k)=some i
    rw[if_neg (by have:=hk.2;omega)]
    exact hk.1
theorem St.mem {i:Nat} {b:Nat × Array Value × Nat} (hi:bs[i]?=some b):b∈bs:=List.mem_of_getElem? hi
theorem St.ne (h:St w W bs Fs) (i j:Nat) (hi:bs[i]?=some (g,cs,t)) (hj:bs[j]?=some (g',cs',t')) (hij:i≠j):g≠g':=by
  intro e
  have h1:(bs.map (·.1))[i]?=some g:=by rw[List.getElem?_map,hi];rfl
  have h2:(bs.map (·.1))[j]?=some g:=by rw[List.getElem?_map,hj,e];rfl
  have hl:=(List.getElem?_eq_some_iff.1 h1).1
  exact hij ((List.getElem?_inj hl h.nd).1 (h1.trans h2.symm))
theorem St.cell (h:St w W bs Fs) (i:Nat) (hi:bs[i]?=some (g,cs,t)) (j:Nat):W.cell? ⟨g,j,none⟩=cs[j]?:=blk_cell (h.bx _ (St.mem hi)).1 j
theorem St.frozen (h:St w W bs Fs) (i:Nat) (hi:bs[i]?=some (g,cs,t)) (j:Nat):W.frozen? ⟨g,j,none⟩=false:=blk_frozen (h.bx _ (St.mem hi)).1 j
theorem St.ge (h:St w W bs Fs) (i:Nat) (hi:bs[i]?=some (g,cs,t)):w.heap.size≤g:=(h.bx _ (St.mem hi)).2
theorem St.drop {b:Nat × Array Value × Nat} (h:St w W (b :: bs) Fs):St w W bs Fs:=by
  obtain⟨col,h1,h2⟩:=h.ap
  exact⟨h.hb,fun b hb=>h.bx b (List.mem_cons_of_mem _ hb),(List.nodup_cons.1 (by simpa using h.nd)).2,col,fun b hb=>h1 b (List.mem_cons_of_mem _ hb),h2⟩
theorem St.set (h:St w W bs Fs) (i:Nat) (hi:bs[i]?=some (g,cs,t)) (j:Nat) (v:Value) (hs:bs'=bs.set i (g,cs.setIfInBounds j v,t)):St w (W.setCell ⟨g,j,none⟩ v) bs' Fs:=by
  obtain⟨col,h1,h2⟩:=h.ap
  have hil:=(List.getElem?_eq_some_iff.1 hi).1
  have hm:∀ b∈bs',∃ n:Nat,(n=i∧b=(g,cs.setIfInBounds j v,t))∨(n≠i∧bs[n]?=some b):=by
    intro b hb
    rw[hs] at hb
    obtain⟨n,hn⟩:=List.getElem?_of_mem hb
    rw[List.getElem?_set] at hn
    split at hn
    · next e=>
      refine⟨n,.inl ⟨e.symm,?_⟩⟩
      first
        | exact(Option.some.inj hn).symm
        | (rw[if_pos (by omega)] at hn;exact(Option.some.inj hn).symm)
    · next e=>exact⟨n,.inr ⟨fun e'=>e e'.symm,hn⟩⟩
  refine⟨below_set h.hb (h.ge i hi),fun b hb=>?_,?_,col,fun b hb=>?_,fun i' F hF=>F.step (h2 i' F hF) (fun k hk _=>Below.heap_setCell W _ v k (fun e=>?_))⟩
  · obtain⟨n,⟨_,rfl⟩|⟨hn,hb'⟩⟩:=hm b hb
    · exact⟨blk_put (h.bx _ (St.mem hi)).1 j v rfl,h.ge i hi⟩
    · exact⟨blk_far (h.bx b (St.mem hb')).1 (p:=⟨g,j,none⟩) (h.ne n i hb' hi hn) v,(h.bx b (St.mem hb')).2⟩
  · rw[hs]
    have:(bs.set i (g,cs.setIfInBounds j v,t)).map (·.1)=bs.map (·.1):=by
      rw[List.map_set]
      refine List.ext_getElem? fun n=>?_
      rw[List.getElem?_set]
      split
      · next e=>
        subst e
        rw[if_pos (by rwa [List.length_map]),List.getElem?_map,hi]
        rfl
      · rfl
    rw[this]
    exact h.nd
  · obtain⟨n,⟨_,rfl⟩|⟨_,hb'⟩⟩:=hm b hb
    · exact h1 (g,cs,t) (St.mem hi)
    · exact h1 b (St.mem hb')
  · have e':k=g:=e
    have:=h1 _ (St.mem hi)
    rw[← e',hk] at this
    cases this
/-- A fact whose blocks are all new. -/
theorem St.add (h:St w W bs Fs) (hb:Below W.heap.size W W2) (F:Fact) (hF:F.F W2 (fun k=>W.heap.size≤k)):St w W2 bs (Fs++[F]):=by
  obtain⟨col,h1,h2⟩:=h.ap
  have hlt:∀ b∈bs,b.1<W.heap.size:=fun b hb'=>blk_lt (h.bx b hb').1
  refine⟨below_step h.hb hb,fun b hb'=>⟨blk_below (h.bx b hb').1 hb,(h.bx b hb').2⟩,h.nd,fun k=>if W.heap.size≤k then some Fs.length else if col k=some Fs.length then none else col k,fun b hb'=>?_,fun i G hG=>?_⟩
  · show (if W.heap.size≤b.1 then some Fs.length else if col b.1=some Fs.length then none else col b.1)=none
    rw[if_neg (by have:=hlt b hb';omega),h1 b hb']
    rfl
  · rw[List.getElem?_append] at hG
    split at hG
    · next hi=>
      refine G.mono (fun k hk=>?_) (G.step (G.bound (h2 i G hG)) (fun k _ hk=>hb.block k hk))
      show (if W.heap.size≤k then some Fs.length else if col k=some Fs.length then none else col k)=some i
      rw[if_neg (by have:=hk.2;omega),if_neg (by rw[hk.1];intro e;have:=Option.some.inj e;omega)]
      exact hk.1
    · next hi=>
      have hl:=(List.getElem?_eq_some_iff.1 hG).1
      rw[List.length_singleton] at hl
      have e:i=Fs.length:=by omega
      subst e
      rw[Nat.sub_self] at hG
      obtain rfl:F=G:=by simpa using hG
      exact F.mono (fun k hk=>if_pos hk) hF
theorem St.addNil (h:St w W bs Fs) (F:Fact) (hF:F.F W (fun _=>False)):St w W bs (Fs++[F]):=h.add (Below.refl _ _) F (F.mono (fun _ hk=>hk.elim) hF)
theorem St.pop (h:St w W bs (Fs++[F])):St w W bs Fs:=by
  obtain⟨col,h1,h2⟩:=h.ap
  exact⟨h.hb,h.bx,h.nd,col,h1,fun i G hG=>h2 i G (by rw[List.getElem?_append_left (List.getElem?_eq_some_iff.1 hG).1];exact hG)⟩
/-- Facts are left out, one is told anew. -/
theorem St.forget (h:St w W bs Fs) (Gs:List Fact) (hG:∀ (i:Nat) (G:Fact),Gs[i]?=some G→∀ ok:Nat→Prop,(∀ F:Fact,Fs[i]?=some F→F.F W ok)→G.F W ok):St w W bs Gs:=by
  obtain⟨col,h1,h2⟩:=h.ap
  exact⟨h.hb,h.bx,h.nd,col,h1,fun i G hi=>hG i G hi _ (fun F hF=>h2 i F hF)⟩
/-- The fact i is told anew, behind an event that touches its blocks, and new ones, alone. -/
theorem St.act (h:St w W bs Fs) (i:Nat) (hi:Fs[i]?=some F):∃ ok:Nat→Prop,F.F W ok∧(∀ k,W.heap.size≤k→ok k)∧∀ (row:Option Nat) (W2:World) (F':Fact),(∀ k,row=some k→ok k)→W.grownBy W2 row→Below w.heap.size w W2→F'.F W2 ok→St w W2 bs (Fs.set i F'):=by
  obtain⟨col,h1,h2⟩:=h.ap
  have hlt:∀ b∈bs,b.1<W.heap.size:=fun b hb'=>blk_lt (h.bx b hb').1
  have hcol:∀ k j,(if W.heap.size≤k then some i else col k)=some j→j≠i→col k=some j:=by
    intro k j hk hj
    split at hk
    · exact absurd (Option.some.inj hk).symm hj
    · exact hk
  refine⟨fun k=>(if W.heap.size≤k then some i else col k)=some i,F.mono (fun k hk=>?_) (F.bound (h2 i F hi)),fun k hk=>if_pos hk,fun row W2 F' hrow hg hb hF=>?_⟩
  · show (if W.heap.size≤k then some i else col k)=some i
    rw[if_neg (by have:=hk.2;omega)]
    exact hk.1
  · have hne:∀ k,k<W.heap.size→col k≠some i→some k≠row:=fun k hk hc e=>by
      have this:(if W.heap.size≤k then some i else col k)=some i:=hrow k e.symm
      rw[if_neg (by omega)] at this
      exact hc this
    refine⟨hb,fun b hb'=>⟨blk_grown (h.bx b hb').1 hg (hne b.1 (hlt b hb') (by rw[h1 b hb'];exact fun e=>by cases e)),(h.bx b hb').2⟩,h.nd,fun k=>if W.heap.size≤k then some i else col k,fun b hb'=>?_,fun j G hG=>?_⟩
    · show (if W.heap.size≤b.1 then some i else col b.1)=none
      rw[if_neg (by have:=hlt b hb';omega)]
      exact h1 b hb'
    · rw[List.getElem?_set] at hG
      split at hG
      · next e=>
        subst e
        rw[if_pos (List.getElem?_eq_some_iff.1 hi).1] at hG
        obtain rfl:=Option.some.inj hG
        exact hF
      · next e=>
        refine G.mono (fun k hk=>?_) (G.step (G.bound (h2 j G hG)) (fun k hk hk'=>hg.block k hk' (hne k hk' (by rw[hk.1];exact fun e'=>e (Option.some.inj e').symm))))
        show (if W.heap.size≤k then some i else col k)=some j
        rw[if_neg (by have:=hk.2;omega)]
        exact hk.1
/-- The facts that are used (u) go into one that is told anew, behind an event that touches its blocks (fact i's), and new ones, alone. -/
theorem St.use (h:St w W bs Fs) (i:Nat) (u:Nat→Bool):∃ (okj:Nat→Nat→Prop),(∀ (j:Nat) (F:Fact),Fs[j]?=some F→F.F W (okj j))∧(∀ j j' k,okj j k→okj j' k→j=j')∧(∀ j k,okj j k→k<W.heap.size) ∧
    ∀ (row:Option Nat) (W2:World) (F':Fact),(∀ k,row=some k→W.heap.size≤k∨okj i k)→W.grownBy W2 row→Below w.heap.size w W2→F'.F W2 (fun k=>W.heap.size≤k∨okj i k∨∃ j,u j=true∧okj j k)→St w W2 bs ((Fs.mapIdx fun j F=>if u j then TF else F).set i F'):=by
  obtain⟨col,h1,h2⟩:=h.ap
  have hlt:∀ b∈bs,b.1<W.heap.size:=fun b hb'=>blk_lt (h.bx b hb').1
  refine⟨fun j k=>col k=some j∧k<W.heap.size,fun j F hF=>F.bound (h2 j F hF),fun j j' k hj hj'=>Option.some.inj (hj.1.symm.trans hj'.1),fun j k hk=>hk.2,fun row W2 F' hrow hg hb hF=>?_⟩
  have hne:∀ k,k<W.heap.size→col k≠some i→some k≠row:=fun k hk hc e=>by
    rcases hrow k e.symm with h'|h'
    · omega
    · exact hc h'.1
  refine⟨hb,fun b hb'=>⟨blk_grown (h.bx b hb').1 hg (hne b.1 (hlt b hb') (by rw[h1 b hb'];exact fun e=>by cases e)),(h.bx b hb').2⟩,h.nd,
    fun k=>if W.heap.size≤k then some i else match col k with|some j=>if u j then some i else some j|none=>none,fun b hb'=>?_,fun j G hG=>?_⟩
  · show (if W.heap.size≤b.1 then some i else match col b.1 with|some j=>if u j then some i else some j|none=>none)=none
    rw[if_neg (by have:=hlt b hb';omega),h1 b hb']
  · rw[List.getElem?_set] at hG
    split at hG
    · next e=>
      subst e
      split at hG
      · obtain rfl:=Option.some.inj hG
        refine F'.mono (fun k hk=>?_) hF
        show (if W.heap.size≤k then some i else match col k with|some j=>if u j then some i else some j|none=>none)=some i
        rcases hk with hk|hk|⟨j,hj,hk⟩
        · exact if_pos hk
        · rw[if_neg (by have:=hk.2;omega),hk.1]
          show (if u i=true then some i else some i)=some i
          split <;> rfl
        · rw[if_neg (by have:=hk.2;omega),hk.1]
          show (if u j=true then some i else some j)=some i
          rw[if_pos hj]
      · cases hG
    · next e=>
      rw[List.getElem?_mapIdx] at hG
      obtain⟨F,hF,e2⟩:=Option.map_eq_some_iff.1 hG
      by_cases hu:u j=true
      · rw[if_pos hu] at e2
        subst e2
        trivial
      · rw[if_neg hu] at e2
        subst e2
        refine F.mono (fun k hk=>?_) (F.step (F.bound (h2 j F hF)) (fun k hk hk'=>hg.block k hk' (hne k hk' (by rw[hk.1];exact fun e'=>e (Option.some.inj e').symm))))
        show (if W.heap.size≤k then some i else match col k with|some j=>if u j then some i else some j|none=>none)=some j
        rw[if_neg (by have:=hk.2;omega),hk.1]
        show (if u j=true then some i else some j)=some j
        rw[if_neg hu]
/-- Two facts become one. -/
theorem St.join (h:St w W bs Fs) (i j:Nat) (hij:i≠j) (hi:Fs[i]?=some F) (hj:Fs[j]?=some G) (E:Fact) (hE:∀ okF okG ok:Nat→Prop,(∀ k,okF k→ok k)→(∀ k,okG k→ok k)→(∀ k,okF k→¬okG k)→F.F W okF→G.F W okG→E.F W ok):St w W bs ((Fs.set j TF).set i E):=by
  obtain⟨col,h1,h2⟩:=h.ap
  refine⟨h.hb,h.bx,h.nd,fun k=>if col k=some j then some i else col k,fun b hb=>?_,fun n H hH=>?_⟩
  · show (if col b.1=some j then some i else col b.1)=none
    rw[h1 b hb]
    rfl
  · rw[List.getElem?_set] at hH
    split at hH
    · next e=>
      subst e
      split at hH
      · obtain rfl:=Option.some.inj hH
        refine hE (fun k=>col k=some i) (fun k=>col k=some j) _ (fun k hk=>?_) (fun k hk=>if_pos hk) (fun k hk hk'=>hij (Option.some.inj (hk.symm.trans hk'))) (h2 i F hi) (h2 j G hj)
        show (if col k=some j then some i else col k)=some i
        split
        · rfl
        · exact hk
      · cases hH
    · next e=>
      rw[List.getElem?_set] at hH
      split at hH
      · split at hH
        · obtain rfl:=Option.some.inj hH
          trivial
        · cases hH
      · next e2=>
        refine H.mono (fun k hk=>?_) (h2 n H hH)
        show (if col k=some j then some i else col k)=some n
        rw[if_neg (by rw[hk];intro e3;exact e2 (Option.some.inj e3).symm)]
        exact hk
end
section
variable {P : Program} {ops : Array Oper} {rest : List Oper} {o : Oper} {a : Act} {Q : Exit → Act → World → Prop} {Kc : Act → World → Prop} {α : Type} {w W : World} {bs : List (Nat × Array Value × Nat)} {Fs : List Fact}
/-- append(v, x), behind 'at_builtin': the row is fact i, x leads to nothing. -/
theorem St.appendR (d:Kd α) {e:TypeId} {v:Value} {xs:List α} (i:Nat) (hst:St w W bs Fs) (hi:Fs[i]?=some (RF d e w.heap.size v xs)) (hgd:o.guard=none) (s x:Operand) (t:TypeId) (z:Value) (bytes:Nat)
    (ho:o.op=.call { callee:=.builtin .append,args:=#[s,x],argTypes:=#[t,t] })
    (ht:P.underlying t=some (.slice e)) (hinfo:(P.info? e).map (fun i=>(i.zero,i.size,i.bytes))=some (some z,d.sz,bytes)) (hz:z.cells.size=d.sz) (hs0:0<d.sz) (hb0:0<bytes)
    (p:α) (cs:List Value) (hs:a.eval s=v) (hx:a.eval x=.slice (some ⟨W.heap.size,0,none⟩) 1 1) (hp:d.M W w.heap.size (fun _=>False) p cs) (hl:(xs.length+1)*bytes≤140737488355328)
    (y:List α) (hy:y=xs++[p]) (h:∀ A c w1,St w w1 bs (Fs.set i (RF d e w.heap.size (.slice A y.length c) y))→wpList P ops Q rest (a.put o.dst (.slice A y.length c)) w1):wpList P ops Q (o :: rest) a (W.alloc (.cells cs.toArray e)):=by
  subst hy
  obtain⟨ok,hF,hfr,hk⟩:=hst.act i hi
  refine Kd.R_append d (w0:=w) w.heap.size hgd s x t e z bytes ho ht hinfo hz hs0 hb0 v xs p cs ok (fun _=>False) hs hx hp (fun _ hk=>hk.elim) hfr hF hst.hb (below_size hst.hb) hl ?_
  intro v1 w1 hr hb hg hat
  obtain⟨A,c,rfl⟩:=Kd.R_slice hr
  exact h A c w1 (hk v.ownBlock w1 _ (fun k e'=>hF.1 k e') hg hb hr)
theorem St.appendR_step (d:Kd α) {e:TypeId} {v:Value} {xs:List α} (i:Nat) (hst:St w W bs Fs) (hi:Fs[i]?=some (RF d e w.heap.size v xs)) (hw:Region.wanted o (yielded ops a.tmps)=true) (s x:Operand) (t:TypeId) (z:Value) (bytes:Nat)
    (ho:o.op=.call { callee:=.builtin .append,args:=#[s,x],argTypes:=#[t,t] })
    (ht:P.underlying t=some (.slice e)) (hinfo:(P.info? e).map (fun i=>(i.zero,i.size,i.bytes))=some (some z,d.sz,bytes)) (hz:z.cells.size=d.sz) (hs0:0<d.sz) (hb0:0<bytes)
    (p:α) (cs:List Value) (hs:a.eval s=v) (hx:a.eval x=.slice (some ⟨W.heap.size,0,none⟩) 1 1) (hp:d.M W w.heap.size (fun _=>False) p cs) (hl:(xs.length+1)*bytes≤140737488355328)
    (y:List α) (hy:y=xs++[p]) (h:∀ A c w1,St w w1 bs (Fs.set i (RF d e w.heap.size (.slice A y.length c) y))→Kc (a.put o.dst (.slice A y.length c)) w1):if Region.wanted o (yielded ops a.tmps)=true then Oper.wp P o a (W.alloc (.cells cs.toArray e)) Kc Q else Kc (a.put o.dst undef) (W.alloc (.cells cs.toArray e)):=by
  subst hy
  obtain⟨ok,hF,hfr,hk⟩:=hst.act i hi
  refine Kd.R_append_step d (w0:=w) w.heap.size hw s x t e z bytes ho ht hinfo hz hs0 hb0 v xs p cs ok (fun _=>False) hs hx hp (fun _ hk=>hk.elim) hfr hF hst.hb (below_size hst.hb) hl ?_
  intro v1 w1 hr hb hg hat
  obtain⟨A,c,rfl⟩:=Kd.R_slice hr
  exact h A c w1 (hk v.ownBlock w1 _ (fun k e'=>hF.1 k e') hg hb hr)
/-- append(v, x): the row is fact i, x is fact j, which goes into it. -/
theorem St.appendS (d:Kd α) {e:TypeId} {v:Value} {xs:List α} (i:Nat) (hst:St w W bs Fs) (hi:Fs[i]?=some (SF d e w.heap.size v xs)) (hgd:o.guard=none) (s x:Operand) (t:TypeId) (z:Value) (bytes:Nat)
    (ho:o.op=.call { callee:=.builtin .append,args:=#[s,x],argTypes:=#[t,t] })
    (ht:P.underlying t=some (.slice e)) (hinfo:(P.info? e).map (fun i=>(i.zero,i.size,i.bytes))=some (some z,d.sz,bytes)) (hz:z.cells.size=d.sz) (hs0:0<d.sz) (hb0:0<bytes)
    (j:Nat) (p:α) (cs:List Value) (hj:Fs[j]?=some (EF d w.heap.size p cs)) (hij:i≠j) (hs:a.eval s=v) (hx:a.eval x=.slice (some ⟨W.heap.size,0,none⟩) 1 1) (hl:(xs.length+1)*bytes≤140737488355328)
    (y:List α) (hy:y=xs++[p]) (h:∀ A c w1,St w w1 bs ((Fs.mapIdx fun n F=>if (n == j)=true then TF else F).set i (SF d e w.heap.size (.slice A y.length c) y))→wpList P ops Q rest (a.put o.dst (.slice A y.length c)) w1):wpList P ops Q (o :: rest) a (W.alloc (.cells cs.toArray e)):=by
  subst hy
  obtain⟨okj,hF,hne,hlt,hk⟩:=hst.use i (fun n=>n == j)
  have h1:=hF i _ hi
  have h2:=hF j _ hj
  refine Kd.S_append d (w0:=w) w.heap.size hgd s x t e z bytes ho ht hinfo hz hs0 hb0 v xs p cs (fun k=>W.heap.size≤k∨okj i k∨∃ n,(n == j)=true∧okj n k) (okj j) hs hx h2 (fun k hk=>⟨.inr (.inr ⟨j,by simp,hk⟩),fun e'=>hij (hne i j k ((Kd.S_R h1).1 k e'.symm) hk)⟩) (fun k hk=>.inl hk) (Kd.S_mono h1 (fun k hk=>⟨.inr (.inl hk),fun hk'=>hij (hne i j k hk hk')⟩)) hst.hb (below_size hst.hb) hl ?_
  intro v1 w1 hr hb hg hat
  obtain⟨A,c,rfl⟩:=Kd.S_slice hr
  exact h A c w1 (hk v.ownBlock w1 _ (fun k e'=>.inr ((Kd.S_R h1).1 k e')) hg hb hr)
theorem St.appendS_step (d:Kd α) {e:TypeId} {v:Value} {xs:List α} (i:Nat) (hst:St w W bs Fs) (hi:Fs[i]?=some (SF d e w.heap.size v xs)) (hw:Region.wanted o (yielded ops a.tmps)=true) (s x:Operand) (t:TypeId) (z:Value) (bytes:Nat)
    (ho:o.op=.call { callee:=.builtin .append,args:=#[s,x],argTypes:=#[t,t] })
    (ht:P.underlying t=some (.slice e)) (hinfo:(P.info? e).map (fun i=>(i.zero,i.size,i.bytes))=some (some z,d.sz,bytes)) (hz:z.cells.size=d.sz) (hs0:0<d.sz) (hb0:0<bytes)
    (j:Nat) (p:α) (cs:List Value) (hj:Fs[j]?=some (EF d w.heap.size p cs)) (hij:i≠j) (hs:a.eval s=v) (hx:a.eval x=.slice (some ⟨W.heap.size,0,none⟩) 1 1) (hl:(xs.length+1)*bytes≤140737488355328)
    (y:List α) (hy:y=xs++[p]) (h:∀ A c w1,St w w1 bs ((Fs.mapIdx fun n F=>if (n == j)=true then TF else F).set i (SF d e w.heap.size (.slice A y.length c) y))→Kc (a.put o.dst (.slice A y.length c)) w1):if Region.wanted o (yielded ops a.tmps)=true then Oper.wp P o a (W.alloc (.cells cs.toArray e)) Kc Q else Kc (a.put o.dst undef) (W.alloc (.cells cs.toArray e)):=by
  subst hy
  obtain⟨okj,hF,hne,hlt,hk⟩:=hst.use i (fun n=>n == j)
  have h1:=hF i _ hi
  have h2:=hF j _ hj
  refine Kd.S_append_step d (w0:=w) w.heap.size hw s x t e z bytes ho ht hinfo hz hs0 hb0 v xs p cs (fun k=>W.heap.size≤k∨okj i k∨∃ n,(n == j)=true∧okj n k) (okj j) hs hx h2 (fun k hk=>⟨.inr (.inr ⟨j,by simp,hk⟩),fun e'=>hij (hne i j k ((Kd.S_R h1).1 k e'.symm) hk)⟩) (fun k hk=>.inl hk) (Kd.S_mono h1 (fun k hk=>⟨.inr (.inl hk),fun hk'=>hij (hne i j k hk hk')⟩)) hst.hb (below_size hst.hb) hl ?_
  intro v1 w1 hr hb hg hat
  obtain⟨A,c,rfl⟩:=Kd.S_slice hr
  exact h A c w1 (hk v.ownBlock w1 _ (fun k e'=>.inr ((Kd.S_R h1).1 k e')) hg hb hr)
/-- A literal whose elements are the facts that 'ix' tells; they go into it. -/
theorem St.lits_step (d:Kd α) (hst:St w W bs Fs) (e:Nat) (hw:Region.wanted o (yielded ops a.tmps)=true) {N:Tmp} (hd:o.dst=some N) {xs:List α} {inner:List Value} (ix:Nat→Nat)
    (hrun:(execOp a.eval o).run P W=.ok (.value (.slice (some ⟨W.heap.size,0,none⟩) xs.length xs.length)) (W.alloc (.cells inner.toArray e)))
    (hl:inner.length=xs.length*d.sz) (hix:∀ i j,ix i=ix j→i=j) (hrep:∀ j x,xs[j]?=some x→Fs[ix j]?=some (EF d w.heap.size x ((inner.drop (j*d.sz)).take d.sz))) (u:Nat→Bool) (hu:∀ j,j<xs.length→u (ix j)=true) (hm:xs.length≤9223372036854775807) (m:Nat) (hmF:Fs[m]?=some TF)
    (y:List α) (hy:y=xs) (h:∀ A c w1,St w w1 bs ((Fs.mapIdx fun n F=>if u n=true then TF else F).set m (SF d e w.heap.size (.slice A y.length c) y))→Kc (a.put o.dst (.slice A y.length c)) w1):if Region.wanted o (yielded ops a.tmps)=true then Oper.wp P o a W Kc Q else Kc (a.put o.dst undef) W:=by
  subst hy
  obtain⟨okj,hF,hne,hlt,hk⟩:=hst.use m u
  refine Kd.S_lits_step d (w0:=w) (W:=W) w.heap.size e hw hd (xs:=y) (inner:=inner) (ok:=fun k=>W.heap.size≤k∨okj m k∨∃ j,u j=true∧okj j k) (fun j k=>j<y.length∧okj (ix j) k) hrun hl (fun j x hj=>?_) (fun i j k hi hj=>hix i j (hne _ _ k hi.2 hj.2)) (fun j k hk=>.inr (.inr ⟨ix j,hu j hk.1,hk.2⟩)) (.inl (Nat.le_refl _)) hst.hb (below_size hst.hb) hm ?_
  · exact d.M_mono (fun k hk=>⟨(List.getElem?_eq_some_iff.1 hj).1,hk⟩) (hF _ _ (hrep j x hj))
  · intro v1 w1 hr hb hg hat
    obtain⟨A,c,rfl⟩:=Kd.S_slice hr
    exact h A c w1 (hk none w1 _ (fun k e'=>by cases e') hg hb hr)
/-- A literal whose elements lead to nothing. -/
theorem St.litR_step (d:Kd α) (hst:St w W bs Fs) (e:Nat) (hw:Region.wanted o (yielded ops a.tmps)=true) {N:Tmp} (hd:o.dst=some N) {xs:List α} {inner:List Value}
    (hrun:(execOp a.eval o).run P W=.ok (.value (.slice (some ⟨W.heap.size,0,none⟩) xs.length xs.length)) (W.alloc (.cells inner.toArray e)))
    (hrep:Reps (d.M W w.heap.size (fun _=>False)) d.sz xs inner) (hm:xs.length≤9223372036854775807) (m:Nat) (hmF:Fs[m]?=some TF)
    (y:List α) (hy:y=xs) (h:∀ A c w1,St w w1 bs (Fs.set m (RF d e w.heap.size (.slice A y.length c) y))→Kc (a.put o.dst (.slice A y.length c)) w1):if Region.wanted o (yielded ops a.tmps)=true then Oper.wp P o a W Kc Q else Kc (a.put o.dst undef) W:=by
  subst hy
  obtain⟨ok,hF,hfr,hk⟩:=hst.act m hmF
  refine Kd.R_lit_step d (w0:=w) (W:=W) w.heap.size e hw hd (xs:=y) (inner:=inner) (ok:=ok) (okp:=fun _=>False) hrun hrep (fun _ h=>h.elim) (hfr _ (Nat.le_refl _)) hst.hb (below_size hst.hb) hm ?_
  intro v1 w1 hr hb hg hat
  obtain⟨A,c,rfl⟩:=Kd.R_slice hr
  exact h A c w1 (hk none w1 _ (fun k e'=>by cases e') hg hb hr)
end
/-- The last two facts, as a call tells them. -/
theorem St.fin {α β:Type} {w W:World} {bs:List (Nat × Array Value × Nat)} {Fs:List Fact} (h:St w W bs Fs) {d:Kd α} {d':Kd β} {e e':Nat} {v v':Value} {xs:List α} {ys:List β} (i j:Nat) (hij:i≠j) (hi:Fs[i]?=some (SF d e w.heap.size v xs)) (hj:Fs[j]?=some (RF d' e' w.heap.size v' ys)) :
    Kd.S d e W w.heap.size (fun k=>some k≠v'.ownBlock) v xs∧Kd.R d' e' W w.heap.size (fun _=>True) v' ys:=by
  obtain⟨okj,hF,hne,hlt,hk⟩:=h.use 0 (fun _=>false)
  have h1:=hF i _ hi
  have h2:=hF j _ hj
  exact⟨Kd.S_mono h1 (fun k hk e0=>hij (hne i j k hk (h2.1 k e0.symm))),Kd.R_mono h2 (fun _ _=>trivial)⟩
theorem St.sliceS {α:Type} {w W:World} {bs:List (Nat × Array Value × Nat)} {Fs:List Fact} (h:St w W bs Fs) {d:Kd α} {e b:Nat} {v:Value} {xs:List α} (i:Nat) (hi:Fs[i]?=some (SF d e b v xs)):∃ A c,v=.slice A xs.length c:=by
  obtain⟨col,h1,h2⟩:=h.ap
  exact Kd.S_slice (h2 i _ hi)
theorem St.sliceR {α:Type} {w W:World} {bs:List (Nat × Array Value × Nat)} {Fs:List Fact} (h:St w W bs Fs) {d:Kd α} {e b:Nat} {v:Value} {xs:List α} (i:Nat) (hi:Fs[i]?=some (RF d e b v xs)):∃ A c,v=.slice A xs.length c:=by
  obtain⟨col,h1,h2⟩:=h.ap
  exact Kd.R_slice (h2 i _ hi)
/-- The places of four elements among six facts. -/
def ix4:Nat→Nat
  | 0=>4
  | 1=>0
  | 2=>2
  | 3=>5
  | j+4=>j+10
theorem ix4_inj:∀ i j,ix4 i=ix4 j→i=j:=by
  rintro(_|_|_|_|i) (_|_|_|_|j) h <;> simp[ix4] at h ⊢ <;> omega
end Go.Proofs.Ytglhniiabhknoaa.Hold

/- What the functions come to. -/
import Derived.Test.YtglhniiabhknoaaGreatDoorZGBGBPureAllFnRanges
import Derived.Test.YtglhniiabhknoaaGreatDoorZGBSGBFnRanges
import Derived.Test.YtglhniiabhknoaaGreatDoorZGBPGBx29
set_option linter.unusedVariables false
set_option linter.unusedSimpArgs false
namespace Go.Proofs.YtglhniiabhknoaaGreatDoor.Pure
open Go.RowKit Go.Proofs.YtglhniiabhknoaaGreatDoor.PGB Go.Proofs.YtglhniiabhknoaaGreatDoorW.PrintWords Go.Proofs.YtglhniiabhknoaaGreatDoorW.PrintLast Go.Proofs.YtglhniiabhknoaaGreatDoor.Aux
def Fit (l:List ByteArray):Prop:=l.length≤4∧∀ z∈l,z.size≤16777216
theorem Fit.len {l:List ByteArray} (h:Fit l):l.length≤9223372036854775807:=by have:=h.1;omega
theorem Fit.short {l:List ByteArray} (h:Fit l):∀ x∈l,x.size≤9223372036854775807:=fun x hx=>by have:=h.2 x hx;omega
theorem Fit.few {n:Nat} {l:List ByteArray} (h:Few n l) (hn:n≤4):Fit l:=⟨by have:=h.1;omega,fun z hz=>by have:=h.2 z hz;omega⟩
theorem Fit.join {l:List ByteArray} (h:Fit l):joinN l dot≤100000000:=by
 have h1:=joinN_le 16777216 dot l h.2
 have h2:l.length*(dot.size+16777216)≤4*(dot.size+16777216):=Nat.mul_le_mul_right _ h.1
 rw[show dot.size=1 from rfl] at h1 h2
 omega
def FitR (r:List (List CmpT)):Prop:=r.length≤5∧∀ y∈r,y.length≤4∧∀ x∈y,Fit x.f1.f3
theorem FitR.st {r:List (List CmpT)} (h:FitR r):∀ y∈r,y.length≤9223372036854775807∧∀ x∈y,stS x:=fun y hy=>⟨by have:=(h.2 y hy).1;omega,fun x hx=>⟨((h.2 y hy).2 x hx).len,((h.2 y hy).2 x hx).short⟩⟩
theorem FitR.tx {r:List (List CmpT)} (h:FitR r):∀ y∈r,y.length≤1048576∧∀ x∈y,stR x:=fun y hy=>⟨by have:=(h.2 y hy).1;omega,fun x hx=>⟨((h.2 y hy).2 x hx).len,((h.2 y hy).2 x hx).short,by have:=((h.2 y hy).2 x hx).join;omega⟩⟩
theorem fit_range {s:ByteArray} (hs:s.size≤16777216):FitR (rangeR s).1:=by
 obtain⟨h1,h2⟩:=range_small hs
 refine⟨by omega,fun y hy=>⟨(h2 y hy).1,fun x hx=>?_⟩⟩
 have:=(h2 y hy).2 x hx
 exact⟨by have:=this.1;omega,this.2⟩
theorem rangeT_size {r:List (List CmpT)} (h:FitR r):(rangeT r).size≤16777216:=by
 have h1:∀ x∈r.map (fun l=>joinB (cmpsP l) sp1),x.size≤372:=by
  intro x hx
  obtain⟨y,hy,rfl⟩:=List.mem_map.1 hx
  have g1:=joinB_size (cmpsP y) sp1
  have g2:=inner_N y
  have g3:=(h.2 y hy).1
  show (joinB (cmpsP y) sp1).size≤372
  omega
 have h2:=joinN_le 372 or4 _ h1
 have h3:=joinB_size (r.map fun l=>joinB (cmpsP l) sp1) or4
 rw[List.length_map,show or4.size=4 from rfl] at h2
 have h4:r.length*(4+372)≤5*(4+372):=Nat.mul_le_mul_right _ h.1
 show (joinB (r.map fun l=>joinB (cmpsP l) sp1) or4).size≤_
 omega
/-! The draws. -/
theorem draw_word_j (t:ByteArray) (ht:t.size≤90) (b:List Int) (i h:Int) (hc:Cur b i):Got (fun k=>spec_l4OneWord.j0 k t b i h) fun r=>r.1.size≤100∧Cur b r.2.1:=by
 refine Got.succ ?_
 simp only[spec_l4OneWord.j0]
 refine Got.bind (draw_str _ _ _ _ (by simp) (by simp) hc) fun r hr=>?_
 have z:r.1.size≤9:=by
  have hm:=hr.1
  simp only[List.mem_cons,List.not_mem_nil,or_false] at hm
  rcases hm with e|e|e|e|e|e|e|e|e|e <;> rw[e] <;> decide
 refine Got.cond (fun _=>Got.some ⟨?_,hr.2⟩) (fun h=>absurd (by omega) h)
 rw[ByteArray.size_append]
 omega
theorem draw_verText (b:List Int) (v:Int × Int × Int × List ByteArray × Int × Int) (hv:Few 2 v.2.2.2.1):Got (fun k=>spec_VerText.f k v.1 v.2.1 v.2.2.1 v.2.2.2.1) fun t=>t.size≤90:=by
 have hn:=joinN_few hv
 refine Got.of (spec_vertext _ _ _ _ (hv.len (by omega)) hv.short (by omega)) ?_
 exact verT_size _ _ _ _
theorem draw_word (b:List Int) (i h:Int) (hc:Cur b i):Got (fun k=>spec_l4OneWord.f k b i h) fun r=>r.1.size≤100∧Cur b r.2.1:=by
 unfold spec_l4OneWord.f
 refine Got.bind (draw_ver b i h hc) fun r hr=>?_
 refine Got.bind (draw_verText b r hr.1) fun t ht=>?_
 refine Got.bind (draw_once b _ _ 3 (by omega) (by omega) hr.2) fun r2 h2=>?_
 refine Got.cond (fun _=>?_) (fun _=>draw_word_j t ht _ _ _ h2)
 refine Got.bind (draw_str _ _ _ _ (by simp) (by simp) h2) fun r3 h3=>?_
 have z:r3.1.size≤90:=by
  have hm:=h3.1
  simp only[List.mem_cons,List.not_mem_nil,or_false] at hm
  rcases hm with e|e|e|e|e|e|e|e <;> rw[e] <;> decide
 exact draw_word_j _ z _ _ _ h3.2
theorem draw_text (b:List Int) (i h:Int) (hc:Cur b i):Got (fun k=>spec_l4Text.f k b i h) fun r=>r.1.size≤300∧Cur b r.2.1:=by
 unfold spec_l4Text.f
 refine Got.bind (draw_word b i h hc) fun r hr=>?_
 refine Got.bind (draw_below _ _ _ 6 (by omega) (by omega) hr.2) fun r1 h1=>?_
 refine Got.cond (fun _=>Got.some ⟨by show (1:Nat)≤300;omega,h1.2⟩) (fun _=>?_)
 refine Got.cond (fun _=>?_) (fun _=>?_)
 ·refine Got.cond (fun _=>?_) (fun h=>absurd (by omega) h)
  refine Got.bind (draw_word _ _ _ h1.2) fun r2 h2=>?_
  have e1:(r.1++(⟨#[32]⟩:ByteArray)).size=r.1.size+1:=by rw[ByteArray.size_append];rfl
  refine Got.cond (fun _=>Got.some ⟨?_,h2.2⟩) (fun h=>absurd (by omega) h)
  rw[ByteArray.size_append,e1]
  omega
 refine Got.cond (fun _=>?_) (fun _=>?_)
 ·refine Got.cond (fun _=>?_) (fun h=>absurd (by omega) h)
  refine Got.bind (draw_word _ _ _ h1.2) fun r2 h2=>?_
  have e1:(r.1++(⟨#[32,124,124,32]⟩:ByteArray)).size=r.1.size+4:=by rw[ByteArray.size_append];rfl
  refine Got.cond (fun _=>Got.some ⟨?_,h2.2⟩) (fun h=>absurd (by omega) h)
  rw[ByteArray.size_append,e1]
  omega
 refine Got.cond (fun _=>?_) (fun _=>Got.some ⟨by show r.1.size≤300;omega,h1.2⟩)
 refine Got.bind (draw_ver _ _ _ h1.2) fun r2 h2=>?_
 refine Got.bind (draw_verText b r2 h2.1) fun t ht=>?_
 refine Got.cond (fun _=>?_) (fun h=>absurd (by omega) h)
 refine Got.bind (draw_ver _ _ _ h2.2) fun r3 h3=>?_
 refine Got.bind (draw_verText b r3 h3.1) fun t2 ht2=>?_
 have e1:(t++(⟨#[32,45,32]⟩:ByteArray)).size=t.size+3:=by rw[ByteArray.size_append];rfl
 refine Got.cond (fun _=>Got.some ⟨?_,h3.2⟩) (fun h=>absurd (by omega) h)
 rw[ByteArray.size_append,e1]
 omega
theorem draw_range (b:List Int) (i h:Int) (hc:Cur b i):Got (fun k=>spec_l4Draw.f k b i h) fun r=>(r.1.length≤4∧FitR r.1)∧Cur b r.2.1:=by
 unfold spec_l4Draw.f
 refine Got.bind (draw_text b i h hc) fun r hr=>?_
 have hs:r.1.size≤16777216:=by have:=hr.1;omega
 exact Got.bind (Got.of (spec_range r.1 hs) rfl) fun r2 h2=>Got.some ⟨by show r2.1.length≤4∧FitR r2.1;rw[← h2];exact⟨(range_small hs).1,fit_range hs⟩,hr.2⟩
theorem draw_parseRange (l:List Int) (hl:l.length≤1048576):Got (fun k=>spec_DrawParseRange.f k l) fun r=>r.size≤16777216:=by
 unfold spec_DrawParseRange.f
 refine Got.bind (draw_new l (by omega)) fun r0 h0=>?_
 refine Got.bind (draw_text _ _ _ (cur_new (by omega) h0)) fun r1 h1=>?_
 have hs:=h1.1
 refine Got.bind (draw_below _ _ _ 5 (by omega) (by omega) h1.2) fun r2 h2=>?_
 refine Got.cond (fun _=>?_) (fun _=>?_)
 ·refine Got.bind (draw_str _ _ _ _ (by simp) (by simp) h2.2) fun r3 h3=>Got.some ?_
  have hm:=h3.1
  simp only[List.mem_cons,List.not_mem_nil,or_false] at hm
  rcases hm with e|e|e|e|e|e|e|e|e|e|e|e|e|e|e|e|e|e|e <;> rw[e] <;> decide
 refine Got.cond (fun _=>?_) (fun _=>Got.some (by omega))
 have hw:wrap64 ((r1.1.size:Int)+1)=(r1.1.size:Int)+1:=wrap64_id (by omega) (by omega)
 rw[hw]
 refine Got.bind (draw_below _ _ _ _ (by omega) (by omega) h2.2) fun r3 h3=>?_
 obtain⟨⟨p0,p1⟩,hc3⟩:=h3
 simp only[p0,show r3.1≤(r1.1.size:Int) by omega,if_true]
 refine Got.bind (draw_str _ _ _ _ (by simp) (by simp) hc3) fun r4 h4=>?_
 have z4:r4.1.size≤9:=by
  have hm:=h4.1
  simp only[List.mem_cons,List.not_mem_nil,or_false] at hm
  rcases hm with e|e|e|e|e <;> rw[e] <;> decide
 have e1:(r1.1.extract 0 r3.1.toNat).size≤300:=by rw[extract_ofL,ofL_size,List.length_take,List.length_drop];simp;omega
 have e2:(r1.1.extract r3.1.toNat r1.1.size).size≤300:=by rw[extract_ofL,ofL_size,List.length_take,List.length_drop];simp;omega
 simp only[ByteArray.size_append]
 repeat(first|exact Got.some (by simp only[ByteArray.size_append];omega)|refine Got.cond (fun _=>?_) (fun h=>absurd (by omega) h))
theorem draw_in_j (x:List (List CmpT)) (hx:FitR x) (u:Bool) (hu:u=true→0<x.length∧0<(rd_L6 x 0).length) (b:List Int) (i h:Int) (hc:Cur b i):Got (fun k=>spec_DrawInRange.j0 k x u b i h) fun r=>FitR r.1∧Fit r.2.2.2.2:=by
 refine Got.succ ?_
 simp only[spec_DrawInRange.j0]
 refine Got.cond (fun e=>?_) (fun _=>?_)
 ·obtain⟨h1,h2⟩:=hu e
  have hm:rd_L6 x 0∈x:=by
   have:rd_L6 x 0=x[0]:=rdD_cast (i:=0) _ h1
   rw[this]
   exact List.getElem_mem h1
  have hm2:rd_T34 (rd_L6 x 0) 0∈rd_L6 x 0:=by
   have:rd_T34 (rd_L6 x 0) 0=(rd_L6 x 0)[0]:=rdD_cast (i:=0) _ h2
   rw[this]
   exact List.getElem_mem h2
  have hf:=(hx.2 _ hm).2 _ hm2
  refine Got.cond (fun _=>?_) (fun h=>absurd (by omega) h)
  refine Got.cond (fun _=>?_) (fun h=>absurd (by omega) h)
  refine Got.bind (Got.const ⟨_,copy_ver _ _ _ _ (by have:=hf.1;omega),rfl⟩) fun r hr=>?_
  subst hr
  exact Got.bind (draw_below _ _ _ 2 (by omega) (by omega) hc) fun r2 h2=>Got.some ⟨hx,hf⟩
 ·exact Got.bind (draw_any _ _ _ hc) fun r hr=>Got.some ⟨hx,Fit.few hr.1 (by omega)⟩
theorem draw_inRange (l:List Int) (hl:l.length≤1048576):Got (fun k=>spec_DrawInRange.f k l) fun r=>FitR r.1∧Fit r.2.2.2.2:=by
 unfold spec_DrawInRange.f
 refine Got.bind (draw_new l (by omega)) fun r0 h0=>?_
 refine Got.bind (draw_range _ _ _ (cur_new (by omega) h0)) fun r1 h1=>?_
 refine Got.bind (draw_once _ _ _ 3 (by omega) (by omega) h1.2) fun r2 h2=>?_
 refine Got.cond (fun _=>?_) (fun _=>draw_in_j _ h1.1.2 _ (fun e=>by cases e) _ _ _ h2)
 refine Got.cond (fun hp=>?_) (fun _=>draw_in_j _ h1.1.2 _ (fun e=>by cases e) _ _ _ h2)
 refine Got.cond (fun _=>?_) (fun h=>absurd (by omega) h)
 exact draw_in_j _ h1.1.2 _ (fun e=>by rw[decide_eq_true_iff] at e;exact⟨by omega,by omega⟩) _ _ _ h2
theorem draw_cmpOk (l:List Int) (hl:l.length≤1048576):Got (fun k=>spec_DrawCmpOk.f k l) fun r=>Fit r.2.2.2.2.1∧Fit r.2.2.2.2.2.2.2.2:=by
 unfold spec_DrawCmpOk.f
 refine Got.bind (draw_new l (by omega)) fun r0 h0=>?_
 refine Got.bind (draw_below _ _ _ 7 (by omega) (by omega) (cur_new (by omega) h0)) fun r1 h1=>?_
 refine Got.bind (draw_ver _ _ _ h1.2) fun r2 h2=>?_
 refine Got.bind (draw_once _ _ _ 3 (by omega) (by omega) h2.2) fun r3 h3=>?_
 have hf:=Fit.few h2.1 (by omega)
 refine Got.cond (fun _=>?_) (fun _=>?_)
 ·refine Got.bind (Got.const ⟨_,copy_ver _ _ _ _ (by have:=hf.1;omega),rfl⟩) fun r hr=>?_
  subst hr
  exact Got.some ⟨hf,hf⟩
 ·exact Got.bind (draw_ver _ _ _ h3) fun r4 h4=>Got.some ⟨hf,Fit.few h4.1 (by omega)⟩
theorem draw_rangeText (l:List Int) (hl:l.length≤1048576):Got (fun k=>spec_DrawRangeText.f k l) fun r=>FitR r:=by
 unfold spec_DrawRangeText.f
 refine Got.bind (draw_new l (by omega)) fun r0 h0=>?_
 refine Got.bind (draw_range _ _ _ (cur_new (by omega) h0)) fun r1 h1=>?_
 refine Got.bind (draw_once _ _ _ 6 (by omega) (by omega) h1.2) fun r2 h2=>?_
 refine Got.cond (fun _=>?_) (fun _=>Got.some h1.1.2)
 refine Got.bind (draw_below _ _ _ 7 (by omega) (by omega) h2) fun r3 h3=>?_
 refine Got.bind (draw_any _ _ _ h3.2) fun r4 h4=>?_
 have h5:=h1.1.1
 refine Got.cond (fun _=>Got.some ⟨?_,fun y hy=>?_⟩) (fun h=>absurd (by omega) h)
 ·rw[List.length_append];simp;omega
 ·rcases List.mem_append.1 hy with hy|hy
  ·exact h1.1.2.2 y hy
  ·rw[List.mem_singleton.1 hy]
   refine⟨by simp,fun x hx=>?_⟩
   rw[List.mem_singleton.1 hx]
   exact Fit.few h4.1 (by omega)
/-! Two ranges that are one are the same. -/
theorem same_range_in (r:List (List CmpT)) (hr:r.length≤5) (j:Nat) (hj:j<r.length) (hy:r[j].length≤4) (hs:∀ x∈r[j],Fit x.f1.f3) (R:Bool) (hk:Ev (fun k=>laws_sameRange.l0 k r r ((j+1:Nat):Int)) R) (d:Nat):∀ i:Nat,i+d=r[j].length →
  Ev (fun k=>laws_sameRange.l1 k r r (j:Int) (i:Int)) R:=by
 have hg:rd_L6 r (j:Int)=r[j]:=rdD_cast _ hj
 have h1:(j:Int)<(r.length:Int):=by omega
 have h2:(0:Int)≤(j:Int):=by omega
 have h3:=next_i hj (by omega)
 induction d with
 | zero=>
  intro i hi
  have h4:¬(i:Int)<(r[j].length:Int):=by omega
  refine Ev.succ ?_
  simp only[laws_sameRange.l1,h1,h2,h3,hg,h4,if_true,if_false]
  exact hk
 | succ d ih=>
  intro i hi
  have hlt:i<r[j].length:=by omega
  have h4:(i:Int)<(r[j].length:Int):=by omega
  have h5:(0:Int)≤(i:Int):=by omega
  have h6:=next_i hlt (by omega)
  have hgi:rd_T34 r[j] (i:Int)=r[j][i]:=rdD_cast _ hlt
  refine Ev.succ ?_
  simp only[laws_sameRange.l1,h1,h2,h4,h5,h6,hg,hgi,if_true]
  refine Ev.bind (lawVer _ _ _ _ (hs _ (List.getElem_mem hlt)).len) ?_
  simp only[if_true]
  exact ih (i+1) (by omega)
theorem same_range (r:List (List CmpT)) (h:FitR r):Ev (fun k=>laws_sameRange.f k r r) true:=by
 have hl:∀ (d j:Nat),j+d=r.length→Ev (fun k=>laws_sameRange.l0 k r r (j:Int)) true:=by
  intro d
  induction d with
  | zero=>
   intro j hj
   have h1:¬(j:Int)<(r.length:Int):=by omega
   refine Ev.succ ?_
   simp only[laws_sameRange.l0,h1,if_false]
   exact Ev.some
  | succ d ih=>
   intro j hj
   have hlt:j<r.length:=by omega
   have h1:(j:Int)<(r.length:Int):=by omega
   have h2:(0:Int)≤(j:Int):=by omega
   have hy:=h.2 _ (List.getElem_mem hlt)
   refine Ev.succ ?_
   simp only[laws_sameRange.l0,h1,if_true]
   refine Ev.succ ?_
   simp only[laws_sameRange.j2,h1,h2,if_true]
   refine Ev.succ ?_
   simp only[laws_sameRange.j3]
   exact same_range_in r h.1 j hlt hy.1 hy.2 true (ih (j+1) (by omega)) r[j].length 0 (by omega)
 unfold laws_sameRange.f
 simp only[if_true]
 refine Ev.succ ?_
 simp only[laws_sameRange.j0]
 exact hl r.length 0 (by omega)
theorem ranges_back (s:ByteArray) (hs:s.size≤16777216) (a b c:Int) (l:List ByteArray) (hl:Fit l):Ev (fun k=>laws_FnRanges.j2 k (rangeR s).1 (rangeR s).2 a b c l) true:=by
 have hf:=fit_range hs
 refine Ev.succ ?_
 simp only[laws_FnRanges.j2]
 refine Ev.bind (impl_rtext _ (by have:=hf.1;omega) hf.tx) ?_
 refine Ev.bind (impl_range _ (rangeT_size hf)) ?_
 unfold rangeR
 cases hq:rangeC s with
 | none=>
  simp only[Bool.false_eq_true,if_false]
  exact Ev.some
 | some r=>
  obtain⟨g1,g2,g3⟩:=range_good hq
  have hb:=range_back g1 g2 g3
  have hfr:FitR r:=by unfold rangeR at hf;rw[hq] at hf;exact hf
  simp only[hb,if_true]
  refine Ev.bind (same_range r hfr) ?_
  simp only[if_true]
  have hin:=impl_inRange a b c l r hl.len hl.short (by have:=hfr.1;omega) hfr.st
  refine Ev.bind hin (Ev.bind hin ?_)
  refine Ev.cast Ev.some ?_
  simp
theorem FnRanges:laws_FnRanges.Pure2:=by
 intro l hl
 refine Ev.get ?_
 unfold laws_FnRanges.f laws_big.f
 simp only[Option.bind_some]
 refine Ev.cond (fun _=>Ev.some) fun hs=>?_
 have hs':l.length≤1048576:=by rw[decide_eq_true_eq] at hs;omega
 obtain⟨s,es,hss⟩:=draw_parseRange l hs'
 obtain⟨q,eq,hq1,hq2⟩:=draw_inRange l hs'
 obtain⟨u,eu,hu1,hu2⟩:=draw_cmpOk l hs'
 obtain⟨x,ex,hx⟩:=draw_rangeText l hs'
 have hf:=fit_range hss
 refine Ev.succ ?_
 simp only[laws_FnRanges.j0]
 refine Ev.bind es (Ev.bind (impl_range s hss) (Ev.bind (spec_range s hss) (Ev.bind eq (Ev.bind eu (Ev.bind ex ?_)))))
 simp only[bne_self_eq_false,Bool.false_eq_true,if_false]
 refine Ev.bind (same_range _ hf) ?_
 simp only[if_true]
 refine Ev.bind (impl_inRange _ _ _ _ _ hq2.len hq2.short (by have:=hq1.1;omega) hq1.st) (Ev.bind (spec_inRange _ _ _ _ _ hq2.len hq2.short (by have:=hq1.1;omega) hq1.st) ?_)
 simp only[bne_self_eq_false,Bool.false_eq_true,if_false]
 refine Ev.bind (impl_cmpOk _ _ _ _ _ _ _ _ _ hu1.len hu2.len hu1.short hu2.short) (Ev.bind (spec_cmpOk _ _ _ _ _ _ _ _ _ hu1.len hu2.len hu1.short hu2.short) ?_)
 simp only[bne_self_eq_false,Bool.false_eq_true,if_false]
 refine Ev.bind (impl_rtext _ (by have:=hx.1;omega) hx.tx) (Ev.bind (spec_rtext _ (by have:=hx.1;omega) hx.tx) ?_)
 refine Ev.succ ?_
 simp only[laws_FnRanges.j1,bne_self_eq_false,Bool.false_eq_true,if_false]
 exact ranges_back s hss _ _ _ _ hq2
end Go.Proofs.YtglhniiabhknoaaGreatDoor.Pure

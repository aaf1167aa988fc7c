import Derived.Test.YtglhniiabhknoaaZGCWWords
set_option linter.unusedVariables false
set_option linter.unusedSimpArgs false
namespace Go.Proofs.Ytglhniiabhknoaa.Aux
open Go.RowKit Go.Proofs.YtglhniiabhknoaaW.PrintWords
theorem wrap64_id {i:Int} (h0 : -9223372036854775808≤i) (h1:i≤9223372036854775807):wrap64 i=i:=by
 unfold wrap64;omega
theorem Ev.succ {α:Type} {g:Nat→Option α} {r:α} (h:Ev (fun k=>g (k+1)) r):Ev g r:=Ev.step (fun _=>rfl) h
theorem Ev.some {α:Type} {r:α}:Ev (fun _=>Option.some r) r:=Ev.now r
theorem Ev.cond {α:Type} {c:Prop} [Decidable c] {g f:Nat→Option α} {r:α} (h:c→Ev g r) (h':¬c→Ev f r):Ev (fun k=>if c then g k else f k) r:=by
 by_cases hc:c
 ·simpa only[hc,if_true] using h hc
 ·simpa only[hc,if_false] using h' hc
theorem Ev.cast {α:Type} {g:Nat→Option α} {r s:α} (h:Ev g r) (e:r=s):Ev g s:=e ▸ h
theorem Ev.get {α:Type} {g:Nat→Option α} {r:α} (h:Ev g r):∃ k,g k=Option.some r:=h.rounds
def bs (s:ByteArray):List Int:=s.data.toList.map fun b=>(b.toNat:Int)
theorem rdOf_cast {α:Type} (d:α) {l:List α} {i:Nat} (h:i<l.length):rdOf d l (i:Int)=l[i]:=by
 unfold rdOf
 rw[List.getD_eq_getElem?_getD,Int.toNat_natCast,List.getElem?_eq_getElem h]
 rfl
theorem rdD_cast {α:Type} (z:α) {l:List α} {i:Nat} (h:i<l.length):l.getD (i:Int).toNat z=l[i]:=by
 rw[List.getD_eq_getElem?_getD,Int.toNat_natCast,List.getElem?_eq_getElem h]
 rfl
theorem next_i {i:Nat} {n:Nat} (h:i<n) (hn:n≤9223372036854775807):wrap64 ((i:Int)+1)=((i+1:Nat):Int):=by
 rw[wrap64_id (by omega) (by omega)];rfl
theorem drop_get {α:Type} {l:List α} {i:Nat} (h:i<l.length):l.drop i=l[i] :: l.drop (i+1):=List.drop_eq_getElem_cons h
theorem take_set_step {β:Type} {l m:List β} {i:Nat} (hi:i<l.length) (hm:i<m.length) (h:l.take i=m.take i):(l.set i m[i]).take (i+1)=m.take (i+1):=by
 apply List.ext_getElem?
 intro j
 have hj:(l.take i)[j]?=(m.take i)[j]?:=by rw[h]
 simp only[List.getElem?_take,List.getElem?_set] at hj ⊢
 by_cases hji:j=i
 ·subst hji
  simp[List.getElem?_eq_getElem hm,hi]
 ·by_cases hlt:j<i
  ·simpa [hlt,show j<i+1 by omega,show i≠j by omega] using hj
  ·simp[show ¬j<i+1 by omega]
theorem data_toList_loop (s:ByteArray) (i:Nat) (r:List UInt8):ByteArray.toList.loop s i r=r.reverse++s.data.toList.drop i:=by
 induction h:s.size-i generalizing i r with
 | zero=>
  unfold ByteArray.toList.loop
  have hle:s.size≤i:=by omega
  rw[if_neg (by omega),List.drop_eq_nil_of_le (by simpa using hle),List.append_nil]
 | succ n ih=>
  unfold ByteArray.toList.loop
  have hlt:i<s.size:=by omega
  rw[if_pos hlt,ih (i+1) _ (by omega)]
  rw[List.drop_eq_getElem_cons (show i<s.data.toList.length by simpa using hlt)]
  simp[ByteArray.get!,getElem!_def,Array.getElem?_eq_getElem (show i<s.data.size from hlt)]
theorem toList_data (s:ByteArray):s.toList=s.data.toList:=by
 unfold ByteArray.toList
 rw[data_toList_loop]
 simp
theorem toList_inj {a b:ByteArray}:a.toList=b.toList↔a=b:=by
 rw[toList_data,toList_data]
 refine⟨fun h=>?_,fun h=>by rw[h]⟩
 cases a with|mk a=>cases b with|mk b=>
 have:a=b:=Array.toList_inj.1 h
 rw[this]
def szT:List ByteArray→Int
 | []=>0
 | s :: r=>(s.size:Int)+szT r
theorem szT_nonneg:∀ l:List ByteArray,0≤szT l
 | []=>by simp[szT]
 | s :: r=>by have:=szT_nonneg r;simp only[szT];omega
def szL (l:List ByteArray):Int:=(l.length:Int)+szT l
theorem szL_nonneg (l:List ByteArray):0≤szL l:=by have:=szT_nonneg l;unfold szL;omega
def left (need a:Int):Int:=if need≤a then a-need else -1
theorem left_pos {n a:Int} (h:n≤a):left n a=a-n:=by unfold left;rw[if_pos h]
theorem left_not {n a:Int} (h:¬n≤a):left n a = -1:=by unfold left;rw[if_neg h]
end Go.Proofs.Ytglhniiabhknoaa.Aux

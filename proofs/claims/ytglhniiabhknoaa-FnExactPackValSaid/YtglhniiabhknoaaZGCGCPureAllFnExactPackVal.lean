/- What the functions come to. -/
import Derived.Test.YtglhniiabhknoaaZGCAux
import Derived.Test.YtglhniiabhknoaaZGCPGCx0
import Derived.Test.YtglhniiabhknoaaZGCPGCx1
import Derived.Test.YtglhniiabhknoaaZGCPGCx7
import Derived.Test.YtglhniiabhknoaaZGCOGC
import Derived.Test.YtglhniiabhknoaaZGCPGCx9
import Derived.Test.YtglhniiabhknoaaZGCPGCx8
import Derived.Test.YtglhniiabhknoaaZGCPGCx6
set_option linter.unusedVariables false
set_option linter.unusedSimpArgs false
namespace Go.Proofs.Ytglhniiabhknoaa.Pure
open Go.RowKit Go.Proofs.Ytglhniiabhknoaa.PGC Go.Proofs.YtglhniiabhknoaaW.PrintWords Go.Proofs.YtglhniiabhknoaaW.PrintLast Go.Proofs.Ytglhniiabhknoaa.Aux
theorem szStringS_l (l:List ByteArray) (hl:l.length≤9223372036854775807) (hs:∀ x∈l,x.size≤9223372036854775807) (d:Nat):∀ (i:Nat) (a:Int),i+d=l.length→0≤a→a≤9223372036854775807 →
  Ev (fun k=>laws_szStringS.l0 k l a (i:Int)) (left (szT (l.drop i)) a):=by
 induction d with
 | zero=>
  intro i a hi h0 ha
  have h1:¬(i:Int)<(l.length:Int):=by omega
  refine Ev.succ ?_
  rw[List.drop_eq_nil_of_le (by omega),left_pos (by simpa [szT] using h0)]
  simp only[laws_szStringS.l0,h1,if_false,szT,Int.sub_zero]
  exact Ev.some
 | succ d ih=>
  intro i a hi h0 ha
  have hlt:i<l.length:=by omega
  have h1:(i:Int)<(l.length:Int):=by omega
  have h2:(0:Int)≤(i:Int):=by omega
  have h3:=next_i hlt hl
  have hx:=hs _ (List.getElem_mem hlt)
  have h4:wrap64 (a-(l[i].size:Int))=a-(l[i].size:Int):=wrap64_id (by omega) (by omega)
  have hn:=szT_nonneg (l.drop (i+1))
  refine Ev.succ ?_
  rw[drop_get hlt]
  simp only[laws_szStringS.l0,h1,h2,h3,if_true,rdOf_cast _ hlt,h4,szT]
  by_cases h5:a-(l[i].size:Int)<0
  ·simp only[h5,if_true]
   rw[left_not (by omega)]
   exact Ev.some
  ·simp only[h5,if_false]
   refine Ev.cast (ih (i+1) (a-(l[i].size:Int)) (by omega) (by omega) (by omega)) ?_
   unfold left
   split <;> split <;> omega
theorem szStringS (l:List ByteArray) (a:Int) (hl:l.length≤9223372036854775807) (hs:∀ x∈l,x.size≤9223372036854775807) (h0:0≤a) (ha:a≤9223372036854775807):Ev (fun k=>laws_szStringS.f k l a) (left (szL l) a):=by
 unfold laws_szStringS.f
 have hn:=szT_nonneg l
 rw[wrap64_id (by omega) (by omega)]
 by_cases h:a-(l.length:Int)<0
 ·simp only[h,if_true]
  rw[left_not (by unfold szL;omega)]
  exact Ev.some
 ·simp only[h,if_false]
  refine Ev.succ ?_
  simp only[laws_szStringS.j0]
  refine Ev.cast (szStringS_l l hl hs l.length 0 (a-(l.length:Int)) (by omega) (by omega) (by omega)) ?_
  unfold left szL
  rw[List.drop_zero]
  split <;> split <;> omega
theorem toStringS_l (l:List ByteArray) (hl:l.length≤9223372036854775807) (d:Nat):∀ (i:Nat) (x:List ByteArray),i+d=l.length→x.length=l.length→x.take i=l.take i →
  Ev (fun k=>laws_toStringS.l0 k l x (i:Int)) l:=by
 induction d with
 | zero=>
  intro i x hi hx he
  have h1:¬(i:Int)<(l.length:Int):=by omega
  have e:x=l:=by rwa [List.take_of_length_le (by omega),List.take_of_length_le (by omega)] at he
  refine Ev.succ ?_
  simp only[laws_toStringS.l0,h1,if_false,e]
  exact Ev.some
 | succ d ih=>
  intro i x hi hx he
  have hlt:i<l.length:=by omega
  have h1:(i:Int)<(l.length:Int):=by omega
  have h1x:(i:Int)<(x.length:Int):=by omega
  have h2:(0:Int)≤(i:Int):=by omega
  have h3:=next_i hlt hl
  refine Ev.succ ?_
  simp only[laws_toStringS.l0,h1,h1x,h2,h3,if_true,Int.toNat_natCast,rdOf_cast _ hlt]
  exact ih (i+1) _ (by omega) (by simpa using hx) (take_set_step (by omega) hlt he)
theorem toStringS (l:List ByteArray) (hl:l.length≤17592186044416):Ev (fun k=>laws_toStringS.f k l) l:=by
 unfold laws_toStringS.f
 simp only[show (0:Int)≤(l.length:Int) by omega,show (l.length:Int).toNat≤17592186044416 by omega,if_true]
 exact toStringS_l l (by omega) l.length 0 _ (by omega) (by simp) (by simp)
theorem eqStringS_l (a b:List ByteArray) (hl:a.length≤9223372036854775807) (hab:a.length=b.length) (d:Nat):∀ i:Nat,i+d=a.length →
  Ev (fun k=>laws_eqStringS.l0 k a b (i:Int)) (decide (a.drop i=b.drop i)):=by
 induction d with
 | zero=>
  intro i hi
  have h1:¬(i:Int)<(a.length:Int):=by omega
  refine Ev.succ ?_
  rw[List.drop_eq_nil_of_le (by omega),List.drop_eq_nil_of_le (by omega)]
  simp only[laws_eqStringS.l0,h1,if_false,decide_true]
  exact Ev.some
 | succ d ih=>
  intro i hi
  have hlt:i<a.length:=by omega
  have hlb:i<b.length:=by omega
  have h1:(i:Int)<(a.length:Int):=by omega
  have h1b:(i:Int)<(b.length:Int):=by omega
  have h2:(0:Int)≤(i:Int):=by omega
  have h3:=next_i hlt hl
  refine Ev.succ ?_
  rw[drop_get hlt,drop_get hlb]
  simp only[laws_eqStringS.l0,h1,h1b,h2,h3,if_true,rdOf_cast _ hlt,rdOf_cast _ hlb,toList_inj]
  by_cases h:a[i]=b[i]
  ·simp only[h,if_true,List.cons.injEq,true_and]
   exact ih (i+1) (by omega)
  ·simp only[h,if_false,List.cons.injEq,false_and,decide_false]
   exact Ev.some
theorem eqStringS (a b:List ByteArray) (hl:a.length≤9223372036854775807):Ev (fun k=>laws_eqStringS.f k a b) (decide (a=b)):=by
 unfold laws_eqStringS.f
 by_cases h:(a.length:Int)=(b.length:Int)
 ·simp only[h,if_true]
  refine Ev.succ ?_
  simp only[laws_eqStringS.j0]
  exact eqStringS_l a b hl (by omega) a.length 0 (by omega)
 ·simp only[h,if_false]
  have:¬a=b:=fun e=>h (by rw[e])
  simp only[this,decide_false]
  exact Ev.some
theorem strOfNums_size (l:List Int):(strOfNums l).size=l.length:=by
 unfold strOfNums
 simp[ByteArray.size]
theorem markText_l (n:Nat):∀ (x:Nat) (t:ByteArray),x≤n→x+t.size≤1099511627776→∃ r,Ev (fun k=>laws_markText.l0 k (x:Int) t) r:=by
 induction n with
 | zero=>
  intro x t hx ht
  obtain rfl:x=0:=by omega
  refine⟨(⟨#[109]⟩:ByteArray)++t,Ev.succ ?_⟩
  ·simp only[laws_markText.l0,show ¬((0:Nat):Int)>0 by omega,if_false,show 1+t.size≤9223372036854775807 by omega,if_true]
   exact Ev.some
 | succ n ih=>
  intro x t hx ht
  by_cases h0:x=0
  ·subst h0
   refine⟨(⟨#[109]⟩:ByteArray)++t,Ev.succ ?_⟩
   ·simp only[laws_markText.l0,show ¬((0:Nat):Int)>0 by omega,if_false,show 1+t.size≤9223372036854775807 by omega,if_true]
    exact Ev.some
  ·have hd:wrap64 (Int.tdiv (x:Int) 10)=((x / 10:Nat):Int):=by
    rw[Int.tdiv_eq_ediv_of_nonneg (by omega)]
    rw[wrap64_id (by omega) (by omega)]
    omega
   have hsz:(strOfNums [wrap64 (48+Int.tmod (x:Int) 10) % 256]).size=1:=strOfNums_size _
   obtain⟨r,hr⟩:=ih (x / 10) (strOfNums [wrap64 (48+Int.tmod (x:Int) 10) % 256]++t) (by omega) (by rw[ByteArray.size_append,hsz];omega)
   refine⟨r,Ev.succ ?_⟩
   simp only[laws_markText.l0,show (x:Int)>0 by omega,if_true,Option.bind_some,hsz,show 1+t.size≤9223372036854775807 by omega,hd]
   exact hr
theorem markText_ex (x:Int) (h:x≤4398046511104 / 8):∃ r,Ev (fun k=>laws_markText.f k x) r:=by
 unfold laws_markText.f
 by_cases h0:x≤0
 ·simp only[h0,if_true]
  exact⟨_,Ev.some⟩
 ·simp only[h0,if_false]
  obtain⟨n,rfl⟩:∃ n:Nat,x=n:=⟨x.toNat,by omega⟩
  obtain⟨r,hr⟩:=markText_l n n (⟨#[]⟩:ByteArray) (Nat.le_refl _) (by show n+0≤_;omega)
  refine⟨r,Ev.succ ?_⟩
  simp only[laws_markText.j0]
  exact hr
open Classical in
noncomputable def mkT (x:Int):ByteArray:=if h:∃ r,Ev (fun k=>laws_markText.f k x) r then h.choose else ByteArray.empty
theorem markText (x:Int) (h:x≤549755813888):Ev (fun k=>laws_markText.f k x) (mkT x):=by
 have hx:=markText_ex x (by omega)
 unfold mkT
 rw[dif_pos hx]
 exact hx.choose_spec
noncomputable def mks (x:Int):Nat→List ByteArray
 | 0=>[]
 | n+1=>mkT x :: mks (x+1) n
theorem mks_length:∀ (n:Nat) (x:Int),(mks x n).length=n
 | 0,_=>rfl
 | n+1,x=>by rw[mks,List.length_cons,mks_length n]
theorem mks_get:∀ (n:Nat) (x:Int) (i:Nat) (h:i<(mks x n).length),(mks x n)[i]=mkT (x+i)
 | 0,_,_,h=>absurd h (by simp[mks])
 | n+1,x,0,_=>by simp[mks]
 | n+1,x,i+1,h=>by
  have:=mks_get n (x+1) i (by simpa [mks] using h)
  simp only[mks,List.getElem_cons_succ,this]
  congr 1
  omega
theorem markStringS_l (n:Nat) (x:Int) (hx0:0≤x) (hx:x+n≤549755813888) (d:Nat):∀ (i:Nat) (l:List ByteArray),i+d=n→l.length=n→l.take i=(mks x n).take i →
  Ev (fun k=>laws_markStringS.l0 k l (x+i) (i:Int)) (x+n,mks x n):=by
 induction d with
 | zero=>
  intro i l hi hl he
  obtain rfl:i=n:=by omega
  have e:l=mks x i:=by rwa [List.take_of_length_le (by omega),List.take_of_length_le (by rw[mks_length];exact Nat.le_refl _)] at he
  subst e
  have h1:¬(i:Int)<((mks x i).length:Int):=by omega
  refine Ev.succ ?_
  simp only[laws_markStringS.l0,h1,if_false]
  exact Ev.some
 | succ d ih=>
  intro i l hi hl he
  have h1:(i:Int)<(l.length:Int):=by omega
  have h2:(0:Int)≤(i:Int):=by omega
  have h3:=next_i (show i<n by omega) (by omega)
  have h4:wrap64 (x+i+1)=x+((i+1:Nat):Int):=by rw[wrap64_id (by omega) (by omega)];omega
  refine Ev.succ ?_
  simp only[laws_markStringS.l0,h1,if_true]
  refine Ev.bind (markText (x+i) (by omega)) ?_
  simp only[h2,if_true,h3,h4,Int.toNat_natCast]
  refine ih (i+1) _ (by omega) (by simpa using hl) ?_
  have:=take_set_step (l:=l) (m:=mks x n) (i:=i) (by omega) (by rw[mks_length];omega) he
  rwa [mks_get n x i (by rw[mks_length];omega)] at this
theorem markStringS (l:List ByteArray) (x:Int) (hx0:0≤x) (hx:x+l.length≤549755813888):Ev (fun k=>laws_markStringS.f k l x) (x+l.length,mks x l.length):=by
 unfold laws_markStringS.f
 have:=markStringS_l l.length x hx0 hx l.length 0 l (by omega) rfl (by simp)
 simpa using this
theorem heldStringS_l (n:Nat) (x:Int) (hx0:0≤x) (hx:x+n≤549755813888) (d:Nat):∀ (i:Nat),i+d=n→Ev (fun k=>laws_heldStringS.l0 k (mks x n) (x+i) (i:Int)) (x+n):=by
 induction d with
 | zero=>
  intro i hi
  obtain rfl:i=n:=by omega
  have h1:¬(i:Int)<((mks x i).length:Int):=by rw[mks_length];omega
  refine Ev.succ ?_
  simp only[laws_heldStringS.l0,h1,if_false]
  exact Ev.some
 | succ d ih=>
  intro i hi
  have hlt:i<(mks x n).length:=by rw[mks_length];omega
  have h1:(i:Int)<((mks x n).length:Int):=by omega
  have h2:(0:Int)≤(i:Int):=by omega
  have h3:=next_i (show i<n by omega) (by omega)
  have h4:wrap64 (x+i+1)=x+((i+1:Nat):Int):=by rw[wrap64_id (by omega) (by omega)];omega
  refine Ev.succ ?_
  simp only[laws_heldStringS.l0,h1,h2,if_true,rdOf_cast _ hlt,mks_get n x i hlt]
  refine Ev.bind (markText (x+i) (by omega)) ?_
  simp only[if_true,h3,h4]
  exact ih (i+1) (by omega)
theorem heldStringS (x:Int) (n:Nat) (hx0:0≤x) (hx:x+n≤549755813888):Ev (fun k=>laws_heldStringS.f k (mks x n) x) (x+n):=by
 unfold laws_heldStringS.f
 have:=heldStringS_l n x hx0 hx n 0 (by omega)
 simpa using this
theorem all_mem {β:Type} {P:β→Nat→Prop}:∀ (l:List β),(∀ x∈l,∃ K,∀ k,K≤k→P x k)→∃ K,∀ k,K≤k→∀ x∈l,P x k
 | [],_=>⟨0,fun _ _ _ h=>by cases h⟩
 | y :: r,h=>by
  obtain⟨K,hK⟩:=h y (List.mem_cons_self ..)
  obtain⟨K',hK'⟩:=all_mem r (fun x hx=>h x (List.mem_cons_of_mem _ hx))
  refine⟨max K K',fun k hk x hx=>?_⟩
  rcases List.mem_cons.1 hx with e|hx
  ·rw[e];exact hK k (by omega)
  ·exact hK' k (by omega) x hx
/-! Copies. -/
def valT (y:S29):Int × Int × ByteArray × List S29 × List ByteArray:=(y.f0,y.f1,y.f2,y.f3,y.f4)
/-! Comparisons. -/
inductive fitVal:S29→Prop
 | mk (y:S29) (h3:y.f3.length≤9223372036854775807) (g3:∀ z∈y.f3,fitVal z) (h4:y.f4.length≤9223372036854775807) (g4:∀ z∈y.f4,z.size≤9223372036854775807) (h2:y.f2.size≤9223372036854775807):fitVal y
theorem eqValS_l [laws_eqVal.Rec] (l:List S29) (hl:l.length≤9223372036854775807)
  (hF:∀ k,∀ x∈l,laws_eqVal.Rec.f k x.f0 x.f1 x.f2 x.f3 x.f4 x.f0 x.f1 x.f2 x.f3 x.f4=some true) (d:Nat):∀ (i k:Nat),i+d=l.length→d<k →
  laws_eqValS.l0 k l l (i:Int)=some true:=by
 induction d with
 | zero=>
  intro i k hi hk
  obtain⟨k,rfl⟩:∃ m,k=m+1:=⟨k-1,by omega⟩
  have h1:¬(i:Int)<(l.length:Int):=by omega
  simp only[laws_eqValS.l0,h1,if_false]
 | succ d ih=>
  intro i k hi hk
  obtain⟨k,rfl⟩:∃ m,k=m+1:=⟨k-1,by omega⟩
  have hlt:i<l.length:=by omega
  have h1:(i:Int)<(l.length:Int):=by omega
  have h2:(0:Int)≤(i:Int):=by omega
  have h3:=next_i hlt hl
  have hg:rd_T29 l (i:Int)=l[i]:=rdD_cast _ hlt
  simp only[laws_eqValS.l0,h1,h2,h3,if_true,hg]
  rw[hF k l[i] (List.getElem_mem hlt)]
  simp only[Option.bind_some,if_true]
  exact ih (i+1) k (by omega) (by omega)
theorem eqVal (y:S29) (hf:fitVal y):Ev (fun k=>laws_eqVal.f k y.f0 y.f1 y.f2 y.f3 y.f4 y.f0 y.f1 y.f2 y.f3 y.f4) true:=by
 induction hf with
 | mk y o3 g3 o4 g4 o2 ih=>
  obtain⟨K,hK⟩:=all_mem y.f3 (P:=fun y k=>laws_eqVal.f k y.f0 y.f1 y.f2 y.f3 y.f4 y.f0 y.f1 y.f2 y.f3 y.f4=some true) (fun z hz=>by obtain⟨K,h⟩:=ih z hz;exact⟨K,h⟩)
  have hS:Ev (fun k=>@laws_eqValS.f ⟨fun _=>laws_eqVal.f k⟩ k y.f3 y.f3) true:=
   ⟨max K (y.f3.length+2),fun k hk=>by
    show @laws_eqValS.f ⟨fun _=>laws_eqVal.f k⟩ k y.f3 y.f3=_
    unfold laws_eqValS.f
    rw[if_pos rfl]
    obtain⟨m,rfl⟩:∃ m,k=m+1:=⟨k-1,by omega⟩
    simp only[laws_eqValS.j0]
    exact @eqValS_l ⟨fun _=>laws_eqVal.f (m+1)⟩ y.f3 o3 (fun _ z hz=>hK (m+1) (by omega) z hz) y.f3.length 0 m (by omega) (by omega)⟩
  refine Ev.succ ?_
  simp only[laws_eqVal.f,if_true]
  refine Ev.succ ?_
  simp only[laws_eqVal.j0,if_true]
  refine Ev.succ ?_
  simp only[laws_eqVal.j1,if_true]
  refine Ev.succ ?_
  simp only[laws_eqVal.j2]
  refine Ev.bind hS ?_
  simp only[if_true]
  refine Ev.bind (eqStringS y.f4 y.f4 o4) ?_
  simp only[decide_true,if_true]
  exact Ev.some
theorem Ev.noV {α:Type} {c:Prop} [Decidable c] {g f:Nat→Option α} {r:α} (hc:¬c) (h:Ev f r):Ev (fun k=>if c then g k else f k) r:=by
 simp only[hc,if_false];exact h
/-! How many marks a value takes; the value behind them. -/
mutual
def ctV:S29→Int
 | ⟨_,_,_,l,ks⟩=>3+ctVS l+(ks.length:Int)
def ctVS:List S29→Int
 | []=>0
 | x :: r=>ctV x+ctVS r
end
mutual
noncomputable def mV (n:Int):S29→S29
 | ⟨_,_,_,l,ks⟩=>⟨n,n+1,mkT (n+2),mVS (n+3) l,mks (n+3+ctVS l) ks.length⟩
noncomputable def mVS (n:Int):List S29→List S29
 | []=>[]
 | x :: r=>mV n x :: mVS (n+ctV x) r
end
theorem ctV_eq (x:S29):ctV x=3+ctVS x.f3+(x.f4.length:Int):=by cases x;rw[ctV]
theorem mV_eq (n:Int) (x:S29):mV n x=⟨n,n+1,mkT (n+2),mVS (n+3) x.f3,mks (n+3+ctVS x.f3) x.f4.length⟩:=by cases x;rw[mV]
mutual
theorem ctV_nonneg:∀ x:S29,3≤ctV x
 | ⟨_,_,_,l,ks⟩=>by
  have:=ctVS_nonneg l
  rw[ctV]
  omega
theorem ctVS_nonneg:∀ l:List S29,0≤ctVS l
 | []=>by rw[ctVS];omega
 | x :: r=>by
  have h1:=ctV_nonneg x
  have h2:=ctVS_nonneg r
  rw[ctVS]
  omega
end
theorem ctVS_append:∀ l m:List S29,ctVS (l++m)=ctVS l+ctVS m
 | [],m=>by rw[ctVS,List.nil_append];omega
 | x :: r,m=>by rw[List.cons_append,ctVS,ctVS,ctVS_append r m];omega
theorem ctVS_len:∀ l:List S29,(l.length:Int)≤ctVS l
 | []=>by rw[ctVS];exact Int.le_refl _
 | x :: r=>by
  have h1:=ctV_nonneg x
  have h2:=ctVS_len r
  rw[ctVS,List.length_cons]
  omega
theorem mVS_length:∀ (l:List S29) (n:Int),(mVS n l).length=l.length
 | [],_=>by rw[mVS]
 | x :: r,n=>by rw[mVS,List.length_cons,List.length_cons,mVS_length r]
theorem mVS_get:∀ (l:List S29) (n:Int) (i:Nat) (h:i<(mVS n l).length) (h':i<l.length),(mVS n l)[i]=mV (n+ctVS (l.take i)) l[i]
 | [],_,_,_,h'=>absurd h' (by simp)
 | x :: r,n,0,_,_=>by simp only[mVS,List.getElem_cons_zero,List.take_zero,ctVS,Int.add_zero]
 | x :: r,n,i+1,h,h'=>by
  have:=mVS_get r (n+ctV x) i (by simpa [mVS] using h) (by simpa using h')
  simp only[mVS,List.getElem_cons_succ,List.take_succ_cons,ctVS]
  rw[this]
  congr 1
  omega
mutual
theorem mark_el:∀ (x:S29) (n:Int),0≤n→n+ctV x≤549755813888→Ev (fun k=>laws_markValS.el (laws_markValS.f k) k x n) (n+ctV x,mV n x)
 | ⟨a,b,s,l,ks⟩,n,h0,h=>by
  rw[ctV] at h
  have hc:=ctVS_nonneg l
  have h1:wrap64 (n+1)=n+1:=wrap64_id (by omega) (by omega)
  have h2:wrap64 (n+1+1)=n+2:=by rw[wrap64_id (by omega) (by omega)];omega
  have h3:wrap64 (n+2+1)=n+3:=by rw[wrap64_id (by omega) (by omega)];omega
  have hl:Ev (fun k=>laws_markValS.f k l (n+3)) (n+3+ctVS l,mVS (n+3) l):=Ev.succ (mark_l l (n+3) (by omega) (by omega))
  simp only[laws_markValS.el,h1,h2,h3]
  refine Ev.bind (markText (n+2) (by omega)) (Ev.bind hl (Ev.bind (markStringS ks (n+3+ctVS l) (by omega) (by omega)) ?_))
  refine Ev.cast Ev.some ?_
  rw[mV,ctV]
  simp only[Prod.mk.injEq,and_true]
  omega
theorem mark_l:∀ (l:List S29) (n:Int),0≤n→n+ctVS l≤549755813888→Ev (fun k=>laws_markValS.l (laws_markValS.f k) k l n) (n+ctVS l,mVS n l)
 | [],n,h0,h=>by
  simp only[laws_markValS.l]
  rw[ctVS,mVS,Int.add_zero]
  exact Ev.some
 | x :: r,n,h0,h=>by
  rw[ctVS] at h
  have h1:=ctV_nonneg x
  have h2:=ctVS_nonneg r
  simp only[laws_markValS.l]
  refine Ev.bind (mark_el x n h0 (by omega)) (Ev.bind (mark_l r (n+ctV x) (by omega) (by omega)) ?_)
  refine Ev.cast Ev.some ?_
  rw[ctVS,mVS]
  simp only[Prod.mk.injEq,and_true]
  omega
end
theorem markValS (l:List S29) (n:Int) (h0:0≤n) (h:n+ctVS l≤549755813888):Ev (fun k=>laws_markValS.f k l n) (n+ctVS l,mVS n l):=Ev.succ (mark_l l n h0 h)
theorem held_l (l:List S29) (n:Int) (h0:0≤n) (h:n+ctVS l≤549755813888)
  (ih:∀ x∈l,∀ m:Int,0≤m→m+ctVS x.f3≤549755813888→Ev (fun k=>laws_heldValS.f k (mVS m x.f3) m) (m+ctVS x.f3)) (d:Nat):∀ i:Nat,i+d=l.length →
  Ev (fun k=>laws_heldValS.l0 k (mVS n l) (n+ctVS (l.take i)) (i:Int)) (n+ctVS l):=by
 have hlen:=mVS_length l n
 have hle:=ctVS_len l
 induction d with
 | zero=>
  intro i hi
  have h1:¬(i:Int)<((mVS n l).length:Int):=by omega
  refine Ev.succ ?_
  simp only[laws_heldValS.l0,h1,if_false]
  refine Ev.cast Ev.some ?_
  rw[List.take_of_length_le (by omega)]
 | succ d ihd=>
  intro i hi
  have hlt:i<l.length:=by omega
  have hlm:i<(mVS n l).length:=by omega
  have h1:(i:Int)<((mVS n l).length:Int):=by omega
  have h2:(0:Int)≤(i:Int):=by omega
  have h3:=next_i hlm (by omega)
  have hg:rd_T29 (mVS n l) (i:Int)=mV (n+ctVS (l.take i)) l[i]:=by
   rw[show rd_T29 (mVS n l) (i:Int)=(mVS n l)[i] from rdD_cast _ hlm,mVS_get l n i hlm hlt]
  have hsplit:ctVS l=ctVS (l.take i)+(ctV l[i]+ctVS (l.drop (i+1))):=by
   have:=ctVS_append (l.take i) (l.drop i)
   rw[List.take_append_drop,drop_get hlt,ctVS] at this
   exact this
  have hnext:ctVS (l.take (i+1))=ctVS (l.take i)+ctV l[i]:=by
   rw[List.take_succ_eq_append_getElem hlt,ctVS_append,ctVS,ctVS]
   omega
  have b1:=ctVS_nonneg (l.take i)
  have b2:=ctVS_nonneg (l.drop (i+1))
  have b3:=ctVS_nonneg l[i].f3
  have e1:=ctV_eq l[i]
  generalize hm:n+ctVS (l.take i)=m at *
  have w1:wrap64 (m+1)=m+1:=wrap64_id (by omega) (by omega)
  have w2:wrap64 (m+1+1)=m+2:=by rw[wrap64_id (by omega) (by omega)];omega
  have w3:wrap64 (m+2+1)=m+3:=by rw[wrap64_id (by omega) (by omega)];omega
  rw[mV_eq] at hg
  refine Ev.succ ?_
  simp only[laws_heldValS.l0,h1,if_true]
  refine Ev.succ ?_
  simp only[laws_heldValS.j1,h1,h2,hg,if_true]
  refine Ev.succ ?_
  simp only[laws_heldValS.j2,h1,h2,hg,w1,if_true]
  refine Ev.succ ?_
  simp only[laws_heldValS.j3,h1,h2,hg,w2,if_true]
  refine Ev.bind (markText (m+2) (by omega)) ?_
  simp only[if_true]
  refine Ev.succ ?_
  simp only[laws_heldValS.j4,h1,h2,hg,w3,if_true]
  refine Ev.bind (ih _ (List.getElem_mem hlt) (m+3) (by omega) (by omega)) ?_
  refine Ev.noV (by omega) ?_
  refine Ev.bind (heldStringS (m+3+ctVS l[i].f3) l[i].f4.length (by omega) (by omega)) ?_
  refine Ev.noV (by omega) ?_
  simp only[h3]
  have:=ihd (i+1) (by omega)
  rw[hnext] at this
  rw[show m+3+ctVS l[i].f3+(l[i].f4.length:Int)=n+(ctVS (l.take i)+ctV l[i]) by omega]
  exact this
theorem held_x (x:S29) (hf:fitVal x):∀ m:Int,0≤m→m+ctVS x.f3≤549755813888→Ev (fun k=>laws_heldValS.f k (mVS m x.f3) m) (m+ctVS x.f3):=by
 induction hf with
 | mk y o3 g3 o4 g4 o2 ih=>
  intro m h0 h
  refine Ev.succ ?_
  have:=held_l y.f3 m h0 h (fun x hx=>ih x hx) y.f3.length 0 (by omega)
  rw[List.take_zero,ctVS,Int.add_zero] at this
  simp only[laws_heldValS.f]
  exact this
def ctR (x:S29):Int:=ctVS x.f3+(x.f4.length:Int)
theorem markVal (x:S29) (a b:Int) (s:ByteArray) (n:Int) (h0:0≤n) (h:n+ctR x≤549755813888):Ev (fun k=>laws_markVal.f k a b s x.f3 x.f4 n) (n+ctR x,mVS n x.f3,mks (n+ctVS x.f3) x.f4.length):=by
 have hc:=ctVS_nonneg x.f3
 unfold ctR at *
 unfold laws_markVal.f
 refine Ev.bind (markValS x.f3 n h0 (by omega)) (Ev.bind (markStringS x.f4 (n+ctVS x.f3) (by omega) (by omega)) ?_)
 refine Ev.cast Ev.some ?_
 simp only[Prod.mk.injEq,and_true]
 omega
theorem heldVal (x:S29) (hf:fitVal x) (a b:Int) (s:ByteArray) (n:Int) (h0:0≤n) (h:n+ctR x≤549755813888):Ev (fun k=>laws_heldVal.f k a b s (mVS n x.f3) (mks (n+ctVS x.f3) x.f4.length) n) (n+ctR x):=by
 have hc:=ctVS_nonneg x.f3
 unfold ctR at *
 unfold laws_heldVal.f
 refine Ev.bind (held_x x hf n h0 (by omega)) ?_
 refine Ev.noV (by omega) ?_
 refine Ev.bind (heldStringS (n+ctVS x.f3) x.f4.length (by omega) (by omega)) ?_
 refine Ev.noV (by omega) ?_
 refine Ev.cast Ev.some ?_
 omega
theorem ctR_nonneg (x:S29):0≤ctR x:=by
 have:=ctVS_nonneg x.f3
 unfold ctR
 omega
noncomputable def mkN (x:Int):Nat→List S71
 | 0=>[]
 | n+1=>⟨mkT x,mkT (x+1)⟩ :: mkN (x+2) n
theorem mkN_length:∀ (n:Nat) (x:Int),(mkN x n).length=n
 | 0,_=>rfl
 | n+1,x=>by rw[mkN,List.length_cons,mkN_length n]
theorem mkN_get:∀ (n:Nat) (x:Int) (i:Nat) (h:i<(mkN x n).length),(mkN x n)[i]=⟨mkT (x+2*i),mkT (x+2*i+1)⟩
 | 0,_,_,h=>absurd h (by simp[mkN])
 | n+1,x,0,_=>by simp[mkN]
 | n+1,x,i+1,h=>by
  have:=mkN_get n (x+2) i (by simpa [mkN] using h)
  simp only[mkN,List.getElem_cons_succ,this]
  rw[show x+2+2*(i:Int)=x+2*((i+1:Nat):Int) by omega]
theorem markNeedS_l (n:Nat) (x:Int) (hx0:0≤x) (hx:x+2*n≤549755813888) (d:Nat):∀ (i:Nat) (l:List S71),i+d=n→l.length=n→l.take i=(mkN x n).take i →
  Ev (fun k=>laws_markNeedS.l0 k l (x+2*i) (i:Int)) (x+2*n,mkN x n):=by
 induction d with
 | zero=>
  intro i l hi hl he
  obtain rfl:i=n:=by omega
  have e:l=mkN x i:=by rwa [List.take_of_length_le (by omega),List.take_of_length_le (by rw[mkN_length];exact Nat.le_refl _)] at he
  subst e
  have h1:¬(i:Int)<((mkN x i).length:Int):=by omega
  refine Ev.succ ?_
  simp only[laws_markNeedS.l0,h1,if_false]
  exact Ev.some
 | succ d ih=>
  intro i l hi hl he
  have h1:(i:Int)<(l.length:Int):=by omega
  have h2:(0:Int)≤(i:Int):=by omega
  have h3:=next_i (show i<n by omega) (by omega)
  have h4:wrap64 (x+2*i+1)=x+2*i+1:=wrap64_id (by omega) (by omega)
  have h5:wrap64 (x+2*i+1+1)=x+2*((i+1:Nat):Int):=by rw[wrap64_id (by omega) (by omega)];omega
  have hg:∀ u v:S71,rd_T71 ((l.set i u)) (i:Int)=u:=fun u _=>by
   have:rd_T71 (l.set i u) (i:Int)=(l.set i u)[i]'(by rw[List.length_set];omega):=rdD_cast _ (by rw[List.length_set];omega)
   rw[this,List.getElem_set_self]
  refine Ev.succ ?_
  simp only[laws_markNeedS.l0,h1,if_true]
  refine Ev.bind (markText (x+2*i) (by omega)) ?_
  simp only[h2,if_true,Option.bind_some,Int.toNat_natCast,h4]
  refine Ev.bind (markText (x+2*i+1) (by omega)) ?_
  simp only[h3,h5,List.set_set,hg _ z71]
  refine ih (i+1) _ (by omega) (by simpa using hl) ?_
  have:=take_set_step (l:=l) (m:=mkN x n) (i:=i) (by omega) (by rw[mkN_length];omega) he
  rwa [mkN_get n x i (by rw[mkN_length];omega)] at this
theorem markNeedS (l:List S71) (x:Int) (hx0:0≤x) (hx:x+2*l.length≤549755813888):Ev (fun k=>laws_markNeedS.f k l x) (x+2*l.length,mkN x l.length):=by
 unfold laws_markNeedS.f
 have:=markNeedS_l l.length x hx0 hx l.length 0 l (by omega) rfl (by simp)
 simpa using this
def needNeed (x:S99):Int:=(x.f0.size:Int)+(x.f1.size:Int)
theorem needNeed_nonneg (x:S99):0≤needNeed x:=by
 unfold needNeed;omega
def needNeedS:List S99→Int
 | []=>0
 | x :: r=>needNeed x+needNeedS r
theorem needNeedS_nonneg:∀ l:List S99,0≤needNeedS l
 | []=>by simp[needNeedS]
 | x :: r=>by have:=needNeed_nonneg x;have:=needNeedS_nonneg r;simp only[needNeedS];omega
theorem needNeed_mem:∀ {l:List S99} {x:S99},x∈l→needNeed x≤needNeedS l
 | y :: r,x,h=>by
  have h1:=needNeed_nonneg y
  have h2:=needNeedS_nonneg r
  simp only[needNeedS]
  rcases List.mem_cons.1 h with e|h
  ·rw[e];omega
  ·have:=needNeed_mem h;omega
theorem szNeed (x:S99) (a:Int) (ho:ok99 x) (h0:0≤a) (ha:a≤9223372036854775807):Ev (fun k=>laws_szNeed.f x.f0 x.f1 a) (left (needNeed x) a):=by
 obtain⟨o0,o1⟩:=ho
 unfold laws_szNeed.f needNeed
 have o0':=o0;unfold maxLen at o0'
 have o1':=o1;unfold maxLen at o1'
 skip
 have hw0:wrap64 (a-(x.f0.size:Int))=a-(x.f0.size:Int):=wrap64_id (by omega) (by omega)
 simp only[hw0]
 by_cases h0:a-(x.f0.size:Int)<0
 ·simp only[h0,if_true]
  exact Ev.cast Ev.some (left_not (by omega)).symm
 simp only[h0,if_false]
 skip
 have hw1:wrap64 ((a-(x.f0.size:Int))-(x.f1.size:Int))=(a-(x.f0.size:Int))-(x.f1.size:Int):=wrap64_id (by omega) (by omega)
 simp only[hw1]
 by_cases h1:(a-(x.f0.size:Int))-(x.f1.size:Int)<0
 ·simp only[h1,if_true]
  exact Ev.cast Ev.some (left_not (by omega)).symm
 simp only[h1,if_false]
 skip
 refine Ev.cast Ev.some ?_
 first|rfl|(rw[left_pos (by omega)];omega)
theorem szNeedS_l (l:List S99) (hl:l.length≤9223372036854775807) (ho:∀ x∈l,ok99 x) (d:Nat):∀ (i:Nat) (a:Int),i+d=l.length→0≤a→a≤9223372036854775807 →
  Ev (fun k=>laws_szNeedS.l0 k l a (i:Int)) (left (needNeedS (l.drop i)) a):=by
 induction d with
 | zero=>
  intro i a hi h0 ha
  have h1:¬(i:Int)<(l.length:Int):=by omega
  refine Ev.succ ?_
  rw[List.drop_eq_nil_of_le (by omega),left_pos (by simpa [needNeedS] using h0)]
  simp only[laws_szNeedS.l0,h1,if_false,needNeedS,Int.sub_zero]
  exact Ev.some
 | succ d ih=>
  intro i a hi h0 ha
  have hlt:i<l.length:=by omega
  have h1:(i:Int)<(l.length:Int):=by omega
  have h2:(0:Int)≤(i:Int):=by omega
  have h3:=next_i hlt hl
  have hn:=needNeedS_nonneg (l.drop (i+1))
  have hn0:=needNeed_nonneg l[i]
  have hg:rd_T99 l (i:Int)=l[i]:=rdD_cast _ hlt
  refine Ev.succ ?_
  rw[drop_get hlt]
  simp only[laws_szNeedS.l0,h1,h2,h3,if_true,hg,needNeedS]
  refine Ev.bind (szNeed l[i] a (ho _ (List.getElem_mem hlt)) h0 ha) ?_
  by_cases h5:needNeed l[i]≤a
  ·rw[left_pos h5]
   simp only[show ¬a-needNeed l[i]<0 by omega,if_false]
   refine Ev.cast (ih (i+1) (a-needNeed l[i]) (by omega) (by omega) (by omega)) ?_
   unfold left
   split <;> split <;> omega
  ·rw[left_not h5]
   exact Ev.cast Ev.some (left_not (by omega)).symm
theorem szNeedS (l:List S99) (a:Int) (ho:l.length≤maxLen∧∀ x∈l,ok99 x) (h0:0≤a) (ha:a≤9223372036854775807):Ev (fun k=>laws_szNeedS.f k l a) (left ((l.length:Int)+needNeedS l) a):=by
 obtain⟨hl,ho⟩:=ho
 unfold maxLen at hl
 unfold laws_szNeedS.f
 have hn:=needNeedS_nonneg l
 rw[wrap64_id (by omega) (by omega)]
 by_cases h:a-(l.length:Int)<0
 ·simp only[h,if_true]
  rw[left_not (by omega)]
  exact Ev.some
 ·simp only[h,if_false]
  refine Ev.succ ?_
  simp only[laws_szNeedS.j0]
  refine Ev.cast (szNeedS_l l (by omega) ho l.length 0 (a-(l.length:Int)) (by omega) (by omega) (by omega)) ?_
  rw[List.drop_zero]
  unfold left
  split <;> split <;> omega
def convNeed (x:S99):S71:=⟨x.f0,x.f1⟩
theorem toNeed (x:S99) (hn:needNeed x≤1048576):Ev (fun k=>laws_toNeed.f x.f0 x.f1) ((convNeed x).f0,(convNeed x).f1):=by
 unfold needNeed at hn
 unfold laws_toNeed.f
 skip
 exact Ev.some
theorem toNeedS_l (l:List S99) (hl:l.length≤9223372036854775807) (hn:∀ x∈l,needNeed x≤1048576) (d:Nat):∀ (i:Nat) (x:List S71),i+d=l.length→x.length=l.length→x.take i=(l.map convNeed).take i →
  Ev (fun k=>laws_toNeedS.l0 k l x (i:Int)) (l.map convNeed):=by
 induction d with
 | zero=>
  intro i x hi hx he
  have h1:¬(i:Int)<(l.length:Int):=by omega
  have e:x=l.map convNeed:=by rwa [List.take_of_length_le (by omega),List.take_of_length_le (by simp;omega)] at he
  refine Ev.succ ?_
  simp only[laws_toNeedS.l0,h1,if_false,e]
  exact Ev.some
 | succ d ih=>
  intro i x hi hx he
  have hlt:i<l.length:=by omega
  have h1:(i:Int)<(l.length:Int):=by omega
  have h1x:(i:Int)<(x.length:Int):=by omega
  have h2:(0:Int)≤(i:Int):=by omega
  have h3:=next_i hlt hl
  have hg:rd_T99 l (i:Int)=l[i]:=rdD_cast _ hlt
  have hm:i<(l.map convNeed).length:=by simpa using hlt
  have hv:(l.map convNeed)[i]=convNeed l[i]:=by simp
  refine Ev.succ ?_
  simp only[laws_toNeedS.l0,h1,h2,h3,if_true,hg]
  refine Ev.bind (toNeed l[i] (hn _ (List.getElem_mem hlt))) ?_
  simp only[h1x,if_true,Int.toNat_natCast]
  refine ih (i+1) _ (by omega) (by simpa using hx) ?_
  have:=take_set_step (l:=x) (m:=l.map convNeed) (by omega) hm he
  rw[hv] at this
  exact this
theorem toNeedS (l:List S99) (hn:(l.length:Int)+needNeedS l≤1048576):Ev (fun k=>laws_toNeedS.f k l) (l.map convNeed):=by
 have h0:=needNeedS_nonneg l
 unfold laws_toNeedS.f
 simp only[show (0:Int)≤(l.length:Int) by omega,if_true]
 refine Ev.cond (fun _=>?_) (fun hq=>absurd (by omega) hq)
 exact toNeedS_l l (by omega) (fun x hx=>by have:=needNeed_mem hx;omega) l.length 0 _ (by omega) (by simp) (by simp)
def fitNeed (y:S71):Prop:=True
theorem fit_convNeed (x:S99) (hn:needNeed x≤1048576):fitNeed (convNeed x):=by
 unfold needNeed at hn
 trivial
theorem eqNeed (y:S71) (hf:fitNeed y):Ev (fun k=>laws_eqNeed.f y.f0 y.f1 y.f0 y.f1) true:=by
 unfold laws_eqNeed.f
 skip
 skip
 first|simp only[if_true]|skip
 skip
 first|simp only[if_true]|skip
 skip
 first|simp only[if_true]|skip
 exact Ev.some
theorem eqNeedS_l (l:List S71) (hl:l.length≤9223372036854775807) (hf:∀ z∈l,fitNeed z) (d:Nat):∀ i:Nat,i+d=l.length→Ev (fun k=>laws_eqNeedS.l0 k l l (i:Int)) true:=by
 induction d with
 | zero=>
  intro i hi
  have h1:¬(i:Int)<(l.length:Int):=by omega
  refine Ev.succ ?_
  simp only[laws_eqNeedS.l0,h1,if_false]
  exact Ev.some
 | succ d ih=>
  intro i hi
  have hlt:i<l.length:=by omega
  have h1:(i:Int)<(l.length:Int):=by omega
  have h2:(0:Int)≤(i:Int):=by omega
  have h3:=next_i hlt hl
  have hg:rd_T71 l (i:Int)=l[i]:=rdD_cast _ hlt
  refine Ev.succ ?_
  simp only[laws_eqNeedS.l0,h1,h2,h3,if_true,hg]
  first|(refine Ev.succ (g:=fun k=>laws_eqNeedS.j0 k _ _) ?_;simp only[laws_eqNeedS.j0])|skip
  first|simp only[h1,h2,h3,if_true,hg]|skip
  refine Ev.bind (eqNeed l[i] (hf _ (List.getElem_mem hlt))) ?_
  simp only[if_true]
  exact ih (i+1) (by omega)
theorem eqNeedS (l:List S71) (hf:l.length≤9223372036854775807∧∀ z∈l,fitNeed z):Ev (fun k=>laws_eqNeedS.f k l l) true:=by
 unfold laws_eqNeedS.f
 simp only[if_true]
 refine Ev.succ ?_
 simp only[laws_eqNeedS.j0]
 exact eqNeedS_l l hf.1 hf.2 l.length 0 (by omega)
def needCmd (x:S101):Int:=(x.f0.size:Int)+szL x.f1
theorem needCmd_nonneg (x:S101):0≤needCmd x:=by
 have n1:=szL_nonneg x.f1
 unfold needCmd;omega
def needCmdS:List S101→Int
 | []=>0
 | x :: r=>needCmd x+needCmdS r
theorem needCmdS_nonneg:∀ l:List S101,0≤needCmdS l
 | []=>by simp[needCmdS]
 | x :: r=>by have:=needCmd_nonneg x;have:=needCmdS_nonneg r;simp only[needCmdS];omega
theorem needCmd_mem:∀ {l:List S101} {x:S101},x∈l→needCmd x≤needCmdS l
 | y :: r,x,h=>by
  have h1:=needCmd_nonneg y
  have h2:=needCmdS_nonneg r
  simp only[needCmdS]
  rcases List.mem_cons.1 h with e|h
  ·rw[e];omega
  ·have:=needCmd_mem h;omega
theorem szCmd (x:S101) (a:Int) (ho:ok101 x) (h0:0≤a) (ha:a≤9223372036854775807):Ev (fun k=>laws_szCmd.f k x.f0 x.f1 a) (left (needCmd x) a):=by
 obtain⟨o0,o1⟩:=ho
 unfold laws_szCmd.f needCmd
 have n1:=szL_nonneg x.f1
 have o0':=o0;unfold maxLen at o0'
 skip
 have hw0:wrap64 (a-(x.f0.size:Int))=a-(x.f0.size:Int):=wrap64_id (by omega) (by omega)
 simp only[hw0]
 by_cases h0:a-(x.f0.size:Int)<0
 ·simp only[h0,if_true]
  exact Ev.cast Ev.some (left_not (by omega)).symm
 simp only[h0,if_false]
 skip
 refine Ev.bind (szStringS x.f1 (a-(x.f0.size:Int)) (by have:=o1.1;unfold maxLen at this;omega) (fun z hz=>by have:=o1.2 z hz;unfold maxLen at this;omega) (by omega) (by omega)) ?_
 by_cases h1:szL x.f1≤(a-(x.f0.size:Int))
 case neg=>rw[left_not h1];first|exact Ev.some|exact Ev.cast Ev.some (left_not (by omega)).symm
 rw[left_pos h1]
 simp only[show ¬(a-(x.f0.size:Int))-szL x.f1<0 by omega,if_false]
 skip
 refine Ev.cast Ev.some ?_
 first|rfl|(rw[left_pos (by omega)];omega)
theorem szCmdS_l (l:List S101) (hl:l.length≤9223372036854775807) (ho:∀ x∈l,ok101 x) (d:Nat):∀ (i:Nat) (a:Int),i+d=l.length→0≤a→a≤9223372036854775807 →
  Ev (fun k=>laws_szCmdS.l0 k l a (i:Int)) (left (needCmdS (l.drop i)) a):=by
 induction d with
 | zero=>
  intro i a hi h0 ha
  have h1:¬(i:Int)<(l.length:Int):=by omega
  refine Ev.succ ?_
  rw[List.drop_eq_nil_of_le (by omega),left_pos (by simpa [needCmdS] using h0)]
  simp only[laws_szCmdS.l0,h1,if_false,needCmdS,Int.sub_zero]
  exact Ev.some
 | succ d ih=>
  intro i a hi h0 ha
  have hlt:i<l.length:=by omega
  have h1:(i:Int)<(l.length:Int):=by omega
  have h2:(0:Int)≤(i:Int):=by omega
  have h3:=next_i hlt hl
  have hn:=needCmdS_nonneg (l.drop (i+1))
  have hn0:=needCmd_nonneg l[i]
  have hg:rd_T101 l (i:Int)=l[i]:=rdD_cast _ hlt
  refine Ev.succ ?_
  rw[drop_get hlt]
  simp only[laws_szCmdS.l0,h1,h2,h3,if_true,hg,needCmdS]
  refine Ev.bind (szCmd l[i] a (ho _ (List.getElem_mem hlt)) h0 ha) ?_
  by_cases h5:needCmd l[i]≤a
  ·rw[left_pos h5]
   simp only[show ¬a-needCmd l[i]<0 by omega,if_false]
   refine Ev.cast (ih (i+1) (a-needCmd l[i]) (by omega) (by omega) (by omega)) ?_
   unfold left
   split <;> split <;> omega
  ·rw[left_not h5]
   exact Ev.cast Ev.some (left_not (by omega)).symm
theorem szCmdS (l:List S101) (a:Int) (ho:l.length≤maxLen∧∀ x∈l,ok101 x) (h0:0≤a) (ha:a≤9223372036854775807):Ev (fun k=>laws_szCmdS.f k l a) (left ((l.length:Int)+needCmdS l) a):=by
 obtain⟨hl,ho⟩:=ho
 unfold maxLen at hl
 unfold laws_szCmdS.f
 have hn:=needCmdS_nonneg l
 rw[wrap64_id (by omega) (by omega)]
 by_cases h:a-(l.length:Int)<0
 ·simp only[h,if_true]
  rw[left_not (by omega)]
  exact Ev.some
 ·simp only[h,if_false]
  refine Ev.succ ?_
  simp only[laws_szCmdS.j0]
  refine Ev.cast (szCmdS_l l (by omega) ho l.length 0 (a-(l.length:Int)) (by omega) (by omega) (by omega)) ?_
  rw[List.drop_zero]
  unfold left
  split <;> split <;> omega
def convCmd (x:S101):S74:=⟨x.f0,x.f1⟩
theorem toCmd (x:S101) (hn:needCmd x≤1048576):Ev (fun k=>laws_toCmd.f k x.f0 x.f1) ((convCmd x).f0,(convCmd x).f1):=by
 unfold needCmd at hn
 have n1:=szL_nonneg x.f1
 unfold laws_toCmd.f
 skip
 refine Ev.bind (toStringS x.f1 (by have:=szT_nonneg x.f1;unfold szL at *;omega)) ?_
 skip
 exact Ev.some
theorem toCmdS_l (l:List S101) (hl:l.length≤9223372036854775807) (hn:∀ x∈l,needCmd x≤1048576) (d:Nat):∀ (i:Nat) (x:List S74),i+d=l.length→x.length=l.length→x.take i=(l.map convCmd).take i →
  Ev (fun k=>laws_toCmdS.l0 k l x (i:Int)) (l.map convCmd):=by
 induction d with
 | zero=>
  intro i x hi hx he
  have h1:¬(i:Int)<(l.length:Int):=by omega
  have e:x=l.map convCmd:=by rwa [List.take_of_length_le (by omega),List.take_of_length_le (by simp;omega)] at he
  refine Ev.succ ?_
  simp only[laws_toCmdS.l0,h1,if_false,e]
  exact Ev.some
 | succ d ih=>
  intro i x hi hx he
  have hlt:i<l.length:=by omega
  have h1:(i:Int)<(l.length:Int):=by omega
  have h1x:(i:Int)<(x.length:Int):=by omega
  have h2:(0:Int)≤(i:Int):=by omega
  have h3:=next_i hlt hl
  have hg:rd_T101 l (i:Int)=l[i]:=rdD_cast _ hlt
  have hm:i<(l.map convCmd).length:=by simpa using hlt
  have hv:(l.map convCmd)[i]=convCmd l[i]:=by simp
  refine Ev.succ ?_
  simp only[laws_toCmdS.l0,h1,h2,h3,if_true,hg]
  refine Ev.bind (toCmd l[i] (hn _ (List.getElem_mem hlt))) ?_
  simp only[h1x,if_true,Int.toNat_natCast]
  refine ih (i+1) _ (by omega) (by simpa using hx) ?_
  have:=take_set_step (l:=x) (m:=l.map convCmd) (by omega) hm he
  rw[hv] at this
  exact this
theorem toCmdS (l:List S101) (hn:(l.length:Int)+needCmdS l≤1048576):Ev (fun k=>laws_toCmdS.f k l) (l.map convCmd):=by
 have h0:=needCmdS_nonneg l
 unfold laws_toCmdS.f
 simp only[show (0:Int)≤(l.length:Int) by omega,if_true]
 refine Ev.cond (fun _=>?_) (fun hq=>absurd (by omega) hq)
 exact toCmdS_l l (by omega) (fun x hx=>by have:=needCmd_mem hx;omega) l.length 0 _ (by omega) (by simp) (by simp)
def fitCmd (y:S74):Prop:=y.f1.length≤9223372036854775807
theorem fit_convCmd (x:S101) (hn:needCmd x≤1048576):fitCmd (convCmd x):=by
 unfold needCmd at hn
 have n1:=szL_nonneg x.f1
 exact(show x.f1.length≤9223372036854775807 from by have:=szT_nonneg x.f1;unfold szL at *;omega)
theorem eqCmd (y:S74) (hf:fitCmd y):Ev (fun k=>laws_eqCmd.f k y.f0 y.f1 y.f0 y.f1) true:=by
 unfold laws_eqCmd.f
 have m1:=hf
 skip
 first|simp only[if_true]|skip
 skip
 refine Ev.bind (eqStringS y.f1 y.f1 m1) ?_
 simp only[decide_true,if_true]
 skip
 first|simp only[if_true]|skip
 exact Ev.some
theorem eqCmdS_l (l:List S74) (hl:l.length≤9223372036854775807) (hf:∀ z∈l,fitCmd z) (d:Nat):∀ i:Nat,i+d=l.length→Ev (fun k=>laws_eqCmdS.l0 k l l (i:Int)) true:=by
 induction d with
 | zero=>
  intro i hi
  have h1:¬(i:Int)<(l.length:Int):=by omega
  refine Ev.succ ?_
  simp only[laws_eqCmdS.l0,h1,if_false]
  exact Ev.some
 | succ d ih=>
  intro i hi
  have hlt:i<l.length:=by omega
  have h1:(i:Int)<(l.length:Int):=by omega
  have h2:(0:Int)≤(i:Int):=by omega
  have h3:=next_i hlt hl
  have hg:rd_T74 l (i:Int)=l[i]:=rdD_cast _ hlt
  refine Ev.succ ?_
  simp only[laws_eqCmdS.l0,h1,h2,h3,if_true,hg]
  first|(refine Ev.succ (g:=fun k=>laws_eqCmdS.j0 k _ _) ?_;simp only[laws_eqCmdS.j0])|skip
  first|simp only[h1,h2,h3,if_true,hg]|skip
  refine Ev.bind (eqCmd l[i] (hf _ (List.getElem_mem hlt))) ?_
  simp only[if_true]
  exact ih (i+1) (by omega)
theorem eqCmdS (l:List S74) (hf:l.length≤9223372036854775807∧∀ z∈l,fitCmd z):Ev (fun k=>laws_eqCmdS.f k l l) true:=by
 unfold laws_eqCmdS.f
 simp only[if_true]
 refine Ev.succ ?_
 simp only[laws_eqCmdS.j0]
 exact eqCmdS_l l hf.1 hf.2 l.length 0 (by omega)
def needPack (x:S39):Int:=(x.f0.size:Int)+szL x.f1+((x.f2.length:Int)+needNeedS x.f2)+((x.f3.length:Int)+needCmdS x.f3)
theorem needPack_nonneg (x:S39):0≤needPack x:=by
 have n1:=szL_nonneg x.f1
 have n2:=needNeedS_nonneg x.f2
 have n3:=needCmdS_nonneg x.f3
 unfold needPack;omega
theorem szPack (x:S39) (a:Int) (ho:ok39 x) (h0:0≤a) (ha:a≤9223372036854775807):Ev (fun k=>laws_szPack.f k x.f0 x.f1 x.f2 x.f3 a) (left (needPack x) a):=by
 obtain⟨o0,o1,o2,o3⟩:=ho
 unfold laws_szPack.f needPack
 have n1:=szL_nonneg x.f1
 have n2:=needNeedS_nonneg x.f2
 have n3:=needCmdS_nonneg x.f3
 have o0':=o0;unfold maxLen at o0'
 first|(refine Ev.succ (g:=fun k=>laws_szPack.j0 k _ _ _ _ _) ?_;simp only[laws_szPack.j0])|(refine Ev.succ (g:=fun k=>laws_szPack.j1 k _ _ _ _ _) ?_;simp only[laws_szPack.j1])|skip
 have hw0:wrap64 (a-(x.f0.size:Int))=a-(x.f0.size:Int):=wrap64_id (by omega) (by omega)
 simp only[hw0]
 by_cases h0:a-(x.f0.size:Int)<0
 ·simp only[h0,if_true]
  exact Ev.cast Ev.some (left_not (by omega)).symm
 simp only[h0,if_false]
 first|(refine Ev.succ (g:=fun k=>laws_szPack.j0 k _ _ _ _ _) ?_;simp only[laws_szPack.j0])|(refine Ev.succ (g:=fun k=>laws_szPack.j1 k _ _ _ _ _) ?_;simp only[laws_szPack.j1])|skip
 refine Ev.bind (szStringS x.f1 (a-(x.f0.size:Int)) (by have:=o1.1;unfold maxLen at this;omega) (fun z hz=>by have:=o1.2 z hz;unfold maxLen at this;omega) (by omega) (by omega)) ?_
 by_cases h1:szL x.f1≤(a-(x.f0.size:Int))
 case neg=>rw[left_not h1];first|exact Ev.some|exact Ev.cast Ev.some (left_not (by omega)).symm
 rw[left_pos h1]
 simp only[show ¬(a-(x.f0.size:Int))-szL x.f1<0 by omega,if_false]
 first|(refine Ev.succ (g:=fun k=>laws_szPack.j0 k _ _ _ _ _) ?_;simp only[laws_szPack.j0])|(refine Ev.succ (g:=fun k=>laws_szPack.j1 k _ _ _ _ _) ?_;simp only[laws_szPack.j1])|skip
 refine Ev.bind (szNeedS x.f2 ((a-(x.f0.size:Int))-szL x.f1) o2 (by omega) (by omega)) ?_
 by_cases h2:((x.f2.length:Int)+needNeedS x.f2)≤((a-(x.f0.size:Int))-szL x.f1)
 case neg=>rw[left_not h2];first|exact Ev.some|exact Ev.cast Ev.some (left_not (by omega)).symm
 rw[left_pos h2]
 simp only[show ¬((a-(x.f0.size:Int))-szL x.f1)-((x.f2.length:Int)+needNeedS x.f2)<0 by omega,if_false]
 first|(refine Ev.succ (g:=fun k=>laws_szPack.j0 k _ _ _ _ _) ?_;simp only[laws_szPack.j0])|(refine Ev.succ (g:=fun k=>laws_szPack.j1 k _ _ _ _ _) ?_;simp only[laws_szPack.j1])|skip
 refine Ev.bind (szCmdS x.f3 (((a-(x.f0.size:Int))-szL x.f1)-((x.f2.length:Int)+needNeedS x.f2)) o3 (by omega) (by omega)) ?_
 by_cases h3:((x.f3.length:Int)+needCmdS x.f3)≤(((a-(x.f0.size:Int))-szL x.f1)-((x.f2.length:Int)+needNeedS x.f2))
 case neg=>rw[left_not h3];first|exact Ev.some|exact Ev.cast Ev.some (left_not (by omega)).symm
 rw[left_pos h3]
 simp only[show ¬(((a-(x.f0.size:Int))-szL x.f1)-((x.f2.length:Int)+needNeedS x.f2))-((x.f3.length:Int)+needCmdS x.f3)<0 by omega,if_false]
 first|(refine Ev.succ (g:=fun k=>laws_szPack.j0 k _ _ _ _ _) ?_;simp only[laws_szPack.j0])|(refine Ev.succ (g:=fun k=>laws_szPack.j1 k _ _ _ _ _) ?_;simp only[laws_szPack.j1])|skip
 refine Ev.cast Ev.some ?_
 first|rfl|(rw[left_pos (by omega)];omega)
def convPack (x:S39):S45:=⟨x.f0,x.f1,x.f2.map convNeed,x.f3.map convCmd⟩
theorem toPack (x:S39) (hn:needPack x≤1048576):Ev (fun k=>laws_toPack.f k x.f0 x.f1 x.f2 x.f3) ((convPack x).f0,(convPack x).f1,(convPack x).f2,(convPack x).f3):=by
 unfold needPack at hn
 have n1:=szL_nonneg x.f1
 have n2:=needNeedS_nonneg x.f2
 have n3:=needCmdS_nonneg x.f3
 unfold laws_toPack.f
 skip
 refine Ev.bind (toStringS x.f1 (by have:=szT_nonneg x.f1;unfold szL at *;omega)) ?_
 skip
 refine Ev.bind (toNeedS x.f2 (by omega)) ?_
 skip
 refine Ev.bind (toCmdS x.f3 (by omega)) ?_
 skip
 exact Ev.some
def fitPack (y:S45):Prop:=y.f1.length≤9223372036854775807∧(y.f2.length≤9223372036854775807∧∀ z∈y.f2,fitNeed z)∧(y.f3.length≤9223372036854775807∧∀ z∈y.f3,fitCmd z)
theorem fit_convPack (x:S39) (hn:needPack x≤1048576):fitPack (convPack x):=by
 unfold needPack at hn
 have n1:=szL_nonneg x.f1
 have n2:=needNeedS_nonneg x.f2
 have n3:=needCmdS_nonneg x.f3
 exact⟨(show x.f1.length≤9223372036854775807 from by have:=szT_nonneg x.f1;unfold szL at *;omega),⟨by simp only[convPack,List.length_map];omega,fun z hz=>by obtain⟨u,hu,rfl⟩:=List.mem_map.1 hz;exact fit_convNeed u (by have:=needNeed_mem hu;omega)⟩,⟨by simp only[convPack,List.length_map];omega,fun z hz=>by obtain⟨u,hu,rfl⟩:=List.mem_map.1 hz;exact fit_convCmd u (by have:=needCmd_mem hu;omega)⟩⟩
theorem eqPack (y:S45) (hf:fitPack y):Ev (fun k=>laws_eqPack.f k y.f0 y.f1 y.f2 y.f3 y.f0 y.f1 y.f2 y.f3) true:=by
 unfold laws_eqPack.f
 obtain⟨m1,m2,m3⟩:=hf
 first|(refine Ev.succ (g:=fun k=>laws_eqPack.j0 k _ _ _ _ _ _ _ _) ?_;simp only[laws_eqPack.j0])|(refine Ev.succ (g:=fun k=>laws_eqPack.j1 k _ _ _ _ _ _ _ _) ?_;simp only[laws_eqPack.j1])|skip
 first|simp only[if_true]|skip
 first|(refine Ev.succ (g:=fun k=>laws_eqPack.j0 k _ _ _ _ _ _ _ _) ?_;simp only[laws_eqPack.j0])|(refine Ev.succ (g:=fun k=>laws_eqPack.j1 k _ _ _ _ _ _ _ _) ?_;simp only[laws_eqPack.j1])|skip
 refine Ev.bind (eqStringS y.f1 y.f1 m1) ?_
 simp only[decide_true,if_true]
 first|(refine Ev.succ (g:=fun k=>laws_eqPack.j0 k _ _ _ _ _ _ _ _) ?_;simp only[laws_eqPack.j0])|(refine Ev.succ (g:=fun k=>laws_eqPack.j1 k _ _ _ _ _ _ _ _) ?_;simp only[laws_eqPack.j1])|skip
 refine Ev.bind (eqNeedS y.f2 m2) ?_
 simp only[if_true]
 first|(refine Ev.succ (g:=fun k=>laws_eqPack.j0 k _ _ _ _ _ _ _ _) ?_;simp only[laws_eqPack.j0])|(refine Ev.succ (g:=fun k=>laws_eqPack.j1 k _ _ _ _ _ _ _ _) ?_;simp only[laws_eqPack.j1])|skip
 refine Ev.bind (eqCmdS y.f3 m3) ?_
 simp only[if_true]
 first|(refine Ev.succ (g:=fun k=>laws_eqPack.j0 k _ _ _ _ _ _ _ _) ?_;simp only[laws_eqPack.j0])|(refine Ev.succ (g:=fun k=>laws_eqPack.j1 k _ _ _ _ _ _ _ _) ?_;simp only[laws_eqPack.j1])|skip
 first|simp only[if_true]|skip
 exact Ev.some
def tV (s:ByteArray):S29:=⟨3,0,s,[],[]⟩
def lV (l:List ByteArray):S29:=⟨4,0,⟨#[]⟩,l.map tV,[]⟩
theorem texts_l (l:List ByteArray) (hl:l.length≤1048576) (d:Nat):∀ (i:Nat) (out:List S29),i+d=l.length→out.length=i →
  Ev (fun k=>impl_textsVal.l0 k l (l.length:Int) (i:Int) 4 0 (⟨#[]⟩:ByteArray) out) (4,0,⟨#[]⟩,out++(l.drop i).map tV,[]):=by
 induction d with
 | zero=>
  intro i out hi ho
  have h1:¬(i:Int)<(l.length:Int):=by omega
  refine Ev.succ ?_
  rw[List.drop_eq_nil_of_le (by omega),List.map_nil,List.append_nil]
  simp only[impl_textsVal.l0,h1,if_false]
  exact Ev.some
 | succ d ih=>
  intro i out hi ho
  have hlt:i<l.length:=by omega
  have h1:(i:Int)<(l.length:Int):=by omega
  have h2:(0:Int)≤(i:Int):=by omega
  have h3:=next_i hlt (by omega)
  have h4:out.length<1759218604441:=by omega
  refine Ev.succ ?_
  rw[drop_get hlt,List.map_cons]
  simp only[impl_textsVal.l0,h1,h2,h3,h4,if_true,rdOf_cast _ hlt]
  have:=ih (i+1) (out++[tV l[i]]) (by omega) (by simp[ho])
  rwa [List.append_assoc] at this
theorem impl_texts (l:List ByteArray) (hl:l.length≤1048576):Ev (fun k=>impl_textsVal.f k l) (valT (lV l)):=by
 unfold impl_textsVal.f
 have:=texts_l l hl l.length 0 [] (by omega) rfl
 simpa [valT,lV] using this
theorem list_l (l:List ByteArray) (hl:l.length≤1048576) (d:Nat):∀ (i:Nat) (out:List S29),i+d=l.length→out.length=i →
  Ev (fun k=>spec_l7ListVal.l0 k l (i:Int) 4 0 (⟨#[]⟩:ByteArray) out) (4,0,⟨#[]⟩,out++(l.drop i).map tV,[]):=by
 induction d with
 | zero=>
  intro i out hi ho
  have h1:¬(i:Int)<(l.length:Int):=by omega
  refine Ev.succ ?_
  rw[List.drop_eq_nil_of_le (by omega),List.map_nil,List.append_nil]
  simp only[spec_l7ListVal.l0,h1,if_false]
  exact Ev.some
 | succ d ih=>
  intro i out hi ho
  have hlt:i<l.length:=by omega
  have h1:(i:Int)<(l.length:Int):=by omega
  have h2:(0:Int)≤(i:Int):=by omega
  have h3:=next_i hlt (by omega)
  have h4:out.length<1759218604441:=by omega
  refine Ev.succ ?_
  rw[drop_get hlt,List.map_cons]
  simp only[spec_l7ListVal.l0,spec_l7TextVal.f,Option.bind_some,h1,h2,h3,h4,if_true,rdOf_cast _ hlt]
  have:=ih (i+1) (out++[tV l[i]]) (by omega) (by simp[ho])
  rwa [List.append_assoc] at this
theorem spec_list (l:List ByteArray) (hl:l.length≤1048576):Ev (fun k=>spec_l7ListVal.f k l) (valT (lV l)):=by
 unfold spec_l7ListVal.f
 have:=list_l l hl l.length 0 [] (by omega) rfl
 simpa [valT,lV] using this
def packV (x:S45):S29:=⟨5,0,⟨#[]⟩,[tV x.f0,⟨5,0,⟨#[]⟩,x.f2.map (fun n=>tV n.f1),x.f2.map (·.f0)⟩,⟨5,0,⟨#[]⟩,x.f3.map (fun c=>lV c.f1),x.f3.map (·.f0)⟩,lV x.f1],
 [⟨#[110,97,109,101]⟩,⟨#[110,101,101,100,115]⟩,⟨#[116,97,115,107,115]⟩,⟨#[117,115,101,115]⟩]⟩
def smallP (x:S45):Prop:=x.f0.size≤1048576∧(x.f1.length≤1048576∧∀ s∈x.f1,s.size≤1048576)∧(x.f2.length≤1048576∧∀ n∈x.f2,n.f0.size≤1048576∧n.f1.size≤1048576)∧(x.f3.length≤1048576∧∀ c∈x.f3,c.f0.size≤1048576∧c.f1.length≤1048576∧∀ s∈c.f1,s.size≤1048576)
theorem impl_cmds:∀ l:List S74,(∀ c∈l,c.f1.length≤1048576)→Ev (fun k=>impl_PackVal.ls k l) (l.map fun c=>lV c.f1)
 | [],_=>Ev.some
 | c :: r,h=>by
  simp only[impl_PackVal.ls]
  exact Ev.bind (impl_texts c.f1 (h c (by simp))) (Ev.bind (impl_cmds r (fun z hz=>h z (List.mem_cons_of_mem _ hz))) Ev.some)
theorem impl_packv (x:S45) (h:smallP x):Ev (fun k=>impl_PackVal.f k x.f0 x.f1 x.f2 x.f3) (valT (packV x)):=by
 obtain⟨h0,h1,h2,h3⟩:=h
 unfold impl_PackVal.f
 simp only[show x.f2.length≤1000000000∧x.f3.length≤1000000000 from⟨by have:=h2.1;omega,by have:=h3.1;omega⟩,and_self,if_true]
 exact Ev.bind (impl_cmds x.f3 (fun c hc=>(h3.2 c hc).2.1)) (Ev.bind (impl_texts x.f1 h1.1) Ev.some)
theorem spec_cmds:∀ l:List S74,(∀ c∈l,c.f1.length≤1048576)→Ev (fun k=>spec_PackVal.ls k l) (l.map fun c=>lV c.f1)
 | [],_=>Ev.some
 | c :: r,h=>by
  simp only[spec_PackVal.ls]
  exact Ev.bind (spec_list c.f1 (h c (by simp))) (Ev.bind (spec_cmds r (fun z hz=>h z (List.mem_cons_of_mem _ hz))) Ev.some)
theorem spec_needs:∀ l:List S71,spec_PackVal.ns l=some (l.map fun n=>tV n.f1)
 | []=>rfl
 | c :: r=>by
  simp only[spec_PackVal.ns,spec_l7TextVal.f,Option.bind_some,spec_needs r,List.map_cons]
  rfl
theorem spec_packv (x:S45) (h:smallP x):Ev (fun k=>spec_PackVal.f k x.f0 x.f1 x.f2 x.f3) (valT (packV x)):=by
 obtain⟨h0,h1,h2,h3⟩:=h
 unfold spec_PackVal.f
 simp only[show x.f2.length≤1000000000∧x.f3.length≤1000000000 from⟨by have:=h2.1;omega,by have:=h3.1;omega⟩,and_self,if_true,spec_needs,Option.bind_some,spec_l7TextVal.f]
 exact Ev.bind (spec_cmds x.f3 (fun c hc=>(h3.2 c hc).2.1)) (Ev.bind (spec_list x.f1 h1.1) Ev.some)
theorem fit_tV (s:ByteArray) (h:s.size≤1048576):fitVal (tV s):=fitVal.mk _ (Nat.zero_le _) (fun z hz=>absurd hz (List.not_mem_nil)) (Nat.zero_le _) (fun z hz=>absurd hz (List.not_mem_nil)) (by show s.size≤_;omega)
theorem fit_lV (l:List ByteArray) (h:l.length≤1048576) (hs:∀ s∈l,s.size≤1048576):fitVal (lV l):=
 fitVal.mk _ (by show (l.map tV).length≤_;rw[List.length_map];omega) (fun z hz=>by obtain⟨s,hs',rfl⟩:=List.mem_map.1 (show z∈l.map tV from hz);exact fit_tV s (hs s hs')) (Nat.zero_le _) (fun z hz=>absurd hz (List.not_mem_nil)) (Nat.zero_le _)
theorem fit_packV (x:S45) (h:smallP x):fitVal (packV x):=by
 obtain⟨h0,h1,h2,h3⟩:=h
 refine fitVal.mk _ (by show (4:Nat)≤_;omega) (fun z hz=>?_) (by show (4:Nat)≤_;omega) (fun z hz=>?_) (Nat.zero_le _)
 ·have hz':z∈[tV x.f0,(⟨5,0,⟨#[]⟩,x.f2.map (fun n=>tV n.f1),x.f2.map (·.f0)⟩:S29),⟨5,0,⟨#[]⟩,x.f3.map (fun c=>lV c.f1),x.f3.map (·.f0)⟩,lV x.f1]:=hz
  simp only[List.mem_cons,List.not_mem_nil,or_false] at hz'
  rcases hz' with rfl|rfl|rfl|rfl
  ·exact fit_tV _ h0
  ·refine fitVal.mk _ (by show (x.f2.map (fun n=>tV n.f1)).length≤_;rw[List.length_map];omega) (fun z hz=>?_) (by show (x.f2.map (·.f0)).length≤_;rw[List.length_map];omega) (fun z hz=>?_) (Nat.zero_le _)
   ·obtain⟨n,hn,rfl⟩:=List.mem_map.1 (show z∈x.f2.map (fun n=>tV n.f1) from hz)
    exact fit_tV _ (h2.2 n hn).2
   ·obtain⟨n,hn,rfl⟩:=List.mem_map.1 (show z∈x.f2.map (·.f0) from hz)
    have:=(h2.2 n hn).1
    omega
  ·refine fitVal.mk _ (by show (x.f3.map (fun c=>lV c.f1)).length≤_;rw[List.length_map];omega) (fun z hz=>?_) (by show (x.f3.map (·.f0)).length≤_;rw[List.length_map];omega) (fun z hz=>?_) (Nat.zero_le _)
   ·obtain⟨c,hc,rfl⟩:=List.mem_map.1 (show z∈x.f3.map (fun c=>lV c.f1) from hz)
    exact fit_lV _ (h3.2 c hc).2.1 (h3.2 c hc).2.2
   ·obtain⟨c,hc,rfl⟩:=List.mem_map.1 (show z∈x.f3.map (·.f0) from hz)
    have:=(h3.2 c hc).1
    omega
  ·exact fit_lV _ h1.1 h1.2
 ·have hz':z∈[(⟨#[110,97,109,101]⟩:ByteArray),⟨#[110,101,101,100,115]⟩,⟨#[116,97,115,107,115]⟩,⟨#[117,115,101,115]⟩]:=hz
  simp only[List.mem_cons,List.not_mem_nil,or_false] at hz'
  rcases hz' with rfl|rfl|rfl|rfl <;> decide
theorem ct_tVs:∀ l:List ByteArray,ctVS (l.map tV)=3*(l.length:Int)
 | []=>by rw[List.map_nil,ctVS];simp
 | s :: r=>by
  have:=ct_tVs r
  rw[List.map_cons,ctVS,this,ctV_eq,List.length_cons]
  simp only[tV,ctVS,List.length_nil]
  omega
theorem ct_lV (l:List ByteArray):ctV (lV l)=3+3*(l.length:Int):=by
 rw[ctV_eq]
 show 3+ctVS (l.map tV)+((0:Nat):Int)=_
 rw[ct_tVs]
 omega
def rowsK:List S74→Int
 | []=>0
 | c :: l=>c.f1.length+rowsK l
theorem rowsK_nonneg:∀ l,0≤rowsK l
 | []=>Int.le_refl _
 | c :: l=>by have:=rowsK_nonneg l;unfold rowsK;omega
theorem ct_cmds:∀ l:List S74,ctVS (l.map fun c=>lV c.f1)=3*(l.length:Int)+3*rowsK l
 | []=>by rw[List.map_nil,ctVS,rowsK];simp
 | c :: r=>by
  have:=ct_cmds r
  rw[List.map_cons,ctVS,this,ct_lV,List.length_cons,rowsK]
  omega
theorem ct_packV (x:S45) (h:smallP x) (hr:rowsK x.f3≤1048576):ctR (packV x)≤16777216:=by
 obtain⟨h0,h1,h2,h3⟩:=h
 have e1:=ct_tVs (x.f2.map (·.f1))
 rw[List.map_map,List.length_map] at e1
 have e2:=ct_cmds x.f3
 have e3:=ct_lV x.f1
 have e0:=ctV_eq (tV x.f0)
 have q:ctR (packV x)=ctV (tV x.f0)+(ctV (⟨5,0,⟨#[]⟩,x.f2.map (fun n=>tV n.f1),x.f2.map (·.f0)⟩:S29)+(ctV (⟨5,0,⟨#[]⟩,x.f3.map (fun c=>lV c.f1),x.f3.map (·.f0)⟩:S29)+(ctV (lV x.f1)+0)))+4:=by
  unfold ctR packV
  simp only[ctVS,List.length_cons,List.length_nil]
  omega
 have q1:=ctV_eq (⟨5,0,⟨#[]⟩,x.f2.map (fun n=>tV n.f1),x.f2.map (·.f0)⟩:S29)
 have q2:=ctV_eq (⟨5,0,⟨#[]⟩,x.f3.map (fun c=>lV c.f1),x.f3.map (·.f0)⟩:S29)
 simp only[List.length_map] at q1 q2
 have e1':ctVS (x.f2.map (fun n=>tV n.f1))=3*(x.f2.length:Int):=e1
 have e0':ctV (tV x.f0)=3:=by rw[e0];simp only[tV,ctVS,List.length_nil];omega
 have b1:=h1.1
 have b2:=h2.1
 have b3:=h3.1
 omega
theorem markCmdS_ex:∀ (l:List S74) (x:Int),0≤x→x+(l.length:Int)+rowsK l≤549755813888→∃ y,Ev (fun k=>laws_markCmdS.f k l x) y∧x≤y.1
 | [],x,h0,h=>⟨(x,[]),Ev.some,Int.le_refl _⟩
 | e :: l,x,h0,h=>by
  have hn:=rowsK_nonneg l
  rw[rowsK,List.length_cons] at h
  have h1:wrap64 (x+1)=x+1:=wrap64_id (by omega) (by omega)
  obtain⟨y,hy,g1⟩:=markCmdS_ex l (x+1+e.f1.length) (by omega) (by omega)
  refine⟨(y.1,(⟨mkT x,mks (x+1) e.f1.length⟩:S74) :: y.2),?_,by show x≤y.1;omega⟩
  unfold laws_markCmdS.f at hy ⊢
  simp only[laws_markCmdS.l,laws_markCmdS.el,h1]
  refine Ev.bind (Ev.bind (markText x (by omega)) (Ev.bind (markStringS _ (x+1) (by omega) (by omega)) Ev.some)) ?_
  exact Ev.bind hy Ev.some
theorem markPack_ex (x:S45) (h:smallP x) (hr:rowsK x.f3≤1048576):∃ y,Ev (fun k=>laws_markPack.f k x.f0 x.f1 x.f2 x.f3 1) y∧1≤y.1:=by
 obtain⟨h0,h1,h2,h3⟩:=h
 have b1:=h1.1
 have b2:=h2.1
 have b3:=h3.1
 obtain⟨y,hy,g1⟩:=markCmdS_ex x.f3 (1+x.f1.length+2*x.f2.length) (by omega) (by omega)
 refine⟨(y.1,mks 1 x.f1.length,mkN (1+x.f1.length) x.f2.length,y.2),?_,by show 1≤y.1;omega⟩
 unfold laws_markPack.f
 exact Ev.bind (markStringS _ 1 (by omega) (by omega)) (Ev.bind (markNeedS _ (1+x.f1.length) (by omega) (by omega)) (Ev.bind hy Ev.some))
theorem szL_in:∀ {l:List ByteArray} {x:ByteArray},x∈l→(x.size:Int)≤szT l
 | y :: r,x,h=>by
  have h2:=szT_nonneg r
  simp only[szT]
  rcases List.mem_cons.1 h with rfl|h
  ·omega
  ·have:=szL_in h;omega
theorem rowsK_conv:∀ l:List S101,rowsK (l.map convCmd)≤needCmdS l
 | []=>Int.le_refl _
 | c :: l=>by
  have h1:=rowsK_conv l
  have h2:=szT_nonneg c.f1
  simp only[List.map_cons,rowsK,needCmdS,needCmd,szL,convCmd]
  omega
theorem small_pack (x:S39) (h:needPack x≤1048576):smallP (convPack x)∧rowsK (convPack x).f3≤1048576:=by
 unfold needPack szL at h
 have n1:=szT_nonneg x.f1
 have n2:=needNeedS_nonneg x.f2
 have n3:=needCmdS_nonneg x.f3
 have n4:=rowsK_conv x.f3
 refine⟨⟨by show x.f0.size≤_;omega,⟨by show x.f1.length≤_;omega,fun s hs=>?_⟩,⟨by show (x.f2.map convNeed).length≤_;rw[List.length_map];omega,fun n hn=>?_⟩,⟨by show (x.f3.map convCmd).length≤_;rw[List.length_map];omega,fun c hc=>?_⟩⟩,by show rowsK (x.f3.map convCmd)≤_;omega⟩
 ·have:=szL_in (show s∈x.f1 from hs)
  omega
 ·obtain⟨u,hu,rfl⟩:=List.mem_map.1 (show n∈x.f2.map convNeed from hn)
  have:=needNeed_mem hu
  unfold needNeed at this
  exact⟨by show u.f0.size≤_;omega,by show u.f1.size≤_;omega⟩
 ·obtain⟨u,hu,rfl⟩:=List.mem_map.1 (show c∈x.f3.map convCmd from hc)
  have:=needCmd_mem hu
  unfold needCmd szL at this
  have m1:=szT_nonneg u.f1
  refine⟨by show u.f0.size≤_;omega,by show u.f1.length≤_;omega,fun s hs=>?_⟩
  have:=szL_in (show s∈u.f1 from hs)
  omega
end Go.Proofs.Ytglhniiabhknoaa.Pure

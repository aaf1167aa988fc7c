/- What the functions come to. -/
import Derived.Test.YtglhniiabhknoaaGreatDoorZGCAux
import Derived.Lib.SplitLaws
import Derived.Lib.Join
import Derived.Test.YtglhniiabhknoaaGreatDoorZGCPGCx1
import Derived.Test.YtglhniiabhknoaaGreatDoorZGCPGCx0
import Derived.Lib.CutLaws
import Derived.Test.YtglhniiabhknoaaGreatDoorZGCPGCx6
import Derived.Lib.ItoaNum
import Derived.Test.YtglhniiabhknoaaGreatDoorZGCPGCx9
import Derived.Lib.TrimByte
import Derived.Test.YtglhniiabhknoaaGreatDoorZGCPGCx12
import Derived.Test.YtglhniiabhknoaaGreatDoorZGCMine
import Derived.Test.YtglhniiabhknoaaGreatDoorZGCPGCx15
import Derived.Test.YtglhniiabhknoaaGreatDoorZGCOGC
set_option linter.unusedVariables false
set_option linter.unusedSimpArgs false
namespace Go.Proofs.YtglhniiabhknoaaGreatDoor.Pure
open Go.RowKit Go.Proofs.YtglhniiabhknoaaGreatDoor.Aux Go.Proofs.YtglhniiabhknoaaGreatDoorW.PrintWords
theorem Ev.yes {α:Type} {c:Prop} [Decidable c] {g f:Nat→Option α} {r:α} (hc:c) (h:Ev g r):Ev (fun k=>if c then g k else f k) r:=by
 simpa only[hc,if_true] using h
theorem Ev.no {α:Type} {c:Prop} [Decidable c] {g f:Nat→Option α} {r:α} (hc:¬c) (h:Ev f r):Ev (fun k=>if c then g k else f k) r:=by
 simpa only[hc,if_false] using h
def glue (u:List UInt8):List (List UInt8)→List (List UInt8)
 | []=>[u]
 | p :: ps=>(u++p) :: ps
theorem glue_nil:∀ {l:List (List UInt8)},l≠[]→glue [] l=l
 | [],h=>absurd rfl h
 | _ :: _,_=>rfl
theorem glue_glue (u v:List UInt8):∀ l:List (List UInt8),l≠[]→glue u (glue v l)=glue (u++v) l
 | [],h=>absurd rfl h
 | p :: ps,_=>by simp[glue]
theorem split_miss {s sep:List UInt8} (h:Lib.index s sep = -1):Lib.split s sep=[s]:=by
 unfold Lib.split
 rw[Lib.count_miss h]
 rfl
theorem split_hit {s sep:List UInt8} {i:Nat} (h1:sep≠[]) (h:Lib.index s sep=i):Lib.split s sep=s.take i :: Lib.split (s.drop (i+sep.length)) sep:=by
 unfold Lib.split
 rw[Lib.count_hit h1 h,Nat.add_comm]
 have hm:¬(Lib.index s sep == -1)=true:=fun e=>by have:=beq_iff_eq.1 e;omega
 have e:(Lib.index s sep).toNat=i:=by omega
 rw[Lib.splitK,if_neg hm,e]
 rfl
theorem split_ne (s sep:List UInt8):Lib.split s sep≠[]:=by
 unfold Lib.split
 cases Lib.count s sep with
 | zero=>simp[Lib.splitK]
 | succ k=>
  unfold Lib.splitK
  split <;> simp
theorem split_nil {sep:List UInt8} (h1:sep≠[]):Lib.split [] sep=[[]]:=by
 refine split_miss ?_
 cases sep with
 | nil=>exact absurd rfl h1
 | cons a b=>rfl
theorem split_at {s sep:List UInt8} (h1:sep≠[]) (h:sep.isPrefixOf s=true):Lib.split s sep=[] :: Lib.split (s.drop sep.length) sep:=by
 have hi:Lib.index s sep=((0:Nat):Int):=by
  cases s with
  | nil=>
   cases sep with
   | nil=>exact absurd rfl h1
   | cons a b=>simp at h
  | cons b l=>unfold Lib.index;rw[if_pos h];rfl
 rw[split_hit h1 hi]
 simp
theorem split_by {b:UInt8} {l sep:List UInt8} (h1:sep≠[]) (h:sep.isPrefixOf (b :: l)=false):Lib.split (b :: l) sep=glue [b] (Lib.split l sep):=by
 have hx:Lib.index (b :: l) sep=if Lib.index l sep == -1 then -1 else Lib.index l sep+1:=by rw[Lib.index,h];simp
 by_cases hm:Lib.index l sep = -1
 ·rw[split_miss hm,split_miss (by rw[hx,if_pos (beq_iff_eq.2 hm)])]
  rfl
 ·have hge:=Lib.index_ge l sep
  obtain⟨j,hj⟩:∃ j:Nat,Lib.index l sep=j:=⟨(Lib.index l sep).toNat,by omega⟩
  have hx':Lib.index (b :: l) sep=((j+1:Nat):Int):=by rw[hx,if_neg (fun e=>hm (beq_iff_eq.1 e)),hj];omega
  rw[split_hit h1 hj,split_hit h1 hx']
  simp[glue,Nat.add_right_comm]
theorem split_one_at (c:UInt8) (l:List UInt8):Lib.split (c :: l) [c]=[] :: Lib.split l [c]:=by
 rw[split_at (sep:=[c]) (by simp) (by unfold List.isPrefixOf;simp)]
 rfl
theorem split_one_by {b c:UInt8} (l:List UInt8) (h:¬b=c):Lib.split (b :: l) [c]=glue [b] (Lib.split l [c]):=
 split_by (by simp) (by
  unfold List.isPrefixOf
  rw[show (c == b)=false from by simpa using fun e=>h e.symm]
  rfl)
def ofL (l:List UInt8):ByteArray:=⟨l.toArray⟩
theorem ofL_data (s:ByteArray):ofL s.data.toList=s:=by cases s;simp[ofL]
theorem data_ofL (l:List UInt8):(ofL l).data.toList=l:=by simp[ofL]
theorem ofL_size (l:List UInt8):(ofL l).size=l.length:=by simp[ofL,ByteArray.size]
def piecesB (s sep:ByteArray):List ByteArray:=(Lib.split s.data.toList sep.data.toList).map ofL
theorem splitB_pieces (s sep:ByteArray):Lib.splitB sep 0 (Lib.countB s sep) s=piecesB s sep:=by
 have h:=Lib.splitB_data sep 0 (Lib.countB s sep) s
 unfold piecesB Lib.split
 rw[← h,List.map_map]
 conv=>lhs;rw[← List.map_id (Lib.splitB sep 0 (Lib.countB s sep) s)]
 exact List.map_congr_left (fun x _=>by simp[ofL_data])
theorem extract_ofL (s:ByteArray) (a b:Nat):s.extract a b=ofL ((s.data.toList.drop a).take (b-a)):=by
 rw[← ofL_data (s.extract a b),Lib.extract_data]
theorem data_drop {s:ByteArray} {i:Nat} (h:i<s.size):∃ b:UInt8,s.data.toList.drop i=b :: s.data.toList.drop (i+1)∧bt s (i:Int)=(b.toNat:Int)∧s.data.toList[i]?=some b:=by
 have hl:i<s.data.toList.length:=by simpa using h
 refine⟨s.data.toList[i],List.drop_eq_getElem_cons hl,?_,List.getElem?_eq_getElem hl⟩
 rw[bt_bs]
 unfold bs
 rw[List.getD_eq_getElem?_getD,Int.toNat_natCast,List.getElem?_map,List.getElem?_eq_getElem hl]
 rfl
theorem pieces_mem {s sep:ByteArray} (h1:sep.data.toList≠[]):∀ x∈piecesB s sep,x.size≤s.size:=by
 have main:∀ (n:Nat) (l:List UInt8),l.length=n→∀ x∈Lib.split l sep.data.toList,x.length≤n:=by
  intro n
  induction n using Nat.strongRecOn with
  | _ n ih=>
   intro l hl x hx
   rcases Lib.index_spec l sep.data.toList with ⟨hm,_⟩|⟨i,hi,hle,_,_⟩
   ·rw[split_miss hm] at hx
    obtain rfl:=List.mem_singleton.1 hx
    omega
   ·rw[split_hit h1 hi] at hx
    have hp:0<sep.data.toList.length:=List.length_pos_iff.2 h1
    have hr:=Lib.index_room l sep.data.toList (by omega)
    rcases List.mem_cons.1 hx with rfl|hx
    ·rw[List.length_take];omega
    ·have:=ih (l.length-(i+sep.data.toList.length)) (by omega) _ (by rw[List.length_drop]) x hx
     omega
 intro x hx
 obtain⟨u,hu,rfl⟩:=List.mem_map.1 hx
 rw[ofL_size]
 have:=main _ _ rfl u hu
 rwa [show s.data.toList.length=s.size from by simp] at this
theorem pieces_length {s sep:ByteArray} (h1:1≤sep.size):(piecesB s sep).length≤s.size+1:=by
 rw[← splitB_pieces]
 have:=Lib.splitB_length_le sep 0 (Lib.countB s sep) s
 have:=Lib.countB_le sep h1 s.size s (Nat.le_refl _)
 omega
end Go.Proofs.YtglhniiabhknoaaGreatDoor.Pure
namespace Go.Proofs.YtglhniiabhknoaaGreatDoor.Pure
open Go.RowKit Go.Proofs.YtglhniiabhknoaaGreatDoor.PGC Go.Proofs.YtglhniiabhknoaaGreatDoorW.PrintWords Go.Proofs.YtglhniiabhknoaaGreatDoorW.PrintLast Go.Proofs.YtglhniiabhknoaaGreatDoor.Aux
def dats (l:List ByteArray):List (List UInt8):=l.map (·.data.toList)
def joinB (l:List ByteArray) (sep:ByteArray):ByteArray:=ofL (Lib.join (dats l) sep.data.toList)
def joinN (l:List ByteArray) (sep:ByteArray):Nat:=sep.size*l.length+Lib.lens (dats l)
theorem joinB_size (l:List ByteArray) (sep:ByteArray):(joinB l sep).size≤joinN l sep:=by
 unfold joinB joinN
 rw[ofL_size]
 cases l with
 | nil=>simp[dats,Lib.join_nil]
 | cons x r=>
  rw[show dats (x :: r)=x.data.toList :: dats r from rfl,Lib.join_length]
  have h1:(dats r).length=r.length:=by simp[dats]
  have h2:sep.data.toList.length=sep.size:=by simp
  rw[h1,h2,List.length_cons,Nat.mul_succ]
  omega
theorem strings_join (l:List ByteArray) (sep:ByteArray) (hb:joinN l sep≤140737488355328) (hr:l.length≤140737488355328):strings_Join.f l sep=some (joinB l sep):=by
 have h:=joinB_size l sep
 unfold joinB at h
 rw[ofL_size] at h
 unfold strings_Join.f
 rw[if_pos ⟨Nat.le_trans h hb,hr⟩]
 rfl
theorem join_two (x y:List UInt8) (r:List (List UInt8)) (sep:List UInt8):Lib.join (x :: y :: r) sep=x++sep++Lib.join (y :: r) sep:=by
 rw[Lib.join_cons,Lib.join_cons]
 simp[Lib.joinTail,List.append_assoc]
theorem join_glue (u:List UInt8) (sep:List UInt8):∀ l:List (List UInt8),Lib.join (glue u l) sep=u++Lib.join l sep
 | []=>by simp[glue,Lib.join_one,Lib.join_nil]
 | p :: ps=>by rw[glue,Lib.join_cons,Lib.join_cons,List.append_assoc]
theorem join_split (c:UInt8):∀ l:List UInt8,Lib.join (Lib.split l [c]) [c]=l
 | []=>by rw[split_nil (by simp),Lib.join_one]
 | b :: l=>by
  have ih:=join_split c l
  by_cases h:b=c
  ·subst h
   rw[split_one_at]
   cases hs:Lib.split l [b] with
   | nil=>exact absurd hs (split_ne _ _)
   | cons y r=>
    rw[hs] at ih
    rw[join_two,ih]
    rfl
  ·rw[split_one_by _ h,join_glue,ih]
   rfl
theorem dats_pieces (s sep:ByteArray):dats (piecesB s sep)=Lib.split s.data.toList sep.data.toList:=by
 unfold dats piecesB
 rw[List.map_map]
 conv=>rhs;rw[← List.map_id (Lib.split s.data.toList sep.data.toList)]
 exact List.map_congr_left (fun x _=>data_ofL x)
theorem joinB_pieces (s:ByteArray) (c:UInt8):joinB (piecesB s ⟨#[c]⟩) ⟨#[c]⟩=s:=by
 unfold joinB
 rw[dats_pieces,show (⟨#[c]⟩:ByteArray).data.toList=[c] from rfl,join_split,ofL_data]
theorem joinN_size {l:List ByteArray} {sep:ByteArray} (h:l≠[]):joinN l sep=sep.size+(joinB l sep).size:=by
 cases l with
 | nil=>exact absurd rfl h
 | cons x r=>
  unfold joinN joinB
  rw[ofL_size,show dats (x :: r)=x.data.toList :: dats r from rfl,Lib.join_cons,List.length_append,Lib.joinTail_length]
  have h1:(dats r).length=r.length:=by simp[dats]
  have h2:sep.data.toList.length=sep.size:=by simp
  simp only[Lib.lens,List.map_cons,List.sum_cons,h1,h2,List.length_cons,Nat.mul_succ]
  omega
theorem pieces_ne (s sep:ByteArray):piecesB s sep≠[]:=by
 unfold piecesB
 simp[split_ne]
theorem joinN_pieces (s:ByteArray) (c:UInt8):joinN (piecesB s ⟨#[c]⟩) ⟨#[c]⟩=s.size+1:=by
 rw[joinN_size (pieces_ne _ _),joinB_pieces,show (⟨#[c]⟩:ByteArray).size=1 from rfl]
 omega
def at1 (c:UInt8) (l:List UInt8):Nat:=l.findIdx (· == c)
theorem at1_nil (c:UInt8):at1 c []=0:=rfl
theorem at1_hit (c:UInt8) (l:List UInt8):at1 c (c :: l)=0:=by simp[at1,List.findIdx_cons]
theorem at1_miss {b c:UInt8} (h:¬b=c) (l:List UInt8):at1 c (b :: l)=at1 c l+1:=by
 unfold at1
 rw[List.findIdx_cons,show (b == c)=false from by simpa using h]
 rfl
theorem at1_le (c:UInt8) (l:List UInt8):at1 c l≤l.length:=List.findIdx_le_length
theorem index_one (c:UInt8):∀ l:List UInt8,Lib.index l [c]=if at1 c l<l.length then (at1 c l:Int) else -1
 | []=>rfl
 | b :: l=>by
  have ih:=index_one c l
  by_cases h:b=c
  ·subst h
   rw[Lib.index,at1_hit]
   simp[List.isPrefixOf]
  ·have hp:[c].isPrefixOf (b :: l)=false:=by
    unfold List.isPrefixOf
    rw[show (c == b)=false from by simpa using fun e=>h e.symm]
    rfl
   rw[Lib.index,hp,at1_miss h,ih,List.length_cons]
   simp only[Bool.false_eq_true,if_false]
   by_cases hl:at1 c l<l.length
   ·have hq:¬((at1 c l:Int) == -1)=true:=fun e=>by have:=beq_iff_eq.1 e;omega
    simp only[hl,if_true,if_neg hq,show at1 c l+1<l.length+1 by omega]
    omega
   ·simp[hl]
def headB (c:UInt8) (s:ByteArray):ByteArray:=ofL (s.data.toList.take (at1 c s.data.toList))
def tailB (c:UInt8) (s:ByteArray):ByteArray:=ofL (s.data.toList.drop (at1 c s.data.toList+1))
def hasB (c:UInt8) (s:ByteArray):Bool:=decide (at1 c s.data.toList<s.data.toList.length)
theorem headB_size (c:UInt8) (s:ByteArray):(headB c s).size≤s.size:=by
 unfold headB
 rw[ofL_size,List.length_take]
 have:s.data.toList.length=s.size:=by simp
 omega
theorem tailB_size (c:UInt8) (s:ByteArray):(tailB c s).size≤s.size:=by
 unfold tailB
 rw[ofL_size,List.length_drop]
 have:s.data.toList.length=s.size:=by simp
 omega
theorem at1_get (c:UInt8):∀ l:List UInt8,at1 c l<l.length→l=l.take (at1 c l)++c :: l.drop (at1 c l+1)
 | [],h=>absurd h (by simp)
 | b :: l,h=>by
  by_cases e:b=c
  ·subst e
   rw[at1_hit]
   rfl
  ·rw[at1_miss e] at h ⊢
   have:=at1_get c l (by simpa using h)
   simp only[List.take_succ_cons,List.drop_succ_cons,List.cons_append]
   exact congrArg (b :: ·) this
theorem head_has {c:UInt8} {s:ByteArray} (h:hasB c s=true):headB c s++(⟨#[c]⟩++tailB c s)=s:=by
 have h1:=at1_get c s.data.toList (by simpa [hasB] using h)
 rw[← ofL_data (headB c s++(⟨#[c]⟩++tailB c s))]
 conv=>rhs;rw[← ofL_data s,h1]
 unfold headB tailB
 simp[ofL]
theorem head_not {c:UInt8} {s:ByteArray} (h:hasB c s=false):headB c s=s:=by
 have h1:¬at1 c s.data.toList<s.data.toList.length:=by simpa [hasB] using h
 unfold headB
 rw[List.take_of_length_le (by omega),ofL_data]
theorem cut_one (c:UInt8) (s:ByteArray):Lib.cut s.data.toList [c]=if hasB c s=true then ((headB c s).data.toList,(tailB c s).data.toList,true) else (s.data.toList,[],false):=by
 unfold Lib.cut headB tailB hasB
 rw[index_one,data_ofL,data_ofL]
 by_cases h:at1 c s.data.toList<s.data.toList.length
 ·simp only[h,if_true,decide_true,show (0:Int)≤(at1 c s.data.toList:Int) by omega,Int.toNat_natCast,List.length_cons,List.length_nil]
 ·simp only[h,if_false,decide_false,Bool.false_eq_true,show ¬(0:Int)≤-1 by omega]
theorem spec_split_l (s:ByteArray) (c:UInt8) (hs:s.size≤16777216) (d:Nat):∀ (i fr:Nat) (out:List ByteArray),i+d=s.size→fr≤i→out.length≤i →
  Ev (fun k=>spec_Split.l0 k s (c.toNat:Int) out (fr:Int) (i:Int)) (out++(glue ((s.data.toList.drop fr).take (i-fr)) (Lib.split (s.data.toList.drop i) [c])).map ofL):=by
 induction d with
 | zero=>
  intro i fr out hi hf ho
  obtain rfl:i=s.size:=by omega
  have h3:=wrap64_id (i:=(s.size:Int)+1) (by omega) (by omega)
  have hd:s.data.toList.drop s.size=[]:=List.drop_eq_nil_of_le (by simp)
  refine Ev.succ ?_
  simp only[spec_Split.l0,Int.le_refl,if_true,show (0:Int)≤(fr:Int) by omega,show (fr:Int)≤(s.size:Int) by omega,show out.length<8796093022208 by omega,h3]
  refine Ev.succ ?_
  simp only[spec_Split.l0,show ¬((s.size:Int)+1≤(s.size:Int)) by omega,if_false]
  refine Ev.cast Ev.some ?_
  rw[hd,split_nil (by simp)]
  simp only[glue,List.append_nil,List.map_cons,List.map_nil,Int.toNat_natCast,extract_ofL]
 | succ d ih=>
  intro i fr out hi hf ho
  have hlt:i<s.size:=by omega
  have h3:=next_i hlt (by omega)
  obtain⟨b,hb,hbt,hg⟩:=data_drop hlt
  refine Ev.succ ?_
  simp only[spec_Split.l0,show (i:Int)≤(s.size:Int) by omega,show ¬(i:Int)=(s.size:Int) by omega,show (0:Int)≤(i:Int) by omega,show (i:Int)<(s.size:Int) by omega,if_true,if_false,h3,hbt]
  by_cases h:b=c
  ·subst h
   simp only[show (0:Int)≤(fr:Int) by omega,show (fr:Int)≤(i:Int) by omega,show out.length<8796093022208 by omega,if_true]
   refine Ev.cast (ih (i+1) (i+1) _ (by omega) (by omega) (by simp;omega)) ?_
   rw[hb,split_one_at,Nat.sub_self,List.take_zero,glue_nil (split_ne _ _)]
   simp only[glue,List.append_nil,List.map_cons,List.append_assoc,List.singleton_append,Int.toNat_natCast,extract_ofL]
  ·have hne:¬((b.toNat:Int)=(c.toNat:Int)):=fun e=>h (UInt8.toNat_inj.1 (by omega))
   simp only[hne,if_false]
   refine Ev.cast (ih (i+1) fr out (by omega) (by omega) (by omega)) ?_
   rw[hb,split_one_by _ h,glue_glue _ _ _ (split_ne _ _)]
   congr 3
   have hx:(s.data.toList.drop fr)[i-fr]?=some b:=by rw[List.getElem?_drop,show fr+(i-fr)=i by omega,hg]
   rw[show i+1-fr=(i-fr)+1 by omega,List.take_add_one,hx]
   rfl
theorem spec_split (s:ByteArray) (c:UInt8) (hs:s.size≤16777216):Ev (fun k=>spec_Split.f k s (c.toNat:Int)) (piecesB s ⟨#[c]⟩):=by
 unfold spec_Split.f
 refine Ev.cast (spec_split_l s c hs s.size 0 0 [] (by omega) (by omega) (by simp)) ?_
 rw[List.nil_append,List.drop_zero,Nat.sub_self,List.take_zero,glue_nil (split_ne _ _)]
 rfl
theorem strings_split (s:ByteArray) (c:UInt8) (hs:s.size≤16777216):strings_Split.f s ⟨#[c]⟩=some (piecesB s ⟨#[c]⟩):=by
 unfold strings_Split.f
 rw[if_pos ⟨by omega,by show 1≤1;omega⟩,splitB_pieces]
def inB (x a b:Int):Bool:=decide (a≤x) && decide (x≤b)
def smallB (x:Int):Bool:=inB x 97 122
def digitB (x:Int):Bool:=inB x 48 57
def upperB (x:Int):Bool:=inB x 65 90
theorem in_f (a b c:Int):spec_l1In.f a b c=some (inB a b c):=by
 unfold spec_l1In.f inB
 by_cases h:b≤a <;> simp[h]
theorem inRange_f (a b c:Int):impl_inRange.f a b c=some (inB a b c):=by
 unfold impl_inRange.f inB
 by_cases h:b≤a <;> simp[h]
theorem small_spec {x:Int} (h:0≤x∧x≤255):spec_l1Small.f x=some (smallB x):=by
 unfold spec_l1Small.f
 rw[wrap64_id (by omega) (by omega),in_f]
 rfl
theorem digit_spec {x:Int} (h:0≤x∧x≤255):spec_l1Digit.f x=some (digitB x):=by
 unfold spec_l1Digit.f
 rw[wrap64_id (by omega) (by omega),in_f]
 rfl
theorem small_impl (x:Int):impl_isSmall.f x=some (smallB x):=by
 unfold impl_isSmall.f smallB inB
 by_cases h:97≤x <;> simp[h]
theorem digit_impl (x:Int):impl_isFigure.f x=some (digitB x):=by
 unfold impl_isFigure.f digitB inB
 by_cases h:48≤x <;> simp[h]
def numB (x:Int):ByteArray:=ofL (Lib.decDigits x.toNat)
theorem impl_num (x:Int) (h:x≤9223372036854775807):impl_NumText.f x=some (numB x):=by
 unfold impl_NumText.f strconv_Itoa.f
 have hm:mx x 0=(x.toNat:Int):=by unfold mx;split <;> omega
 rw[hm,if_pos ⟨by omega,by omega⟩]
 simp only[Option.bind_some,numB,Lib.itoa,show ¬((x.toNat:Nat):Int)<0 by omega,if_false,Int.toNat_natCast]
 rfl
def valL (l:List UInt8):Nat:=l.foldl (fun a b=>a*10+(b.toNat-48)) 0
theorem valL_snoc (l:List UInt8) (b:UInt8):valL (l++[b])=valL l*10+(b.toNat-48):=by
 unfold valL
 rw[List.foldl_append]
 rfl
def digL (b:UInt8):Bool:=digitB (b.toNat:Int)
theorem digL_iff (b:UInt8):digL b=true↔48≤b.toNat∧b.toNat≤57:=by
 unfold digL digitB inB
 simp
 omega
theorem valL_lt:∀ (n:Nat) (l:List UInt8),l.length=n→(∀ b∈l,digL b=true)→valL l<10 ^ n
 | 0,l,hl,_=>by
  obtain rfl:=List.length_eq_zero_iff.1 hl
  decide
 | n+1,l,hl,hd=>by
  obtain⟨u,b,rfl⟩:∃ u b,l=u++[b]:=⟨l.dropLast,l.getLast (by intro e;simp[e] at hl),(List.dropLast_concat_getLast _).symm⟩
  have hb:=(digL_iff b).1 (hd b (by simp))
  have:=valL_lt n u (by simpa using hl) (fun c hc=>hd c (by simp[hc]))
  rw[valL_snoc,Nat.pow_succ]
  omega
theorem decDigits_head:∀ (n u:Nat),u≤n→1≤u→∃ h t,Lib.decDigits u=h :: t∧h≠48
 | 0,u,h,h1=>by omega
 | n+1,u,h,h1=>by
  by_cases h9:u<10
  ·refine⟨UInt8.ofNat (48+u),[],by rw[Lib.decDigits,dif_pos h9],fun e=>?_⟩
   have:=congrArg UInt8.toNat e
   simp at this
   omega
  ·obtain⟨a,t,e,ha⟩:=decDigits_head n (u / 10) (by omega) (by omega)
   exact⟨a,t++[UInt8.ofNat (48+u % 10)],by rw[Lib.decDigits,dif_neg h9,e];rfl,ha⟩
def noLead:List UInt8→Bool
 | []=>false
 | [_]=>true
 | b :: _ :: _=>b != 48
theorem decDigits_val:∀ (n:Nat) (l:List UInt8),l.length=n→(∀ b∈l,digL b=true)→noLead l=true→Lib.decDigits (valL l)=l
 | 0,l,hl,_,hn=>by
  obtain rfl:=List.length_eq_zero_iff.1 hl
  cases hn
 | n+1,l,hl,hd,hn=>by
  obtain⟨u,b,rfl⟩:∃ u b,l=u++[b]:=⟨l.dropLast,l.getLast (by intro e;simp[e] at hl),(List.dropLast_concat_getLast _).symm⟩
  have hb:=(digL_iff b).1 (hd b (by simp))
  rw[valL_snoc]
  cases u with
  | nil=>
   rw[show valL []=0 from rfl,Lib.decDigits,dif_pos (by omega)]
   have:UInt8.ofNat (48+(0*10+(b.toNat-48)))=b:=by
    apply UInt8.toNat_inj.1
    simp
    omega
   rw[this]
   rfl
  | cons a r=>
   have ha:a≠48:=by
    cases r with
    | nil=>simpa [noLead] using hn
    | cons c r=>simpa [noLead] using hn
   have had:=(digL_iff a).1 (hd a (by simp))
   have hnl:noLead (a :: r)=true:=by
    cases r with
    | nil=>rfl
    | cons c r=>simpa [noLead] using ha
   have ih:=decDigits_val n (a :: r) (by simpa using hl) (fun c hc=>hd c (by simp at hc ⊢;rcases hc with h|h <;> simp[h])) hnl
   have hpos:1≤valL (a :: r):=by
    apply Decidable.byContradiction
    intro hz
    have h0:valL (a :: r)=0:=by omega
    rw[h0,Lib.decDigits,dif_pos (by omega)] at ih
    have:(48:UInt8)=a:=(List.cons.inj ih).1
    exact ha this.symm
   rw[Lib.decDigits,dif_neg (by omega)]
   rw[show (valL (a :: r)*10+(b.toNat-48)) / 10=valL (a :: r) by omega,show (valL (a :: r)*10+(b.toNat-48)) % 10=b.toNat-48 by omega,ih]
   have:UInt8.ofNat (48+(b.toNat-48))=b:=by
    apply UInt8.toNat_inj.1
    simp
    omega
   rw[this]
theorem noLead_of_dec {l:List UInt8} (h:Lib.decDigits (valL l)=l):noLead l=true:=by
 match l,h with
 | [],h=>
  rw[show valL []=0 from rfl,Lib.decDigits,dif_pos (by omega)] at h
  cases h
 | [_],_=>rfl
 | a :: b :: r,h=>
  by_cases h0:valL (a :: b :: r)=0
  ·rw[h0,Lib.decDigits,dif_pos (by omega)] at h
   cases h
  ·obtain⟨c,t,e,hc⟩:=decDigits_head _ _ (Nat.le_refl _) (by omega:1≤valL (a :: b :: r))
   rw[h] at e
   obtain rfl:a=c:=(List.cons.inj e).1
   simpa [noLead] using hc
def valB (s:ByteArray):Int:=(valL s.data.toList:Int)
def parseOk (s:ByteArray):Bool:=inB s.size 1 7 && (s.data.toList.all digL && noLead s.data.toList)
def parseM (s:ByteArray) (most:Int):Int × Bool:=if parseOk s=true∧valB s≤most then (valB s,true) else (0,false)
theorem take_next {s:ByteArray} {i:Nat} {b:UInt8} (hg:s.data.toList[i]?=some b):s.data.toList.take (i+1)=s.data.toList.take i++[b]:=by
 rw[List.take_add_one,hg]
 rfl
theorem all_not {s:ByteArray} {i:Nat} {b:UInt8} (hg:s.data.toList[i]?=some b) (hb:digL b=false):s.data.toList.all digL=false:=by
 rw[List.all_eq_false]
 exact⟨b,List.mem_of_getElem? hg,by simp[hb]⟩
theorem step_val {s:ByteArray} {i:Nat} {b:UInt8} (hg:s.data.toList[i]?=some b) (hb:digL b=true) (hd:∀ c∈s.data.toList.take i,digL c=true) (hi:i<8) (hlt:i<s.size) :
  wrap64 (wrap64 ((valL (s.data.toList.take i):Int)*10)+(((b.toNat:Int)-48) % 256))=(valL (s.data.toList.take (i+1)):Int)∧∀ c∈s.data.toList.take (i+1),digL c=true:=by
 have hb':=(digL_iff b).1 hb
 have hl:(s.data.toList.take i).length=i:=by rw[List.length_take];simp;omega
 have hv:=valL_lt i _ hl hd
 have hp:10 ^ i≤10 ^ 7:=Nat.pow_le_pow_right (by omega) (by omega)
 have hp7:10 ^ 7=10000000:=by decide
 rw[take_next hg,valL_snoc]
 refine⟨?_,fun c hc=>?_⟩
 ·rw[wrap64_id (i:=(valL (s.data.toList.take i):Int)*10) (by omega) (by omega),wrap64_id (by omega) (by omega)]
  omega
 ·rcases List.mem_append.1 hc with h|h
  ·exact hd c h
  ·rw[List.mem_singleton.1 h];exact hb
theorem noLead_bytes {s:ByteArray} (h1:1≤s.size):noLead s.data.toList=(decide (¬(s.size:Int)>1) || decide (¬bt s 0=48)):=by
 obtain⟨b,hb,hbt,_⟩:=data_drop (s:=s) (i:=0) (by omega)
 rw[List.drop_zero] at hb
 have hl:s.data.toList.length=s.size:=by simp
 rw[show ((0:Nat):Int)=0 from rfl] at hbt
 rw[hbt]
 cases hr:s.data.toList.drop 1 with
 | nil=>
  rw[hb,hr] at hl ⊢
  simp only[List.length_cons,List.length_nil] at hl
  simp[noLead,show ¬(s.size:Int)>1 by omega]
 | cons c r=>
  rw[hb,hr] at hl ⊢
  simp only[List.length_cons] at hl
  simp only[noLead,show (s.size:Int)>1 by omega,not_true,decide_false,Bool.false_or]
  rw[Bool.eq_iff_iff]
  simp only[bne_iff_ne,ne_eq,decide_eq_true_eq]
  refine⟨fun h e=>h (UInt8.toNat_inj.1 (by simp;omega)),fun h e=>h (by rw[e];rfl)⟩
theorem spec_parse_big (s:ByteArray) (most:Int) (hs:7<s.size) (hs2:s.size≤9223372036854775807) (d:Nat):∀ (i:Nat) (n:Int),i+d=8→Ev (fun k=>spec_ParseNum.l0 k s most n (i:Int)) (0,false):=by
 have hin:inB (s.size:Int) 1 7=false:=by unfold inB;simp;omega
 induction d with
 | zero=>
  intro i n hi
  obtain rfl:i=8:=by omega
  refine Ev.succ ?_
  by_cases h:((8:Nat):Int)<(s.size:Int)
  ·simp only[spec_ParseNum.l0,h,if_true,show decide (((8:Nat):Int)<8)=false from rfl]
   refine Ev.succ ?_
   simp only[spec_ParseNum.j1,Bool.false_eq_true,if_false,in_f,hin,Option.bind_some]
   first|(refine Ev.succ (g:=fun k=>spec_ParseNum.j1 k _ _ _ _ _) ?_;simp only[spec_ParseNum.j1])|skip
   try simp only[if_true]
   exact Ev.some
  ·simp only[spec_ParseNum.l0,h,if_false]
   refine Ev.succ ?_
   simp only[spec_ParseNum.j1,Bool.false_eq_true,if_false,in_f,hin,Option.bind_some]
   first|(refine Ev.succ (g:=fun k=>spec_ParseNum.j1 k _ _ _ _ _) ?_;simp only[spec_ParseNum.j1])|skip
   try simp only[if_true]
   exact Ev.some
 | succ d ih=>
  intro i n hi
  have h1:(i:Int)<(s.size:Int):=by omega
  have h2:(0:Int)≤(i:Int):=by omega
  have h3:=next_i (show i<s.size by omega) hs2
  refine Ev.succ ?_
  simp only[spec_ParseNum.l0,h1,if_true,show decide ((i:Int)<8)=true by simp;omega]
  refine Ev.succ ?_
  simp only[spec_ParseNum.j1,if_true,h1,h2,h3,digit_spec (bt_range s i),Option.bind_some]
  cases hp:digitB (bt s (i:Int)) with
  | true=>simpa using ih (i+1) _ (by omega)
  | false=>simpa using Ev.some
theorem spec_parse_l (s:ByteArray) (most:Int) (hs:s.size≤7) (d:Nat):∀ (i:Nat),i+d=s.size→(∀ c∈s.data.toList.take i,digL c=true)→Ev (fun k=>spec_ParseNum.l0 k s most (valL (s.data.toList.take i):Int) (i:Int)) (parseM s most):=by
 induction d with
 | zero=>
  intro i hi hd
  obtain rfl:i=s.size:=by omega
  have ht:s.data.toList.take s.size=s.data.toList:=List.take_of_length_le (by simp)
  rw[ht] at hd ⊢
  have hall:s.data.toList.all digL=true:=List.all_eq_true.2 hd
  refine Ev.succ ?_
  simp only[spec_ParseNum.l0,show ¬(s.size:Int)<(s.size:Int) by omega,if_false]
  refine Ev.succ ?_
  simp only[spec_ParseNum.j1,Bool.false_eq_true,if_false,in_f,Option.bind_some]
  unfold parseM parseOk
  rw[hall,Bool.true_and]
  cases hb:inB (s.size:Int) 1 7 with
  | false=>
   simp only[Bool.false_eq_true,if_false,Bool.false_and,Bool.and_false]
   first|(refine Ev.succ (g:=fun k=>spec_ParseNum.j1 k _ _ _ _ _) ?_;simp only[spec_ParseNum.j1])|skip
   simpa using Ev.some
  | true=>
   have h1:1≤s.size:=by unfold inB at hb;simp at hb;omega
   rw[noLead_bytes h1]
   simp only[if_true,Bool.true_and]
   by_cases hg:(s.size:Int)>1
   ·simp only[hg,if_true,show (0:Int)<(s.size:Int) by omega,not_true,decide_false,Bool.false_or]
    by_cases hz:bt s 0=48
    ·simp only[hz,if_true,not_true,decide_false]
     first|(refine Ev.succ (g:=fun k=>spec_ParseNum.j1 k _ _ _ _ _) ?_;simp only[spec_ParseNum.j1])|skip
     simpa using Ev.some
    ·simp only[hz,if_false,not_false_eq_true,decide_true,true_and]
     by_cases hm:(valL s.data.toList:Int)>most
     ·simp only[hm,if_true]
      rw[if_neg (by unfold valB;omega)]
      first|(refine Ev.succ (g:=fun k=>spec_ParseNum.j1 k _ _ _ _ _) ?_;simp only[spec_ParseNum.j1])|skip
      try simp only[hm,if_true,if_false,decide_true,decide_false,Bool.false_eq_true]
      exact Ev.some
     ·simp only[hm,if_false]
      rw[if_pos (by unfold valB;omega)]
      first|(refine Ev.succ (g:=fun k=>spec_ParseNum.j1 k _ _ _ _ _) ?_;simp only[spec_ParseNum.j1])|skip
      try simp only[hm,if_true,if_false,decide_true,decide_false,Bool.false_eq_true]
      exact Ev.some
   ·simp only[hg,if_false,not_false_eq_true,decide_true,Bool.true_or,true_and]
    by_cases hm:(valL s.data.toList:Int)>most
    ·simp only[hm,if_true]
     rw[if_neg (by unfold valB;omega)]
     first|(refine Ev.succ (g:=fun k=>spec_ParseNum.j1 k _ _ _ _ _) ?_;simp only[spec_ParseNum.j1])|skip
     try simp only[hm,if_true,if_false,decide_true,decide_false,Bool.false_eq_true]
     exact Ev.some
    ·simp only[hm,if_false]
     rw[if_pos (by unfold valB;omega)]
     first|(refine Ev.succ (g:=fun k=>spec_ParseNum.j1 k _ _ _ _ _) ?_;simp only[spec_ParseNum.j1])|skip
     try simp only[hm,if_true,if_false,decide_true,decide_false,Bool.false_eq_true]
     exact Ev.some
 | succ d ih=>
  intro i hi hd
  have hlt:i<s.size:=by omega
  have h1:(i:Int)<(s.size:Int):=by omega
  have h2:(0:Int)≤(i:Int):=by omega
  have h3:=next_i hlt (by omega)
  obtain⟨b,_,hbt,hg⟩:=data_drop hlt
  refine Ev.succ ?_
  simp only[spec_ParseNum.l0,h1,if_true,show decide ((i:Int)<8)=true by simp;omega]
  refine Ev.succ ?_
  simp only[spec_ParseNum.j1,if_true,h1,h2,h3,digit_spec (bt_range s i),Option.bind_some]
  rw[hbt]
  show Ev (fun k=>if digL b=true then _ else _) _
  cases hp:digL b with
  | true=>
   have hst:=step_val hg hp hd (by omega) hlt
   simp only[if_true,hst.1]
   exact ih (i+1) (by omega) hst.2
  | false=>
   simp only[Bool.false_eq_true,if_false]
   unfold parseM parseOk
   rw[all_not hg hp]
   simpa using Ev.some
theorem spec_parse (s:ByteArray) (most:Int) (hs:s.size≤9223372036854775807):Ev (fun k=>spec_ParseNum.f k s most) (parseM s most):=by
 unfold spec_ParseNum.f
 by_cases h7:s.size≤7
 ·exact spec_parse_l s most h7 s.size 0 (by omega) (by simp)
 ·have:=spec_parse_big s most (by omega) hs 8 0 0 (by omega)
  have hin:inB (s.size:Int) 1 7=false:=by unfold inB;simp;omega
  unfold parseM parseOk
  rw[hin]
  simpa using this
theorem impl_parse_l (s:ByteArray) (most:Int) (hs1:1≤s.size) (hs:s.size≤7) (d:Nat):∀ (i:Nat),i+d=s.size→(∀ c∈s.data.toList.take i,digL c=true)→Ev (fun k=>impl_ParseNum.l0 k s most (valL (s.data.toList.take i):Int) (i:Int)) (parseM s most):=by
 have hin:inB (s.size:Int) 1 7=true:=by unfold inB;simp;omega
 induction d with
 | zero=>
  intro i hi hd
  obtain rfl:i=s.size:=by omega
  have ht:s.data.toList.take s.size=s.data.toList:=List.take_of_length_le (by simp)
  rw[ht] at hd ⊢
  have hall:s.data.toList.all digL=true:=List.all_eq_true.2 hd
  have hv:=valL_lt s.size s.data.toList (by simp) hd
  have hp:10 ^ s.size≤10 ^ 7:=Nat.pow_le_pow_right (by omega) (by omega)
  have hp7:10 ^ 7=10000000:=by decide
  refine Ev.succ ?_
  simp only[impl_ParseNum.l0,show ¬(s.size:Int)<(s.size:Int) by omega,if_false]
  simp only[impl_num (valL s.data.toList:Int) (by omega),Option.bind_some,toList_data]
  unfold numB parseM parseOk
  rw[data_ofL,Int.toNat_natCast,hall,hin]
  by_cases hn:noLead s.data.toList=true
  ·have he:=decDigits_val _ _ rfl hd hn
   simp only[he,if_true,hn,Bool.true_and,true_and]
   by_cases hm:(valL s.data.toList:Int)>most
   ·simp only[hm,if_true]
    rw[if_neg (by unfold valB;omega)]
    exact Ev.some
   ·simp only[hm,if_false]
    rw[if_pos (by unfold valB;omega)]
    exact Ev.some
  ·have he:¬Lib.decDigits (valL s.data.toList)=s.data.toList:=fun e=>hn (noLead_of_dec e)
   simp only[he,if_false,hn,Bool.true_and,false_and]
   exact Ev.some
 | succ d ih=>
  intro i hi hd
  have hlt:i<s.size:=by omega
  have h1:(i:Int)<(s.size:Int):=by omega
  have h2:(0:Int)≤(i:Int):=by omega
  have h3:=next_i hlt (by omega)
  obtain⟨b,_,hbt,hg⟩:=data_drop hlt
  refine Ev.succ ?_
  simp only[impl_ParseNum.l0,if_true,h1,h2,h3,digit_impl,Option.bind_some]
  rw[hbt]
  show Ev (fun k=>if digL b=true then _ else _) _
  cases hp:digL b with
  | true=>
   have hst:=step_val hg hp hd (by omega) hlt
   simp only[if_true,hst.1]
   exact ih (i+1) (by omega) hst.2
  | false=>
   simp only[Bool.false_eq_true,if_false]
   unfold parseM parseOk
   rw[all_not hg hp]
   simpa using Ev.some
theorem impl_parse (s:ByteArray) (most:Int):Ev (fun k=>impl_ParseNum.f k s most) (parseM s most):=by
 unfold impl_ParseNum.f
 simp only[inRange_f,Option.bind_some]
 cases hb:inB (s.size:Int) 1 7 with
 | false=>
  unfold parseM parseOk
  rw[hb]
  simpa using Ev.some
 | true=>
  have hb':=hb
  unfold inB at hb'
  simp at hb'
  simp only[if_true]
  refine Ev.succ ?_
  simp only[impl_ParseNum.j0]
  exact impl_parse_l s most (by omega) (by omega) s.size 0 (by omega) (by simp)
def digitsB (s:ByteArray):Bool:=(bs s).all digitB
theorem spec_digits_l (s:ByteArray) (hs:s.size≤9223372036854775807) (d:Nat):∀ i:Nat,i+d=s.size→Ev (fun k=>spec_l3Digits.l0 k s (i:Int)) (((bs s).drop i).all digitB):=by
 induction d with
 | zero=>
  intro i hi
  have h1:¬(i:Int)<(s.size:Int):=by omega
  refine Ev.succ ?_
  simp only[spec_l3Digits.l0,h1,if_false,bs_end (show s.size≤i by omega),List.all_nil]
  exact Ev.some
 | succ d ih=>
  intro i hi
  have h1:(i:Int)<(s.size:Int):=by omega
  have h2:(0:Int)≤(i:Int):=by omega
  have h3:=next_i (show i<s.size by omega) hs
  have ih':=ih (i+1) (by omega)
  refine Ev.succ ?_
  rw[bs_drop (by omega),List.all_cons]
  simp only[spec_l3Digits.l0,h1,h2,h3,if_true,digit_spec (bt_range s i),Option.bind_some]
  cases hp:digitB (bt s (i:Int)) with
  | true=>simpa using ih'
  | false=>simpa using Ev.some
theorem spec_digits (s:ByteArray) (hs:s.size≤9223372036854775807):Ev (fun k=>spec_l3Digits.f k s) (digitsB s):=spec_digits_l s hs s.size 0 (by omega)
theorem impl_figures_l (s:ByteArray) (hs:s.size≤9223372036854775807) (d:Nat):∀ i:Nat,i+d=s.size→Ev (fun k=>impl_isFigures.l0 k s (i:Int)) (((bs s).drop i).all digitB && decide (s.size≠0)):=by
 induction d with
 | zero=>
  intro i hi
  have h1:¬(i:Int)<(s.size:Int):=by omega
  refine Ev.succ ?_
  simp only[impl_isFigures.l0,h1,if_false,bs_end (show s.size≤i by omega),List.all_nil,Bool.true_and]
  refine Ev.cast Ev.some ?_
  rw[toList_data]
  by_cases h:s.size=0
  ·have:s.data.toList=[]:=by
    apply List.eq_nil_of_length_eq_zero
    simpa using h
   rw[this,h]
   rfl
  ·have:s.data.toList≠[]:=by
    intro e
    apply h
    have:=congrArg List.length e
    simpa using this
   simp[h,this]
 | succ d ih=>
  intro i hi
  have h1:(i:Int)<(s.size:Int):=by omega
  have h2:(0:Int)≤(i:Int):=by omega
  have h3:=next_i (show i<s.size by omega) hs
  have ih':=ih (i+1) (by omega)
  refine Ev.succ ?_
  rw[bs_drop (by omega),List.all_cons]
  simp only[impl_isFigures.l0,h1,h2,h3,if_true,digit_impl,Option.bind_some]
  cases hp:digitB (bt s (i:Int)) with
  | true=>simpa using ih'
  | false=>simpa using Ev.some
theorem impl_figures (s:ByteArray) (hs:s.size≤9223372036854775807):Ev (fun k=>impl_isFigures.f k s) (digitsB s && decide (s.size≠0)):=impl_figures_l s hs s.size 0 (by omega)
def preC (x:Int):Bool:=smallB x || upperB x || digitB x || decide (x=45)
def preEnd (s:ByteArray):Bool:=inB s.size 1 8 && (!digitsB s || decide (s.size=1) || decide (bt s 0≠48))
def preB (s:ByteArray):Bool:=(bs s).all preC && preEnd s
theorem spec_part_l (s:ByteArray) (hs:s.size≤9223372036854775807) (d:Nat):∀ i:Nat,i+d=s.size→Ev (fun k=>spec_l3Part.l0 k s (i:Int)) (((bs s).drop i).all preC && preEnd s):=by
 induction d with
 | zero=>
  intro i hi
  have h1:¬(i:Int)<(s.size:Int):=by omega
  refine Ev.succ ?_
  simp only[spec_l3Part.l0,h1,if_false,bs_end (show s.size≤i by omega),List.all_nil,Bool.true_and,in_f,Option.bind_some,preEnd]
  cases hb:inB (s.size:Int) 1 8 with
  | false=>simpa using Ev.some
  | true=>
   simp only[if_true,Bool.true_and]
   refine Ev.bind (spec_digits s hs) ?_
   cases hd:digitsB s with
   | false=>simpa using Ev.some
   | true=>
    have hpos:(0:Int)<(s.size:Int):=by simp[inB] at hb;omega
    simp only[if_true,hpos,Bool.not_true,Bool.false_or]
    by_cases he:(s.size:Int)=1
    ·simp only[he,if_true]
     refine Ev.cast Ev.some ?_
     simp[show s.size=1 by omega]
    ·simp only[he,if_false]
     refine Ev.cast Ev.some ?_
     simp only[show ¬s.size=1 by omega,decide_false,Bool.false_or]
     by_cases h0:bt s 0=48 <;> simp[h0]
 | succ d ih=>
  intro i hi
  have h1:(i:Int)<(s.size:Int):=by omega
  have h2:(0:Int)≤(i:Int):=by omega
  have h3:=next_i (show i<s.size by omega) hs
  have ih':=ih (i+1) (by omega)
  have hr:=bt_range s i
  refine Ev.succ ?_
  rw[bs_drop (by omega),List.all_cons]
  simp only[spec_l3Part.l0,h1,if_true]
  refine Ev.succ ?_
  simp only[spec_l3Part.j1,h1,h2,h3,if_true,digit_spec hr,small_spec hr,wrap64_id (show -9223372036854775808≤bt s (i:Int) by omega) (show bt s (i:Int)≤9223372036854775807 by omega),in_f,Option.bind_some,preC]
  cases hp:digitB (bt s (i:Int)) with
  | true=>
   simp only[if_true]
   first|(refine Ev.succ (g:=fun k=>spec_l3Part.j1 k _ _) ?_;simp only[spec_l3Part.j1])|skip
   simpa [h3] using ih'
  | false=>
   cases hq:smallB (bt s (i:Int)) with
   | true=>
    simp only[Bool.false_eq_true,if_true,if_false]
    first|(refine Ev.succ (g:=fun k=>spec_l3Part.j1 k _ _) ?_;simp only[spec_l3Part.j1])|skip
    simpa [h3] using ih'
   | false=>
    cases hu:inB (bt s (i:Int)) 65 90 with
    | true=>
     simp only[Bool.false_eq_true,if_true,if_false,hu]
     first|(refine Ev.succ (g:=fun k=>spec_l3Part.j1 k _ _) ?_;simp only[spec_l3Part.j1])|skip
     simpa [upperB,hu,h3] using ih'
    | false=>
     simp only[Bool.false_eq_true,if_false]
     first|(refine Ev.succ (g:=fun k=>spec_l3Part.j1 k _ _) ?_;simp only[spec_l3Part.j1])|skip
     by_cases he:bt s (i:Int)=45
     ·simpa [he,h3] using ih'
     ·simpa [upperB,hu,he] using Ev.some
theorem spec_part (s:ByteArray) (hs:s.size≤9223372036854775807):Ev (fun k=>spec_l3Part.f k s) (preB s):=spec_part_l s hs s.size 0 (by omega)
theorem one_zero (s:ByteArray):s.toList=([48]:List UInt8)↔(s.size=1∧bt s 0=48):=by
 rw[toList_data]
 constructor
 ·intro h
  have hl:s.size=1:=by
   have:=congrArg List.length h
   simpa using this
  refine⟨hl,?_⟩
  rw[bt_bs]
  unfold bs
  rw[h]
  rfl
 ·rintro⟨h1,h2⟩
  rw[bt_bs] at h2
  have hb:bs s=[48]:=by
   have hl:=bs_length s
   rw[h1] at hl
   match hq:bs s,hl with
   | [x],_=>
    rw[hq] at h2
    simp at h2
    rw[h2]
  unfold bs at hb
  match hq:s.data.toList with
  | []=>rw[hq] at hb;cases hb
  | [x]=>
   rw[hq] at hb
   simp at hb
   have:x=48:=by
    apply UInt8.toNat_inj.1
    simp
    omega
   rw[this]
  | x :: y :: r=>rw[hq] at hb;simp at hb
theorem impl_pre_l (s:ByteArray) (hs:s.size≤9223372036854775807) (d:Nat):∀ i:Nat,i+d=s.size→Ev (fun k=>impl_preOk.l0 k s (i:Int)) (((bs s).drop i).all preC && preEnd s):=by
 induction d with
 | zero=>
  intro i hi
  have h1:¬(i:Int)<(s.size:Int):=by omega
  refine Ev.succ ?_
  simp only[impl_preOk.l0,h1,if_false,bs_end (show s.size≤i by omega),List.all_nil,Bool.true_and,inRange_f,Option.bind_some,preEnd]
  cases hb:inB (s.size:Int) 1 8 with
  | false=>simpa using Ev.some
  | true=>
   simp only[if_true,Bool.true_and]
   have hpos:(0:Int)<(s.size:Int):=by simp[inB] at hb;omega
   refine Ev.bind (impl_figures s hs) ?_
   simp only[show s.size≠0 by omega,ne_eq,not_false_eq_true,decide_true,Bool.and_true]
   cases hd:digitsB s with
   | false=>simpa using Ev.some
   | true=>
    simp only[if_true,hpos,Bool.not_true,Bool.false_or,one_zero]
    by_cases he:s.size=1
    ·by_cases h0:bt s 0=48
     ·simp only[he,h0,and_self,if_true]
      exact Ev.some
     ·simp only[he,h0,and_false,if_false]
      refine Ev.cast Ev.some ?_
      simp[h0]
    ·simp only[he,false_and,if_false]
     refine Ev.cast Ev.some ?_
     simp only[decide_false,Bool.false_or]
     by_cases h0:bt s 0=48 <;> simp[h0]
 | succ d ih=>
  intro i hi
  have h1:(i:Int)<(s.size:Int):=by omega
  have h2:(0:Int)≤(i:Int):=by omega
  have h3:=next_i (show i<s.size by omega) hs
  have ih':=ih (i+1) (by omega)
  have hr:=bt_range s i
  refine Ev.succ ?_
  rw[bs_drop (by omega),List.all_cons]
  simp only[impl_preOk.l0,h1,if_true]
  refine Ev.succ ?_
  simp only[impl_preOk.j1,h1,h2,h3,if_true,digit_impl,small_impl,Option.bind_some,preC,upperB,inB,ge_iff_le]
  cases hq:smallB (bt s (i:Int)) with
  | true=>
   try simp only[Bool.false_eq_true,if_true,if_false]
   first|(refine Ev.succ (g:=fun k=>impl_preOk.j1 k _ _) ?_;simp only[impl_preOk.j1])|skip
   simpa [h3] using ih'
  | false=>
   by_cases ha:65≤bt s (i:Int)
   ·by_cases hb:bt s (i:Int)≤90
    ·try simp only[Bool.false_eq_true,if_true,if_false,ha,hb]
     first|(refine Ev.succ (g:=fun k=>impl_preOk.j1 k _ _) ?_;simp only[impl_preOk.j1])|skip
     simpa [h3,ha,hb] using ih'
    ·cases hp:digitB (bt s (i:Int)) with
     | true=>
      try simp only[Bool.false_eq_true,if_true,if_false,ha,hb]
      first|(refine Ev.succ (g:=fun k=>impl_preOk.j1 k _ _) ?_;simp only[impl_preOk.j1])|skip
      simpa [h3,ha,hb] using ih'
     | false=>
      by_cases he:bt s (i:Int)=45
      ·simp[he] at ha
      ·try simp only[Bool.false_eq_true,if_true,if_false,ha,hb,he]
       first|(refine Ev.succ (g:=fun k=>impl_preOk.j1 k _ _) ?_;simp only[impl_preOk.j1])|skip
       simpa [h3,ha,hb,he] using Ev.some
   ·cases hp:digitB (bt s (i:Int)) with
    | true=>
     try simp only[Bool.false_eq_true,if_true,if_false,ha]
     first|(refine Ev.succ (g:=fun k=>impl_preOk.j1 k _ _) ?_;simp only[impl_preOk.j1])|skip
     simpa [h3,ha] using ih'
    | false=>
     by_cases he:bt s (i:Int)=45
     ·try simp only[Bool.false_eq_true,if_true,if_false,he]
      first|(refine Ev.succ (g:=fun k=>impl_preOk.j1 k _ _) ?_;simp only[impl_preOk.j1])|skip
      simpa [h3,he] using ih'
     ·try simp only[Bool.false_eq_true,if_true,if_false,ha,he]
      first|(refine Ev.succ (g:=fun k=>impl_preOk.j1 k _ _) ?_;simp only[impl_preOk.j1])|skip
      simpa [h3,ha,he] using Ev.some
theorem impl_pre (s:ByteArray) (hs:s.size≤9223372036854775807):Ev (fun k=>impl_preOk.f k s) (preB s):=impl_pre_l s hs s.size 0 (by omega)
def verEnd (a b c:Int) (l:List ByteArray):Bool:=inB a 0 9999 && (inB b 0 9999 && (inB c 0 9999 && decide ((l.length:Int)≤3)))
def verB (a b c:Int) (l:List ByteArray):Bool:=l.all preB && verEnd a b c l
theorem spec_ver_l (a b c:Int) (l:List ByteArray) (hl:l.length≤9223372036854775807) (hs:∀ x∈l,x.size≤9223372036854775807) (d:Nat):∀ i:Nat,i+d=l.length→Ev (fun k=>spec_VerOk.l0 k (i:Int) a b c l) ((l.drop i).all preB && verEnd a b c l):=by
 induction d with
 | zero=>
  intro i hi
  have h1:¬(i:Int)<(l.length:Int):=by omega
  refine Ev.succ ?_
  rw[List.drop_eq_nil_of_le (by omega)]
  simp only[spec_VerOk.l0,h1,if_false,List.all_nil,Bool.true_and,in_f,Option.bind_some,verEnd]
  cases inB a 0 9999 <;> cases inB b 0 9999 <;> cases inB c 0 9999 <;> simpa using Ev.some
 | succ d ih=>
  intro i hi
  have hlt:i<l.length:=by omega
  have h1:(i:Int)<(l.length:Int):=by omega
  have h2:(0:Int)≤(i:Int):=by omega
  have h3:=next_i hlt hl
  have ih':=ih (i+1) (by omega)
  refine Ev.succ ?_
  rw[drop_get hlt,List.all_cons]
  simp only[spec_VerOk.l0,h1,h2,h3,if_true,rdOf_cast _ hlt]
  refine Ev.bind (spec_part l[i] (hs _ (List.getElem_mem hlt))) ?_
  cases hp:preB l[i] with
  | true=>simpa using ih'
  | false=>simpa using Ev.some
theorem spec_ver (a b c:Int) (l:List ByteArray) (hl:l.length≤9223372036854775807) (hs:∀ x∈l,x.size≤9223372036854775807):Ev (fun k=>spec_VerOk.f k a b c l) (verB a b c l):=spec_ver_l a b c l hl hs l.length 0 (by omega)
theorem impl_ver_l (a b c:Int) (l:List ByteArray) (hl:l.length≤9223372036854775807) (hs:∀ x∈l,x.size≤9223372036854775807) (d:Nat):∀ i:Nat,i+d=l.length→Ev (fun k=>impl_VerOk.l0 k l (l.length:Int) (i:Int) a b c l) ((l.drop i).all preB && verEnd a b c l):=by
 induction d with
 | zero=>
  intro i hi
  have h1:¬(i:Int)<(l.length:Int):=by omega
  refine Ev.succ ?_
  rw[List.drop_eq_nil_of_le (by omega)]
  simp only[impl_VerOk.l0,h1,if_false,List.all_nil,Bool.true_and,inRange_f,Option.bind_some,verEnd]
  cases inB a 0 9999 <;> cases inB b 0 9999 <;> cases inB c 0 9999 <;> simpa using Ev.some
 | succ d ih=>
  intro i hi
  have hlt:i<l.length:=by omega
  have h1:(i:Int)<(l.length:Int):=by omega
  have h2:(0:Int)≤(i:Int):=by omega
  have h3:=next_i hlt hl
  have ih':=ih (i+1) (by omega)
  refine Ev.succ ?_
  rw[drop_get hlt,List.all_cons]
  simp only[impl_VerOk.l0,h1,h2,h3,if_true,rdOf_cast _ hlt]
  refine Ev.bind (impl_pre l[i] (hs _ (List.getElem_mem hlt))) ?_
  cases hp:preB l[i] with
  | true=>simpa using ih'
  | false=>simpa using Ev.some
theorem impl_ver (a b c:Int) (l:List ByteArray) (hl:l.length≤9223372036854775807) (hs:∀ x∈l,x.size≤9223372036854775807):Ev (fun k=>impl_VerOk.f k a b c l) (verB a b c l):=impl_ver_l a b c l hl hs l.length 0 (by omega)
theorem decDigits_length:∀ (m u:Nat),u<10 ^ (m+1)→(Lib.decDigits u).length≤m+1
 | 0,u,h=>by
  rw[Lib.decDigits,dif_pos (by simpa using h)]
  simp
 | m+1,u,h=>by
  by_cases h9:u<10
  ·rw[Lib.decDigits,dif_pos h9]
   simp
  ·have:=decDigits_length m (u / 10) (by rw[Nat.pow_succ] at h;omega)
   rw[Lib.decDigits,dif_neg h9,List.length_append]
   simp only[List.length_cons,List.length_nil]
   omega
theorem numB_size {x:Int} (h:x≤9223372036854775807):(numB x).size≤19:=by
 unfold numB
 rw[ofL_size]
 exact decDigits_length 18 _ (by omega)
def dot:ByteArray:=⟨#[46]⟩
def dash:ByteArray:=⟨#[45]⟩
theorem dot_size:(⟨#[46]⟩:ByteArray).size=1:=rfl
theorem dash_size:(⟨#[45]⟩:ByteArray).size=1:=rfl
def verCore (a b c:Int):ByteArray:=numB a++dot++numB b++dot++numB c
def verT (a b c:Int) (l:List ByteArray):ByteArray:=if verB a b c l=true then (if (l.length:Int)>0 then verCore a b c++(dash++joinB l dot) else verCore a b c) else ⟨#[]⟩
theorem ver_parts {a b c:Int} {l:List ByteArray} (h:verB a b c l=true):0≤a∧a≤9999∧0≤b∧b≤9999∧0≤c∧c≤9999∧l.length≤3:=by
 unfold verB verEnd inB at h
 simp at h
 omega
theorem impl_vertext (a b c:Int) (l:List ByteArray) (hl:l.length≤9223372036854775807) (hs:∀ x∈l,x.size≤9223372036854775807) (hN:joinN l dot≤2199023255552):Ev (fun k=>impl_VerText.f k a b c l) (verT a b c l):=by
 unfold impl_VerText.f verT
 refine Ev.bind (impl_ver a b c l hl hs) ?_
 cases hv:verB a b c l with
 | false=>simpa using Ev.some
 | true=>
  obtain⟨a0,a1,b0,b1,c0,c1,l3⟩:=ver_parts hv
  have na:=numB_size (x:=a) (by omega)
  have nb:=numB_size (x:=b) (by omega)
  have nc:=numB_size (x:=c) (by omega)
  have hj:=joinB_size l dot
  simp only[if_true]
  refine Ev.succ ?_
  simp only[impl_VerText.j0,impl_num a (show a≤9223372036854775807 by omega),impl_num b (show b≤9223372036854775807 by omega),impl_num c (show c≤9223372036854775807 by omega),Option.bind_some]
  refine Ev.yes (by omega) ?_
  refine Ev.yes (by simp only[ByteArray.size_append,dot_size];omega) ?_
  refine Ev.yes (by simp only[ByteArray.size_append,dot_size];omega) ?_
  refine Ev.yes (by simp only[ByteArray.size_append,dot_size];omega) ?_
  by_cases hp:(l.length:Int)>0
  ·have hsj:strings_Join.f l (⟨#[46]⟩:ByteArray)=some (joinB l dot):=strings_join l dot (by omega) (by omega)
   simp only[hp,if_true,hsj,Option.bind_some]
   refine Ev.yes (by omega) ?_
   refine Ev.yes (by simp only[ByteArray.size_append,dot_size,dash_size];omega) ?_
   exact Ev.some
  ·simp only[hp,if_false]
   exact Ev.some
abbrev VerR:=Int × Int × Int × List ByteArray × Bool
def noVer:VerR:=(0,0,0,[],false)
def readV (p0 p1 p2:ByteArray) (q:List ByteArray):VerR:=
 if (parseM p0 9999).2=true∧(parseM p1 9999).2=true∧(parseM p2 9999).2=true∧verB (parseM p0 9999).1 (parseM p1 9999).1 (parseM p2 9999).1 q=true
 then ((parseM p0 9999).1,(parseM p1 9999).1,(parseM p2 9999).1,q,true) else noVer
def preQ (s:ByteArray):List ByteArray:=if hasB 45 s=true then piecesB (tailB 45 s) dot else []
def numQ (s:ByteArray):List ByteArray:=piecesB (headB 45 s) dot
def parseV (s:ByteArray):VerR:=if (numQ s).length=3 then readV (rdOf ByteArray.empty (numQ s) 0) (rdOf ByteArray.empty (numQ s) 1) (rdOf ByteArray.empty (numQ s) 2) (preQ s) else noVer
theorem preQ_length (s:ByteArray):(preQ s).length≤s.size+1:=by
 unfold preQ
 split
 ·have h1:=pieces_length (s:=tailB 45 s) (sep:=dot) (by decide)
  have h2:=tailB_size 45 s
  omega
 ·simp
theorem preQ_mem (s:ByteArray):∀ x∈preQ s,x.size≤s.size:=by
 unfold preQ
 split
 ·intro x hx
  have h1:=pieces_mem (s:=tailB 45 s) (sep:=dot) (by simp[dot]) x hx
  have h2:=tailB_size 45 s
  omega
 ·intro x hx
  cases hx
theorem numQ_mem (s:ByteArray):∀ x∈numQ s,x.size≤s.size:=by
 intro x hx
 have h1:=pieces_mem (s:=headB 45 s) (sep:=dot) (by simp[dot]) x hx
 have h2:=headB_size 45 s
 omega
theorem rd_mem {l:List ByteArray} {i:Nat} (h:i<l.length):rdOf ByteArray.empty l (i:Int)∈l:=by
 rw[rdOf_cast _ h]
 exact List.getElem_mem h
theorem spec_pv_nums (k0:Nat) (p0 p1 p2:ByteArray) (q:List ByteArray) (h0:p0.size≤16777216) (h1:p1.size≤16777216) (h2:p2.size≤16777216) (hq:q.length≤16777217) (hqs:∀ x∈q,x.size≤16777216) (a b c:Int) :
  Ev (fun k=>spec_ParseVer.j3 k [p0,p1,p2] a b c q) (readV p0 p1 p2 q):=by
 refine Ev.succ ?_
 simp only[spec_ParseVer.j3,List.length_cons,List.length_nil,show (0:Int)<((0+1+1+1:Nat):Int) by omega,show (1:Int)<((0+1+1+1:Nat):Int) by omega,show (2:Int)<((0+1+1+1:Nat):Int) by omega,if_true,
  show rdOf ByteArray.empty [p0,p1,p2] 0=p0 from rfl,show rdOf ByteArray.empty [p0,p1,p2] 1=p1 from rfl,show rdOf ByteArray.empty [p0,p1,p2] 2=p2 from rfl]
 refine Ev.bind (spec_parse p0 9999 (by omega)) (Ev.bind (spec_parse p1 9999 (by omega)) (Ev.bind (spec_parse p2 9999 (by omega)) ?_))
 unfold readV
 by_cases e0:(parseM p0 9999).2=true
 ·by_cases e1:(parseM p1 9999).2=true
  ·by_cases e2:(parseM p2 9999).2=true
   ·simp only[e0,e1,e2,if_true,true_and]
    refine Ev.bind (spec_ver _ _ _ q (by omega) (fun x hx=>by have:=hqs x hx;omega)) ?_
    cases hv:verB (parseM p0 9999).1 (parseM p1 9999).1 (parseM p2 9999).1 q with
    | true=>
     simp only[if_true]
     first|(refine Ev.succ (g:=fun k=>spec_ParseVer.j1 k _ _ _ _ _) ?_;simp only[spec_ParseVer.j1])|(refine Ev.succ (g:=fun k=>spec_ParseVer.j2 k _ _ _ _ _ _) ?_;simp only[spec_ParseVer.j2])|(refine Ev.succ (g:=fun k=>spec_ParseVer.j3 k _ _ _ _ _) ?_;simp only[spec_ParseVer.j3])|skip
     try simp only[Bool.not_true,Bool.not_false,if_true,if_false,Bool.false_eq_true]
     exact Ev.some
    | false=>
     simp only[Bool.false_eq_true,if_false]
     first|(refine Ev.succ (g:=fun k=>spec_ParseVer.j1 k _ _ _ _ _) ?_;simp only[spec_ParseVer.j1])|(refine Ev.succ (g:=fun k=>spec_ParseVer.j2 k _ _ _ _ _ _) ?_;simp only[spec_ParseVer.j2])|(refine Ev.succ (g:=fun k=>spec_ParseVer.j3 k _ _ _ _ _) ?_;simp only[spec_ParseVer.j3])|skip
     try simp only[Bool.not_true,Bool.not_false,if_true,if_false,Bool.false_eq_true]
     exact Ev.some
   ·simp only[e0,e1,e2,if_true,if_false,true_and,false_and,Bool.false_eq_true]
    first|(refine Ev.succ (g:=fun k=>spec_ParseVer.j1 k _ _ _ _ _) ?_;simp only[spec_ParseVer.j1])|(refine Ev.succ (g:=fun k=>spec_ParseVer.j2 k _ _ _ _ _ _) ?_;simp only[spec_ParseVer.j2])|(refine Ev.succ (g:=fun k=>spec_ParseVer.j3 k _ _ _ _ _) ?_;simp only[spec_ParseVer.j3])|skip
    try simp only[Bool.not_true,Bool.not_false,if_true,if_false,Bool.false_eq_true]
    exact Ev.some
  ·simp only[e0,e1,if_true,if_false,true_and,false_and,Bool.false_eq_true]
   first|(refine Ev.succ (g:=fun k=>spec_ParseVer.j1 k _ _ _ _ _) ?_;simp only[spec_ParseVer.j1])|(refine Ev.succ (g:=fun k=>spec_ParseVer.j2 k _ _ _ _ _ _) ?_;simp only[spec_ParseVer.j2])|(refine Ev.succ (g:=fun k=>spec_ParseVer.j3 k _ _ _ _ _) ?_;simp only[spec_ParseVer.j3])|skip
   try simp only[Bool.not_true,Bool.not_false,if_true,if_false,Bool.false_eq_true]
   exact Ev.some
 ·simp only[e0,if_false,false_and,Bool.false_eq_true]
  first|(refine Ev.succ (g:=fun k=>spec_ParseVer.j1 k _ _ _ _ _) ?_;simp only[spec_ParseVer.j1])|(refine Ev.succ (g:=fun k=>spec_ParseVer.j2 k _ _ _ _ _ _) ?_;simp only[spec_ParseVer.j2])|(refine Ev.succ (g:=fun k=>spec_ParseVer.j3 k _ _ _ _ _) ?_;simp only[spec_ParseVer.j3])|skip
  try simp only[Bool.not_true,Bool.not_false,if_true,if_false,Bool.false_eq_true]
  exact Ev.some
theorem three {l:List ByteArray} (h:l.length=3):l=[rdOf ByteArray.empty l 0,rdOf ByteArray.empty l 1,rdOf ByteArray.empty l 2]:=by
 match l,h with
 | [a,b,c],_=>rfl
theorem spec_pv_j2 (s:ByteArray) (hs:s.size≤16777216) (a b c:Int) (q:List ByteArray) (hq:q=preQ s):Ev (fun k=>spec_ParseVer.j2 k s (at1 45 s.data.toList:Int) a b c q) (parseV s):=by
 have hle:=at1_le 45 s.data.toList
 have hsl:s.data.toList.length=s.size:=by simp
 have hx:s.extract 0 (at1 45 s.data.toList)=headB 45 s:=by rw[extract_ofL,List.drop_zero,Nat.sub_zero];rfl
 have hh:=headB_size 45 s
 refine Ev.succ ?_
 simp only[spec_ParseVer.j2,show (0:Int)≤(at1 45 s.data.toList:Int) by omega,show (at1 45 s.data.toList:Int)≤(s.size:Int) by omega,if_true,Int.toNat_natCast,hx]
 refine Ev.bind (spec_split (headB 45 s) 46 (by omega)) ?_
 show Ev (fun k=>if ((numQ s).length:Int)=3 then _ else _) _
 unfold parseV
 by_cases h3:(numQ s).length=3
 ·refine Ev.yes (by omega) ?_
  rw[if_pos h3,hq]
  have hm:∀ i:Nat,i<3→(rdOf ByteArray.empty (numQ s) (i:Int)).size≤16777216:=fun i hi=>by
   have:=numQ_mem s _ (rd_mem (l:=numQ s) (i:=i) (by omega))
   omega
  have:=spec_pv_nums 0 (rdOf ByteArray.empty (numQ s) 0) (rdOf ByteArray.empty (numQ s) 1) (rdOf ByteArray.empty (numQ s) 2) (preQ s) (hm 0 (by omega)) (hm 1 (by omega)) (hm 2 (by omega))
   (by have:=preQ_length s;omega) (fun x hx=>by have:=preQ_mem s x hx;omega) a b c
  rw[← three h3] at this
  exact this
 ·refine Ev.no (by omega) ?_
  rw[if_neg h3]
  exact Ev.some
theorem spec_pv_j1 (s:ByteArray) (hs:s.size≤16777216) (a b c:Int):Ev (fun k=>spec_ParseVer.j1 k s (at1 45 s.data.toList:Int) a b c) (parseV s):=by
 have hsl:s.data.toList.length=s.size:=by simp
 have ht:=tailB_size 45 s
 refine Ev.succ ?_
 simp only[spec_ParseVer.j1]
 by_cases h:at1 45 s.data.toList<s.data.toList.length
 ·have hx:s.extract (at1 45 s.data.toList+1) s.size=tailB 45 s:=by
   rw[extract_ofL,List.take_of_length_le (by rw[List.length_drop];omega)]
   rfl
  rw[next_i (show at1 45 s.data.toList<s.size by omega) (by omega)]
  refine Ev.yes (by omega) (Ev.yes (by omega) (Ev.yes (by omega) ?_))
  rw[Int.toNat_natCast,hx]
  refine Ev.bind (spec_split (tailB 45 s) 46 (by omega)) ?_
  refine spec_pv_j2 s hs a b c _ ?_
  unfold preQ
  rw[if_pos (by simpa [hasB] using h)]
  rfl
 ·refine Ev.no (by omega) ?_
  refine spec_pv_j2 s hs a b c _ ?_
  unfold preQ
  rw[if_neg (by simpa [hasB] using h)]
theorem spec_pv_l (s:ByteArray) (hs:s.size≤16777216) (a b c:Int) (d:Nat):∀ i:Nat,i+d=s.size→at1 45 s.data.toList=i+at1 45 (s.data.toList.drop i)→Ev (fun k=>spec_ParseVer.l0 k s (i:Int) a b c) (parseV s):=by
 have hj:=spec_pv_j1 s hs a b c
 induction d with
 | zero=>
  intro i hi he
  obtain rfl:i=s.size:=by omega
  have hd:s.data.toList.drop s.size=[]:=List.drop_eq_nil_of_le (by simp)
  rw[hd,at1_nil] at he
  rw[he] at hj
  refine Ev.succ ?_
  simp only[spec_ParseVer.l0,show ¬(s.size:Int)<(s.size:Int) by omega,if_false]
  simpa using hj
 | succ d ih=>
  intro i hi he
  have hlt:i<s.size:=by omega
  have h3:=next_i hlt (by omega)
  obtain⟨b,hb,hbt,_⟩:=data_drop hlt
  refine Ev.succ ?_
  simp only[spec_ParseVer.l0,show (i:Int)<(s.size:Int) by omega,show (0:Int)≤(i:Int) by omega,if_true,h3,hbt]
  rw[hb] at he
  by_cases e:b=45
  ·subst e
   rw[at1_hit,Nat.add_zero] at he
   rw[he] at hj
   refine Ev.yes rfl ?_
   exact hj
  ·rw[at1_miss e] at he
   refine Ev.no (fun h=>e (UInt8.toNat_inj.1 (by rw[show (45:UInt8).toNat=45 from rfl];omega))) ?_
   exact ih (i+1) (by omega) (by omega)
theorem spec_pv (s:ByteArray) (hs:s.size≤16777216):Ev (fun k=>spec_ParseVer.f k s) (parseV s):=by
 unfold spec_ParseVer.f
 exact spec_pv_l s hs 0 0 0 s.size 0 (by omega) (by simp)
theorem numB_val {p:ByteArray} (h:(parseM p 9999).2=true):numB (parseM p 9999).1=p:=by
 unfold parseM at h ⊢
 split at h
 next hc=>
  rw[if_pos hc]
  have hp:=hc.1
  unfold parseOk at hp
  simp only[Bool.and_eq_true,List.all_eq_true] at hp
  show numB (valB p)=p
  unfold numB valB
  rw[Int.toNat_natCast,decDigits_val _ _ rfl hp.2.1 hp.2.2,ofL_data]
 next=>cases h
theorem join_three (p0 p1 p2:ByteArray):joinB [p0,p1,p2] dot=p0++dot++p1++dot++p2:=by
 rw[← ofL_data (p0++dot++p1++dot++p2)]
 unfold joinB dats dot
 simp[Lib.join_cons,Lib.joinTail]
theorem vert_back (s:ByteArray) (h3:(numQ s).length=3)
  (e0:(parseM (rdOf ByteArray.empty (numQ s) 0) 9999).2=true) (e1:(parseM (rdOf ByteArray.empty (numQ s) 1) 9999).2=true) (e2:(parseM (rdOf ByteArray.empty (numQ s) 2) 9999).2=true) (b:Bool)
  (hv:verB (parseM (rdOf ByteArray.empty (numQ s) 0) 9999).1 (parseM (rdOf ByteArray.empty (numQ s) 1) 9999).1 (parseM (rdOf ByteArray.empty (numQ s) 2) 9999).1 (preQ s)=b) :
  verT (parseM (rdOf ByteArray.empty (numQ s) 0) 9999).1 (parseM (rdOf ByteArray.empty (numQ s) 1) 9999).1 (parseM (rdOf ByteArray.empty (numQ s) 2) 9999).1 (preQ s)=if b=true then s else ⟨#[]⟩:=by
 unfold verT
 rw[hv]
 cases b with
 | false=>rfl
 | true=>
  rw[if_pos rfl,if_pos rfl]
  have hc:verCore (parseM (rdOf ByteArray.empty (numQ s) 0) 9999).1 (parseM (rdOf ByteArray.empty (numQ s) 1) 9999).1 (parseM (rdOf ByteArray.empty (numQ s) 2) 9999).1=headB 45 s:=by
   unfold verCore
   rw[numB_val e0,numB_val e1,numB_val e2,← join_three,← three h3]
   exact joinB_pieces _ 46
  rw[hc]
  unfold preQ
  cases hb:hasB 45 s with
  | true=>
   rw[if_pos rfl,if_pos (by have:=List.length_pos_iff.2 (pieces_ne (tailB 45 s) dot);omega)]
   rw[show joinB (piecesB (tailB 45 s) dot) dot=tailB 45 s from joinB_pieces _ 46]
   exact head_has hb
  | false=>
   rw[if_neg (by simp)]
   exact head_not hb
theorem joinN_preQ (s:ByteArray):joinN (preQ s) dot≤s.size+1:=by
 unfold preQ
 split
 ·rw[show joinN (piecesB (tailB 45 s) dot) dot=(tailB 45 s).size+1 from joinN_pieces _ 46]
  have:=tailB_size 45 s
  omega
 ·unfold joinN
  simp[dats,Lib.lens]
theorem impl_pv_fin (s:ByteArray) (hs:s.size≤16777216) (h3:(numQ s).length=3)
  (e0:(parseM (rdOf ByteArray.empty (numQ s) 0) 9999).2=true) (e1:(parseM (rdOf ByteArray.empty (numQ s) 1) 9999).2=true) (e2:(parseM (rdOf ByteArray.empty (numQ s) 2) 9999).2=true)
  (pre:ByteArray) (hp:hasB 45 s=true→pre=tailB 45 s) :
  Ev (fun k=>impl_ParseVer.fin k s pre (hasB 45 s) (parseM (rdOf ByteArray.empty (numQ s) 0) 9999).1 (parseM (rdOf ByteArray.empty (numQ s) 1) 9999).1 (parseM (rdOf ByteArray.empty (numQ s) 2) 9999).1)
   (readV (rdOf ByteArray.empty (numQ s) 0) (rdOf ByteArray.empty (numQ s) 1) (rdOf ByteArray.empty (numQ s) 2) (preQ s)):=by
 have hl:=preQ_length s
 have hm:=preQ_mem s
 have hN:=joinN_preQ s
 have hne:¬(ByteArray.mk #[]).toList=s.toList:=by
  intro e
  have h1:=pieces_length (s:=headB 45 s) (sep:=dot) (by decide)
  have h2:=headB_size 45 s
  have h4:(piecesB (headB 45 s) dot).length=3:=h3
  rw[toList_data,toList_data] at e
  have h5:s.data.toList.length=s.size:=by simp
  rw[← e] at h5
  simp at h5
  omega
 have main:Ev (fun k=>(impl_VerText.f k (parseM (rdOf ByteArray.empty (numQ s) 0) 9999).1 (parseM (rdOf ByteArray.empty (numQ s) 1) 9999).1 (parseM (rdOf ByteArray.empty (numQ s) 2) 9999).1 (preQ s)).bind fun t=>
   if t.toList=s.toList then some ((parseM (rdOf ByteArray.empty (numQ s) 0) 9999).1,(parseM (rdOf ByteArray.empty (numQ s) 1) 9999).1,(parseM (rdOf ByteArray.empty (numQ s) 2) 9999).1,preQ s,true) else some impl_ParseVer.no)
   (readV (rdOf ByteArray.empty (numQ s) 0) (rdOf ByteArray.empty (numQ s) 1) (rdOf ByteArray.empty (numQ s) 2) (preQ s)):=by
  refine Ev.bind (impl_vertext _ _ _ _ (by omega) (fun x hx=>by have:=hm x hx;omega) (by omega)) ?_
  unfold readV
  rw[vert_back s h3 e0 e1 e2 _ rfl]
  simp only[e0,e1,e2,true_and]
  cases hv:verB (parseM (rdOf ByteArray.empty (numQ s) 0) 9999).1 (parseM (rdOf ByteArray.empty (numQ s) 1) 9999).1 (parseM (rdOf ByteArray.empty (numQ s) 2) 9999).1 (preQ s) with
  | true=>
   simp only[if_true]
   exact Ev.some
  | false=>
   simp only[Bool.false_eq_true,if_false,hne]
   exact Ev.some
 unfold impl_ParseVer.fin
 cases hb:hasB 45 s with
 | true=>
  have hq:strings_Split.f pre (⟨#[46]⟩:ByteArray)=some (preQ s):=by
   rw[hp hb,strings_split _ 46 (by have:=tailB_size 45 s;omega)]
   unfold preQ
   rw[if_pos hb]
   rfl
  simp only[if_true,hq,Option.bind_some]
  exact main
 | false=>
  have hq:preQ s=[]:=by unfold preQ;rw[hb];rfl
  rw[hq] at main
  simp only[Bool.false_eq_true,if_false]
  rw[hq]
  exact main
theorem impl_pv (s:ByteArray) (hs:s.size≤16777216):Ev (fun k=>impl_ParseVer.f k s) (parseV s):=by
 have hcut:∃ pre:ByteArray,strings_Cut.f s (⟨#[45]⟩:ByteArray)=some (headB 45 s,pre,hasB 45 s)∧(hasB 45 s=true→pre=tailB 45 s):=by
  unfold strings_Cut.f
  rw[if_pos (by omega),show (⟨#[45]⟩:ByteArray).data.toList=[45] from rfl,cut_one]
  cases hb:hasB 45 s with
  | true=>
   refine⟨tailB 45 s,?_,fun _=>rfl⟩
   rw[if_pos rfl]
   try exact congrArg some (Prod.ext (ofL_data _) (Prod.ext (ofL_data _) rfl))
  | false=>
   refine⟨ByteArray.mk #[],?_,fun h=>by cases h⟩
   rw[if_neg (by simp),head_not hb]
   try exact congrArg some (Prod.ext (ofL_data _) (Prod.ext rfl rfl))
 obtain⟨pre,hcut,hp⟩:=hcut
 have hsp:strings_Split.f (headB 45 s) (⟨#[46]⟩:ByteArray)=some (numQ s):=strings_split _ 46 (by have:=headB_size 45 s;omega)
 unfold impl_ParseVer.f parseV
 simp only[hcut,hsp,Option.bind_some]
 by_cases h3:(numQ s).length=3
 ·simp only[h3,if_true]
  unfold impl_ParseVer.n3
  refine Ev.bind (impl_parse _ _) ?_
  by_cases e0:(parseM (rdOf ByteArray.empty (numQ s) 0) 9999).2=true
  ·simp only[e0,if_true]
   unfold impl_ParseVer.n2
   refine Ev.bind (impl_parse _ _) ?_
   by_cases e1:(parseM (rdOf ByteArray.empty (numQ s) 1) 9999).2=true
   ·simp only[e1,if_true]
    unfold impl_ParseVer.n1
    refine Ev.bind (impl_parse _ _) ?_
    by_cases e2:(parseM (rdOf ByteArray.empty (numQ s) 2) 9999).2=true
    ·simp only[e2,if_true]
     exact impl_pv_fin s hs h3 e0 e1 e2 pre hp
    ·unfold readV
     simp only[e2,if_false,false_and,and_false,Bool.false_eq_true] <;> exact Ev.some
   ·unfold readV
    simp only[e1,if_false,false_and,and_false,Bool.false_eq_true] <;> exact Ev.some
  ·unfold readV
   simp only[e0,if_false,false_and,Bool.false_eq_true] <;> exact Ev.some
 ·simp only[h3,if_false]
  exact Ev.some
theorem readV_length (p0 p1 p2:ByteArray) (q:List ByteArray):(readV p0 p1 p2 q).2.2.2.1.length≤3:=by
 unfold readV
 split
 next h=>have:=ver_parts h.2.2.2;show q.length≤3;omega
 next=>exact Nat.zero_le _
theorem parseV_length (s:ByteArray):(parseV s).2.2.2.1.length≤3:=by
 unfold parseV
 split
 ·exact readV_length _ _ _ _
 ·exact Nat.zero_le _
theorem dropWhile_snoc {α:Type} (p:α→Bool) (a:α):∀ l:List α,(l++[a]).dropWhile p=if (l.dropWhile p)=[] then [a].dropWhile p else l.dropWhile p++[a]
 | []=>by simp
 | b :: l=>by
  have ih:=dropWhile_snoc p a l
  by_cases h:p b=true
  ·rw[List.cons_append,List.dropWhile_cons_of_pos h,List.dropWhile_cons_of_pos h,ih]
  ·rw[List.cons_append,List.dropWhile_cons_of_neg h,List.dropWhile_cons_of_neg h,if_neg (by simp)]
   rfl
theorem dropWhile_turn {α:Type} (p:α→Bool):∀ l:List α,(l.reverse.dropWhile p).reverse.dropWhile p=((l.dropWhile p).reverse.dropWhile p).reverse
 | []=>rfl
 | a :: l=>by
  have ih:=dropWhile_turn p l
  by_cases h:p a=true
  ·rw[List.dropWhile_cons_of_pos h,← ih,List.reverse_cons,dropWhile_snoc]
   by_cases h0:l.reverse.dropWhile p=[]
   ·rw[if_pos h0,h0,List.dropWhile_cons_of_pos h]
    rfl
   ·rw[if_neg h0,List.reverse_append,List.reverse_singleton,List.singleton_append,List.dropWhile_cons_of_pos h]
  ·rw[List.dropWhile_cons_of_neg h,List.reverse_cons,dropWhile_snoc]
   by_cases h0:l.reverse.dropWhile p=[]
   ·rw[if_pos h0,List.dropWhile_cons_of_neg h,List.reverse_singleton,List.dropWhile_cons_of_neg h]
   ·rw[if_neg h0,List.reverse_append,List.reverse_singleton,List.singleton_append,List.dropWhile_cons_of_neg h]
theorem trim_turn (l:List UInt8) (c:UInt8):Lib.trimRightB (Lib.trimLeftB l c) c=Lib.trimB l c:=by
 unfold Lib.trimB Lib.trimLeftB Lib.trimRightB
 exact(dropWhile_turn _ l).symm
def trimQ (s:ByteArray):ByteArray:=ofL (Lib.trimB s.data.toList 32)
theorem trimQ_size (s:ByteArray):(trimQ s).size≤s.size:=by
 unfold trimQ Lib.trimB Lib.trimLeftB Lib.trimRightB
 rw[ofL_size]
 have h1:=(List.dropWhile_suffix (fun x:UInt8=>x == 32) (l:=(s.data.toList.reverse.dropWhile (fun x:UInt8=>x == 32)).reverse)).length_le
 have h2:=(List.dropWhile_suffix (fun x:UInt8=>x == 32) (l:=s.data.toList.reverse)).length_le
 rw[List.length_reverse] at h1 h2
 have h3:s.data.toList.length=s.size:=by simp
 omega
theorem strings_trim (s:ByteArray) (hs:s.size≤9223372036854775807):strings_Trim.f s ⟨#[32]⟩=some (trimQ s):=by
 unfold strings_Trim.f trimQ
 rw[if_pos ⟨rfl,by decide,hs⟩]
 rfl
theorem bt_ofL {l:List UInt8} {i:Nat} {b:UInt8} (h:l[i]?=some b):bt (ofL l) (i:Int)=(b.toNat:Int):=by
 rw[bt_bs]
 unfold bs
 rw[data_ofL,List.getD_eq_getElem?_getD,Int.toNat_natCast,List.getElem?_map,h]
 rfl
theorem trim_r:∀ (n:Nat) (l:List UInt8),l.length=n→n≤9223372036854775807→Ev (fun k=>spec_l4Trim.l1 k (ofL l)) (ofL (Lib.trimRightB l 32))
 | 0,l,hl,hn=>by
  obtain rfl:=List.length_eq_zero_iff.1 hl
  refine Ev.succ ?_
  simp only[spec_l4Trim.l1]
  exact Ev.some
 | n+1,l,hl,hn=>by
  obtain⟨u,b,rfl⟩:∃ u b,l=u++[b]:=⟨l.dropLast,l.getLast (by intro e;simp[e] at hl),(List.dropLast_concat_getLast _).symm⟩
  have hu:u.length=n:=by simpa using hl
  have hsz:(ofL (u++[b])).size=n+1:=by rw[ofL_size,hl]
  have hw:wrap64 (((n+1:Nat):Int)-1)=(n:Int):=by rw[wrap64_id (by omega) (by omega)];omega
  have hb:bt (ofL (u++[b])) (n:Int)=(b.toNat:Int):=bt_ofL (by rw[← hu];simp)
  have ih:=trim_r n u hu (by omega)
  refine Ev.succ ?_
  simp only[spec_l4Trim.l1,hsz,hw,hb,show ((n+1:Nat):Int)>0 by omega,show (0:Int)≤(n:Int) by omega,show (n:Int)<((n+1:Nat):Int) by omega,show (n:Int)≤((n+1:Nat):Int) by omega,if_true]
  by_cases h:b=32
  ·subst h
   have he:(ofL (u++[32])).extract 0 ((n:Int)).toNat=ofL u:=by
    rw[extract_ofL,data_ofL,List.drop_zero,Int.toNat_natCast,Nat.sub_zero,← hu,List.take_left]
   simp only[show (((32:UInt8).toNat:Nat):Int)=32 from rfl,if_true,he]
   refine Ev.cast ih ?_
   unfold Lib.trimRightB
   rw[List.reverse_append,List.reverse_singleton,List.singleton_append,List.dropWhile_cons_of_pos (by simp)]
  ·have hne:¬((b.toNat:Int)=32):=fun e=>h (UInt8.toNat_inj.1 (by rw[show (32:UInt8).toNat=32 from rfl];omega))
   simp only[hne,if_false]
   refine Ev.cast Ev.some ?_
   unfold Lib.trimRightB
   rw[List.reverse_append,List.reverse_singleton,List.singleton_append,List.dropWhile_cons_of_neg (by simpa using h)]
   simp
theorem trim_l:∀ (n:Nat) (l:List UInt8),l.length=n→n≤9223372036854775807→Ev (fun k=>spec_l4Trim.l0 k (ofL l)) (ofL (Lib.trimRightB (Lib.trimLeftB l 32) 32))
 | 0,l,hl,hn=>by
  obtain rfl:=List.length_eq_zero_iff.1 hl
  refine Ev.succ ?_
  have h0:¬(((ofL []).size:Nat):Int)>0:=by rw[ofL_size];simp
  simp only[spec_l4Trim.l0,h0,if_false]
  refine Ev.succ ?_
  simp only[spec_l4Trim.j1]
  exact trim_r 0 [] rfl (by omega)
 | n+1,l,hl,hn=>by
  obtain⟨b,u,rfl⟩:∃ b u,l=b :: u:=by cases l with|nil=>cases hl|cons b u=>exact⟨b,u,rfl⟩
  have hu:u.length=n:=by simpa using hl
  have hsz:(ofL (b :: u)).size=n+1:=by rw[ofL_size,hl]
  have hb:bt (ofL (b :: u)) ((0:Nat):Int)=(b.toNat:Int):=bt_ofL rfl
  have ih:=trim_l n u hu (by omega)
  refine Ev.succ ?_
  rw[show ((0:Nat):Int)=0 from rfl] at hb
  simp only[spec_l4Trim.l0,hsz,hb,show ((n+1:Nat):Int)>0 by omega,show (0:Int)<((n+1:Nat):Int) by omega,show (1:Int)≤((n+1:Nat):Int) by omega,Int.le_refl,if_true]
  by_cases h:b=32
  ·subst h
   have he:(ofL (32 :: u)).extract 1 (n+1)=ofL u:=by
    rw[extract_ofL,data_ofL,List.drop_one,List.tail_cons,List.take_of_length_le (by omega)]
   simp only[show (((32:UInt8).toNat:Nat):Int)=32 from rfl,if_true,he]
   refine Ev.cast ih ?_
   unfold Lib.trimLeftB
   rw[List.dropWhile_cons_of_pos (by simp)]
  ·have hne:¬((b.toNat:Int)=32):=fun e=>h (UInt8.toNat_inj.1 (by rw[show (32:UInt8).toNat=32 from rfl];omega))
   simp only[hne,if_false]
   refine Ev.succ ?_
   simp only[spec_l4Trim.j1]
   refine Ev.cast (trim_r (n+1) (b :: u) hl hn) ?_
   unfold Lib.trimLeftB
   rw[List.dropWhile_cons_of_neg (by simpa using h)]
theorem spec_trim (s:ByteArray) (hs:s.size≤9223372036854775807):Ev (fun k=>spec_l4Trim.f k s) (trimQ s):=by
 unfold spec_l4Trim.f trimQ
 have h:=trim_l s.size s.data.toList (by simp) hs
 rw[ofL_data,trim_turn] at h
 exact h
def bar2:ByteArray:=⟨#[124,124]⟩
theorem split_short {l:List UInt8} (h:l.length≤1):Lib.split l [124,124]=[l]:=by
 match l,h with
 | [],_=>exact split_nil (by simp)
 | [b],_=>
  rw[split_by (by simp) (by unfold List.isPrefixOf;simp[List.isPrefixOf]),split_nil (by simp)]
  rfl
theorem split_bars (l:List UInt8):Lib.split (124 :: 124 :: l) [124,124]=[] :: Lib.split l [124,124]:=by
 rw[split_at (sep:=[124,124]) (by simp) (by simp[List.isPrefixOf])]
 rfl
theorem split_nobar {b c:UInt8} (l:List UInt8) (h:¬(b=124∧c=124)):Lib.split (b :: c :: l) [124,124]=glue [b] (Lib.split (c :: l) [124,124]):=
 split_by (by simp) (by
  simp only[List.isPrefixOf,Bool.and_true,Bool.and_eq_false_imp,beq_iff_eq]
  intro e
  rw[beq_eq_false_iff_ne]
  exact fun e2=>h ⟨e.symm,e2.symm⟩)
theorem strings_sides (s:ByteArray) (hs:s.size≤16777216):strings_Split.f s ⟨#[124,124]⟩=some (piecesB s bar2):=by
 unfold strings_Split.f
 rw[if_pos ⟨by omega,by show 1≤2;omega⟩,splitB_pieces]
 rfl
theorem spec_sides_l (s:ByteArray) (hs:s.size≤16777216):∀ (d i fr:Nat) (out:List ByteArray),s.size-i≤d→i≤s.size→fr≤i→out.length≤i →
  Ev (fun k=>spec_l4Sides.l0 k s out (fr:Int) (i:Int)) (out++(glue ((s.data.toList.drop fr).take (i-fr)) (Lib.split (s.data.toList.drop i) [124,124])).map ofL):=by
 intro d
 induction d using Nat.strongRecOn with
 | _ d ih=>
  intro i fr out hd hi hf ho
  have h3:wrap64 ((i:Int)+1)=((i+1:Nat):Int):=by rw[wrap64_id (by omega) (by omega)];rfl
  refine Ev.succ ?_
  by_cases hlt:i+1<s.size
  ·have h4:wrap64 ((i:Int)+2)=((i+2:Nat):Int):=(wrap64_id (by omega) (by omega)).trans (by omega)
   have h5:wrap64 (((i+1:Nat):Int)+1)=((i+2:Nat):Int):=(wrap64_id (by omega) (by omega)).trans (by omega)
   have f1:((i+1:Nat):Int)<(s.size:Int):=by omega
   have f2:(0:Int)≤(i:Int):=by omega
   have f3:(0:Int)≤((i+1:Nat):Int):=by omega
   have f4:(i:Int)<(s.size:Int):=by omega
   have f5:(0:Int)≤(fr:Int):=by omega
   have f6:(fr:Int)≤(i:Int):=by omega
   have f7:(i:Int)≤(s.size:Int):=by omega
   have f8:out.length<8796093022208:=by omega
   have f9:fr+(i-fr)=i:=by omega
   have f10:i+1-fr=(i-fr)+1:=by omega
   have ihA:=fun(o:List ByteArray) (ho':o.length≤i+2)=>ih (s.size-(i+2)) (by omega) (i+2) (i+2) o (by omega) (by omega) (by omega) ho'
   have ihB:=ih (s.size-(i+1)) (by omega) (i+1) fr out (by omega) (by omega) (by omega) (by omega)
   have hol:∀ z:ByteArray,(out++[z]).length≤i+2:=fun z=>by simp;omega
   obtain⟨b,hb,hbt,hg⟩:=data_drop (s:=s) (i:=i) (by omega)
   obtain⟨c,hc,hct,hg2⟩:=data_drop (s:=s) (i:=i+1) hlt
   simp only[spec_l4Sides.l0,h3,h4,h5,hbt,hct,f1,f2,f3,f4,if_true]
   by_cases h:b=124∧c=124
   ·obtain⟨rfl,rfl⟩:=h
    simp only[show (((124:UInt8).toNat:Nat):Int)=124 from rfl,if_true,f5,f6,f7,f8]
    refine Ev.cast (ihA _ (hol _)) ?_
    rw[hb,hc,split_bars,Nat.sub_self,List.take_zero,glue_nil (split_ne _ _)]
    simp only[glue,List.append_nil,List.map_cons,List.append_assoc,List.singleton_append,Int.toNat_natCast,extract_ofL]
   ·have hx:(s.data.toList.drop fr)[i-fr]?=some b:=by rw[List.getElem?_drop,f9,hg]
    have step:Ev (fun k=>spec_l4Sides.l0 k s out (fr:Int) ((i+1:Nat):Int)) (out++(glue ((s.data.toList.drop fr).take (i-fr)) (Lib.split (s.data.toList.drop i) [124,124])).map ofL):=by
     refine Ev.cast ihB ?_
     rw[hb,hc,split_nobar _ h,← hc,glue_glue _ _ _ (split_ne _ _),f10,List.take_add_one,hx]
     rfl
    by_cases hb1:b=124
    ·have hc1:¬((c.toNat:Int)=124):=fun e=>h ⟨hb1,UInt8.toNat_inj.1 (Int.ofNat.inj e)⟩
     have hb2:((b.toNat:Int)=124):=by rw[hb1];rfl
     simp only[hb2,hc1,if_true,if_false]
     exact step
    ·have hb2:¬((b.toNat:Int)=124):=fun e=>hb1 (UInt8.toNat_inj.1 (Int.ofNat.inj e))
     simp only[hb2,if_false]
     exact step
  ·simp only[spec_l4Sides.l0,h3,show ¬((i+1:Nat):Int)<(s.size:Int) by omega,if_false,show (0:Int)≤(fr:Int) by omega,show (fr:Int)≤(s.size:Int) by omega,if_true,show out.length<8796093022208 by omega]
   refine Ev.cast Ev.some ?_
   have hl:(s.data.toList.drop i).length≤1:=by
    have hz:s.data.toList.length=s.size:=by simp
    rw[List.length_drop]
    omega
   rw[split_short hl]
   simp only[glue,List.map_cons,List.map_nil,Int.toNat_natCast,extract_ofL]
   congr 3
   have e:s.data.toList.drop i=(s.data.toList.drop fr).drop (i-fr):=by rw[List.drop_drop];congr 1;omega
   rw[e,List.take_append_drop,List.take_of_length_le]
   rw[List.length_drop]
   have:s.data.toList.length=s.size:=by simp
   omega
theorem spec_sides (s:ByteArray) (hs:s.size≤16777216):Ev (fun k=>spec_l4Sides.f k s) (piecesB s bar2):=by
 unfold spec_l4Sides.f
 refine Ev.cast (spec_sides_l s hs s.size 0 0 [] (by omega) (by omega) (by omega) (by simp)) ?_
 rw[List.nil_append,List.drop_zero,Nat.sub_self,List.take_zero,glue_nil (split_ne _ _)]
 rfl
abbrev CmpT:=S34
def mkC (op a b c:Int) (l:List ByteArray):CmpT:=⟨op,⟨a,b,c,l⟩⟩
def exB:ByteArray:=⟨#[120]⟩
def oneP (a:ByteArray):Int × Int × Int:=if (parseM a 9999).2=true then ((parseM a 9999).1,0,1) else (0,0,0)
def twoP (a b:ByteArray):Int × Int × Int:=if b=exB then oneP a else if (parseM a 9999).2=true∧(parseM b 9999).2=true then ((parseM a 9999).1,(parseM b 9999).1,2) else (0,0,0)
def partL:List ByteArray→Int × Int × Int
 | [a]=>oneP a
 | [a,b]=>twoP a b
 | [a,b,c]=>if c=exB then twoP a b else (0,0,0)
 | _=>(0,0,0)
abbrev PartR:=Int × Int × Int × List ByteArray × Int × Bool
def partB (s:ByteArray):PartR:=
 if (parseV s).2.2.2.2=true then ((parseV s).1,(parseV s).2.1,(parseV s).2.2.1,(parseV s).2.2.2.1,3,true)
 else if (partL (piecesB s dot)).2.2=0 then (0,0,0,[],0,false) else ((partL (piecesB s dot)).1,(partL (piecesB s dot)).2.1,0,[],(partL (piecesB s dot)).2.2,true)
def lowC (a b c:Int):CmpT:=mkC 1 a b c [⟨#[48]⟩]
def fromC (p:PartR):CmpT:=mkC 4 p.1 p.2.1 p.2.2.1 p.2.2.2.1
def nextC (p:PartR):Int × Int:=if p.2.2.2.2.1=1 then (p.1+1,0) else (p.1,p.2.1+1)
def caretC (p:PartR):CmpT:=if p.1≠0∨p.2.2.2.2.1=1 then lowC (p.1+1) 0 0 else if p.2.1≠0∨p.2.2.2.2.1=2 then lowC 0 (p.2.1+1) 0 else lowC 0 0 (p.2.2.1+1)
def makeC (sg:List UInt8) (p:PartR):List CmpT:=
 if sg=[94] then [fromC p,caretC p]
 else if sg=[126] then [fromC p,lowC (nextC p).1 (nextC p).2 0]
 else if sg=[62,61] then [fromC p]
 else if sg=[60] then [mkC 1 p.1 p.2.1 p.2.2.1 p.2.2.2.1]
 else if sg=[62] then (if p.2.2.2.2.1=3 then [mkC 3 p.1 p.2.1 p.2.2.1 p.2.2.2.1] else [mkC 4 (nextC p).1 (nextC p).2 0 []])
 else if sg=[60,61] then (if p.2.2.2.2.1=3 then [mkC 2 p.1 p.2.1 p.2.2.1 p.2.2.2.1] else [lowC (nextC p).1 (nextC p).2 0])
 else if p.2.2.2.2.1=3 then [mkC 0 p.1 p.2.1 p.2.2.1 p.2.2.2.1] else [fromC p,lowC (nextC p).1 (nextC p).2 0]
def signsL:List (List UInt8):=[[94],[126],[62,61],[62],[60,61],[60],[61],[]]
def wordGo (w:List UInt8):List (List UInt8)→List CmpT × Bool
 | []=>([],false)
 | g :: r=>if g.isPrefixOf w=true then (if (partB (ofL (w.drop g.length))).2.2.2.2.2=true then (makeC g (partB (ofL (w.drop g.length))),true) else ([],false)) else wordGo w r
def wordC (w:ByteArray):List CmpT × Bool:=if w.data.toList=[42] then ([mkC 4 0 0 0 []],true) else wordGo w.data.toList signsL
def wordsC:List ByteArray→Option (List CmpT)
 | []=>some []
 | w :: r=>if (wordC w).2=true then (wordsC r).map ((wordC w).1 ++ ·) else none
def okV (x:CmpT):Bool:=verB x.f1.f0 x.f1.f1 x.f1.f2 x.f1.f3
def verC (op:Int) (v:VerR):CmpT:=mkC op v.1 v.2.1 v.2.2.1 v.2.2.2.1
def dashB:ByteArray:=⟨#[45]⟩
def listC (ws:List ByteArray):Option (List CmpT):=
 match ws with
 | [a,m,b]=>if m=dashB then (if (parseV a).2.2.2.2=true∧(parseV b).2.2.2.2=true then some [verC 4 (parseV a),verC 2 (parseV b)] else none)
   else (wordsC [a,m,b]).bind fun out=>if out.all okV=true∧out.length≤4 then some out else none
 | ws=>(wordsC ws).bind fun out=>if out.all okV=true∧out.length≤4 then some out else none
def blank1:ByteArray:=⟨#[32]⟩
def sideC (p:ByteArray):Option (List CmpT):=listC (piecesB (trimQ p) blank1)
def sidesC:List ByteArray→Option (List (List CmpT))
 | []=>some []
 | p :: r=>(sideC p).bind fun x=>(sidesC r).map (x :: ·)
def rangeC (s:ByteArray):Option (List (List CmpT)):=if (piecesB s bar2).length≤4 then sidesC (piecesB s bar2) else none
def rangeR (s:ByteArray):List (List CmpT) × Bool:=match rangeC s with|some r=>(r,true)|none=>([],false)
theorem readV_ok {p0 p1 p2:ByteArray} {q:List ByteArray} (h:(readV p0 p1 p2 q).2.2.2.2=true):verB (readV p0 p1 p2 q).1 (readV p0 p1 p2 q).2.1 (readV p0 p1 p2 q).2.2.1 (readV p0 p1 p2 q).2.2.2.1=true:=by
 unfold readV at h ⊢
 split at h
 next hc=>rw[if_pos hc];exact hc.2.2.2
 next=>cases h
theorem parseV_ok {s:ByteArray} (h:(parseV s).2.2.2.2=true):verB (parseV s).1 (parseV s).2.1 (parseV s).2.2.1 (parseV s).2.2.2.1=true:=by
 unfold parseV at h ⊢
 split at h
 next hc=>rw[if_pos hc];exact readV_ok h
 next=>cases h
theorem makeC_length (sg:List UInt8) (p:PartR):1≤(makeC sg p).length∧(makeC sg p).length≤2:=by
 unfold makeC
 split
 ·simp
 split
 ·simp
 split
 ·simp
 split
 ·simp
 split
 ·split <;> simp
 split
 ·split <;> simp
 split <;> simp
theorem wordGo_length (w:List UInt8):∀ l,(wordGo w l).1.length≤2
 | []=>by simp[wordGo]
 | g :: r=>by
  unfold wordGo
  split
  ·split
   ·exact(makeC_length _ _).2
   ·simp
  ·exact wordGo_length w r
theorem wordC_length (w:ByteArray):(wordC w).1.length≤2:=by
 unfold wordC
 split
 ·simp
 ·exact wordGo_length _ _
def Got {α:Type} (g:Nat→Option α) (p:α→Prop):Prop:=∃ r,Ev g r∧p r
theorem Got.bind {α β:Type} {g:Nat→Option α} {f:Nat→α→Option β} {p:α→Prop} {q:β→Prop} (h:Got g p) (h':∀ r,p r→Got (fun k=>f k r) q):Got (fun k=>(g k).bind (f k)) q:=by
 obtain⟨r,hr,hp⟩:=h
 obtain⟨s,hs,hq⟩:=h' r hp
 exact⟨s,Ev.bind hr hs,hq⟩
theorem Got.some {α:Type} {r:α} {p:α→Prop} (h:p r):Got (fun _=>Option.some r) p:=⟨r,Ev.some,h⟩
theorem Got.succ {α:Type} {g:Nat→Option α} {p:α→Prop} (h:Got (fun k=>g (k+1)) p):Got g p:=by
 obtain⟨r,hr,hp⟩:=h
 exact⟨r,Ev.succ hr,hp⟩
theorem Got.const {α:Type} {o:Option α} {p:α→Prop} (h:∃ r,o=Option.some r∧p r):Got (fun _=>o) p:=by
 obtain⟨r,e,hp⟩:=h
 exact⟨r,Ev.const e,hp⟩
theorem Got.of {α:Type} {g:Nat→Option α} {r:α} {p:α→Prop} (h:Ev g r) (hp:p r):Got g p:=⟨r,h,hp⟩
theorem Got.mono {α:Type} {g:Nat→Option α} {p q:α→Prop} (h:Got g p) (hpq:∀ r,p r→q r):Got g q:=by
 obtain⟨r,hr,hp⟩:=h
 exact⟨r,hr,hpq r hp⟩
theorem Got.cond {α:Type} {c:Prop} [Decidable c] {g f:Nat→Option α} {p:α→Prop} (h:c→Got g p) (h':¬c→Got f p):Got (fun k=>if c then g k else f k) p:=by
 by_cases hc:c
 ·simpa only[hc,if_true] using h hc
 ·simpa only[hc,if_false] using h' hc
theorem ex_iff (p:ByteArray):p.toList=([120]:List UInt8)↔p=exB:=by
 rw[show ([120]:List UInt8)=exB.toList from by rw[toList_data];rfl]
 exact toList_inj
theorem ex_not:(parseM exB 9999).2=false:=by
 unfold parseM
 rw[if_neg (by
  intro h
  have:=h.1
  unfold parseOk at this
  simp only[Bool.and_eq_true,List.all_eq_true] at this
  exact absurd (this.2.1 120 (by simp[exB])) (by decide))]
def finP (nums:List Int) (t:Nat):PartR:=(rd nums 0,rd nums 1,rd nums 2,[],(t:Int),inB (t:Int) 1 2)
def noP:PartR:=(0,0,0,[],0,false)
def allX (l:List ByteArray):Bool:=l.all fun p=>decide (p=exB)
def readGo:List ByteArray→List Int→Nat→PartR
 | [],nums,t=>finP nums t
 | p :: r,nums,t=>if p=exB then (if allX r=true then finP nums t else noP) else if (parseM p 9999).2=true then readGo r (nums.set t (parseM p 9999).1) (t+1) else noP
theorem spec_read_x (l:List ByteArray) (hl:l.length≤3) (nums:List Int) (hn:nums.length=3) (t:Nat) (d:Nat):∀ i:Nat,i+d=l.length →
  Ev (fun k=>spec_l4Read.l1 k l nums (i:Int) 0 0 0 (t:Int) false) (if allX (l.drop i)=true then finP nums t else noP):=by
 induction d with
 | zero=>
  intro i hi
  refine Ev.succ ?_
  rw[List.drop_eq_nil_of_le (by omega)]
  simp only[spec_l4Read.l1,show ¬(i:Int)<(l.length:Int) by omega,if_false,hn,show (0:Int)<((3:Nat):Int) by omega,show (1:Int)<((3:Nat):Int) by omega,show (2:Int)<((3:Nat):Int) by omega,if_true,in_f,Option.bind_some]
  exact Ev.some
 | succ d ih=>
  intro i hi
  have hlt:i<l.length:=by omega
  refine Ev.succ ?_
  rw[drop_get hlt]
  have ha:allX (l[i] :: l.drop (i+1))=(decide (l[i]=exB) && allX (l.drop (i+1))):=rfl
  rw[ha]
  simp only[spec_l4Read.l1,show (i:Int)<(l.length:Int) by omega,show (0:Int)≤(i:Int) by omega,if_true,rdOf_cast _ hlt,ex_iff,next_i hlt (by omega)]
  by_cases h:l[i]=exB
  ·simp only[h,if_true,decide_true,Bool.true_and]
   exact ih (i+1) (by omega)
  ·simp only[h,if_false,decide_false,Bool.false_and,Bool.false_eq_true]
   exact Ev.some
theorem spec_read_l (l:List ByteArray) (hl:l.length≤3) (hs:∀ x∈l,x.size≤9223372036854775807) (d:Nat):∀ (t:Nat) (nums:List Int),t+d=l.length→nums.length=3 →
  Ev (fun k=>spec_l4Read.l0 k l nums 0 0 0 (t:Int) false) (readGo (l.drop t) nums t):=by
 induction d with
 | zero=>
  intro t nums ht hn
  have hx:=spec_read_x l hl nums hn t 0 t (by omega)
  rw[List.drop_eq_nil_of_le (by omega)] at hx ⊢
  refine Ev.succ ?_
  simp only[spec_l4Read.l0,show ¬(t:Int)<(l.length:Int) by omega,if_false]
  refine Ev.succ ?_
  simp only[spec_l4Read.j3,Bool.false_eq_true,if_false]
  exact hx
 | succ d ih=>
  intro t nums ht hn
  have hlt:t<l.length:=by omega
  refine Ev.succ ?_
  simp only[spec_l4Read.l0,show (t:Int)<(l.length:Int) by omega,show (0:Int)≤(t:Int) by omega,if_true,rdOf_cast _ hlt]
  refine Ev.succ ?_
  by_cases h:l[t]=exB
  ·have hx:=spec_read_x l hl nums hn t (d+1) t (by omega)
   rw[show (l[t].toList != ([120]:List UInt8))=false from by rw[bne_eq_false_iff_eq];exact(ex_iff _).2 h]
   simp only[spec_l4Read.j3,Bool.false_eq_true,if_false]
   refine Ev.cast hx ?_
   rw[drop_get hlt]
   unfold readGo
   rw[if_pos h,show allX (l[t] :: l.drop (t+1))=(decide (l[t]=exB) && allX (l.drop (t+1))) from rfl,h]
   simp
  ·rw[show (l[t].toList != ([120]:List UInt8))=true from by rw[bne_iff_ne];exact fun e=>h ((ex_iff _).1 e),drop_get hlt]
   unfold readGo
   rw[if_neg h]
   simp only[spec_l4Read.j3,if_true,show (t:Int)<(l.length:Int) by omega,show (0:Int)≤(t:Int) by omega,rdOf_cast _ hlt]
   refine Ev.bind (spec_parse l[t] 9999 (hs _ (List.getElem_mem hlt))) ?_
   by_cases hp:(parseM l[t] 9999).2=true
   ·simp only[hp,if_true,hn,show (t:Int)<((3:Nat):Int) by omega,Int.toNat_natCast,next_i hlt (by omega)]
    exact ih (t+1) _ (by omega) (by rw[List.length_set];exact hn)
   ·simp only[hp,if_false,Bool.false_eq_true]
    exact Ev.some
theorem read_part (s:ByteArray) (hv:¬(parseV s).2.2.2.2=true) (h3:(piecesB s dot).length≤3):(readGo (piecesB s dot) [0,0,0] 0).2.2.2.2.2=(partB s).2.2.2.2.2∧((partB s).2.2.2.2.2=true→readGo (piecesB s dot) [0,0,0] 0=partB s):=by
 unfold partB
 rw[if_neg hv]
 have hne:=pieces_ne s dot
 have key:∀ l:List ByteArray,l≠[]→l.length≤3→(readGo l [0,0,0] 0).2.2.2.2.2=decide ((partL l).2.2≠0)∧((partL l).2.2≠0→readGo l [0,0,0] 0=((partL l).1,(partL l).2.1,0,[],(partL l).2.2,true)):=by
  intro l hl hl3
  have hx:=ex_not
  match l,hl,hl3 with
  | [a],_,_=>
   by_cases ha:a=exB
   ·subst ha
    simp[readGo,partL,oneP,hx,allX,finP,inB]
   ·by_cases pa:(parseM a 9999).2=true
    ·simp[readGo,partL,oneP,ha,pa,finP,inB,rd]
    ·simp[readGo,partL,oneP,ha,pa,noP]
  | [a,b],_,_=>
   by_cases ha:a=exB
   ·subst ha
    by_cases hb:b=exB
    ·subst hb
     simp[readGo,partL,twoP,oneP,hx,allX,finP,inB]
    ·simp[readGo,partL,twoP,oneP,hx,hb,allX,finP,inB,noP]
   ·by_cases pa:(parseM a 9999).2=true
    ·by_cases hb:b=exB
     ·subst hb
      simp[readGo,partL,twoP,oneP,ha,pa,allX,finP,inB,rd]
     ·by_cases pb:(parseM b 9999).2=true
      ·simp[readGo,partL,twoP,oneP,ha,pa,hb,pb,finP,inB,rd]
      ·simp[readGo,partL,twoP,oneP,ha,pa,hb,pb,noP]
    ·by_cases hb:b=exB
     ·simp[readGo,partL,twoP,oneP,ha,pa,hb,noP]
     ·simp[readGo,partL,twoP,oneP,ha,pa,hb,noP]
  | [a,b,c],_,_=>
   by_cases ha:a=exB
   ·subst ha
    by_cases hb:b=exB
    ·subst hb
     by_cases hc:c=exB
     ·subst hc
      simp[readGo,partL,twoP,oneP,hx,allX,finP,inB]
     ·simp[readGo,partL,twoP,oneP,hx,hc,allX,noP]
    ·by_cases hc:c=exB
     ·subst hc
      simp[readGo,partL,twoP,oneP,hx,hb,allX,noP]
     ·simp[readGo,partL,twoP,oneP,hx,hb,hc,allX,noP]
   ·by_cases pa:(parseM a 9999).2=true
    ·by_cases hb:b=exB
     ·subst hb
      by_cases hc:c=exB
      ·subst hc
       simp[readGo,partL,twoP,oneP,ha,pa,allX,finP,inB,rd]
      ·simp[readGo,partL,twoP,oneP,ha,pa,hc,allX,noP]
     ·by_cases pb:(parseM b 9999).2=true
      ·by_cases hc:c=exB
       ·subst hc
        simp[readGo,partL,twoP,oneP,ha,pa,hb,pb,allX,finP,inB,rd]
       ·by_cases pc:(parseM c 9999).2=true
        ·simp[readGo,partL,twoP,oneP,ha,pa,hb,pb,hc,pc,finP,inB,noP]
        ·simp[readGo,partL,twoP,oneP,ha,pa,hb,pb,hc,pc,noP]
      ·by_cases hc:c=exB
       ·simp[readGo,partL,twoP,oneP,ha,pa,hb,pb,hc,noP]
       ·simp[readGo,partL,twoP,oneP,ha,pa,hb,pb,hc,noP]
    ·by_cases hb:b=exB
     ·by_cases hc:c=exB
      ·simp[readGo,partL,twoP,oneP,ha,pa,hb,hc,noP]
      ·simp[readGo,partL,twoP,oneP,ha,pa,hb,hc,noP]
     ·by_cases hc:c=exB
      ·simp[readGo,partL,twoP,oneP,ha,pa,hb,hc,noP]
      ·simp[readGo,partL,twoP,oneP,ha,pa,hb,hc,noP]
 obtain⟨k1,k2⟩:=key _ hne h3
 by_cases h0:(partL (piecesB s dot)).2.2=0
 ·rw[if_pos h0]
  refine⟨by rw[k1];simp[h0],fun h=>by cases h⟩
 ·rw[if_neg h0]
  exact⟨by rw[k1];simp[h0],fun _=>k2 h0⟩
theorem spec_read (s:ByteArray) (hs:s.size≤16777216):Got (fun k=>spec_l4Read.f k s) fun r=>r.2.2.2.2.2=(partB s).2.2.2.2.2∧((partB s).2.2.2.2.2=true→r=partB s):=by
 unfold spec_l4Read.f
 refine Got.bind (Got.of (spec_pv s hs) rfl:Got _ fun r=>r=parseV s) fun v hv=>?_
 subst hv
 refine Got.cond (fun h=>Got.some ?_) fun h=>?_
 ·have e:partB s=((parseV s).1,(parseV s).2.1,(parseV s).2.2.1,(parseV s).2.2.2.1,3,true):=by unfold partB;rw[if_pos h]
  rw[e]
  exact⟨rfl,fun _=>rfl⟩
 ·refine Got.succ ?_
  simp only[spec_l4Read.j0]
  refine Got.bind (Got.of (spec_split s 46 hs) rfl:Got _ fun r=>r=piecesB s ⟨#[46]⟩) fun l hl=>?_
  subst hl
  refine Got.cond (fun h3=>Got.some ?_) fun h3=>?_
  ·have e:partB s=(0,0,0,[],0,false):=by
    unfold partB
    rw[if_neg h]
    have:(partL (piecesB s dot)).2.2=0:=by
     have h4:3<(piecesB s dot).length:=by have:((piecesB s ⟨#[46]⟩).length:Int)>3:=h3;show 3<(piecesB s ⟨#[46]⟩).length;omega
     match hp:piecesB s dot with
     | []=>rfl
     | [a]=>rw[hp] at h4;simp at h4
     | [a,b]=>rw[hp] at h4;simp at h4
     | [a,b,c]=>rw[hp] at h4;simp at h4
     | a :: b :: c :: d :: r=>rfl
    rw[if_pos this]
   rw[e]
   exact⟨rfl,fun h=>by cases h⟩
  ·have h3':(piecesB s dot).length≤3:=by have:¬((piecesB s ⟨#[46]⟩).length:Int)>3:=h3;show (piecesB s ⟨#[46]⟩).length≤3;omega
   refine Got.succ ?_
   simp only[spec_l4Read.j1]
   refine Got.of (spec_read_l (piecesB s dot) h3' (fun x hx=>by have:=pieces_mem (s:=s) (sep:=dot) (by simp[dot]) x hx;omega) (piecesB s dot).length 0 [0,0,0] (by omega) rfl) ?_
   rw[List.drop_zero]
   exact read_part s h h3'
theorem impl_part (s:ByteArray) (hs:s.size≤16777216):Ev (fun k=>impl_partOf.f k s) (partB s):=by
 unfold impl_partOf.f
 refine Ev.bind (impl_pv s hs) ?_
 unfold partB
 by_cases h:(parseV s).2.2.2.2=true
 ·simp only[h,if_true]
  exact Ev.some
 ·have hsp:strings_Split.f s (⟨#[46]⟩:ByteArray)=some (piecesB s dot):=strings_split s 46 hs
  have hne:¬(piecesB s dot).length=0:=by have:=List.length_pos_iff.2 (pieces_ne s dot);omega
  simp only[h,if_false,Bool.false_eq_true,hsp,Option.bind_some,hne]
  have hz:∀ x∈piecesB s dot,x.size≤9223372036854775807:=fun x hx=>by have:=pieces_mem (s:=s) (sep:=dot) (by simp[dot]) x hx;omega
  match hp:piecesB s dot with
  | []=>exact absurd (by rw[hp];rfl) hne
  | [a]=>
   simp only[List.length_cons,List.length_nil,show ¬3<0+1 by omega,if_false]
   show Ev (fun k=>impl_partOf.nums k [a] 1) _
   unfold impl_partOf.nums
   simp only[show 1≤2 by omega,if_true]
   show Ev (fun k=>(impl_ParseNum.f k a 9999).bind _) _
   refine Ev.bind (impl_parse a 9999) ?_
   by_cases pa:(parseM a 9999).2=true
   ·simp only[pa,if_true,Nat.sub_self,impl_partOf.rest,partL,oneP]
    exact Ev.some
   ·simp only[pa,if_false,Bool.false_eq_true,partL,oneP,if_true]
    exact Ev.some
  | [a,b]=>
   simp only[List.length_cons,List.length_nil,show ¬3<0+1+1 by omega,if_false]
   show Ev (fun k=>impl_partOf.nums k [a,b] (if b.toList=([120]:List UInt8) then 1 else 2)) _
   by_cases hb:b=exB
   ·simp only[(ex_iff b).2 hb,if_true]
    unfold impl_partOf.nums
    simp only[show 1≤2 by omega,if_true]
    show Ev (fun k=>(impl_ParseNum.f k a 9999).bind _) _
    refine Ev.bind (impl_parse a 9999) ?_
    by_cases pa:(parseM a 9999).2=true
    ·simp only[pa,if_true,Nat.sub_self,impl_partOf.rest,partL,twoP,oneP,hb]
     exact Ev.some
    ·simp only[pa,if_false,Bool.false_eq_true,partL,twoP,oneP,if_true,hb]
     exact Ev.some
   ·simp only[show ¬b.toList=([120]:List UInt8) from fun e=>hb ((ex_iff b).1 e),if_false]
    unfold impl_partOf.nums
    simp only[Nat.le_refl,if_true]
    show Ev (fun k=>(impl_ParseNum.f k a 9999).bind _) _
    refine Ev.bind (impl_parse a 9999) ?_
    by_cases pa:(parseM a 9999).2=true
    ·simp only[pa,if_true,Nat.sub_self]
     show Ev (fun k=>(impl_ParseNum.f k b 9999).bind _) _
     refine Ev.bind (impl_parse b 9999) ?_
     by_cases pb:(parseM b 9999).2=true
     ·simp only[pb,pa,if_true,impl_partOf.rest,partL,twoP,hb,if_false,and_self,show ¬2-(0+1)=0 by omega]
      exact Ev.some
     ·simp only[pb,pa,if_true,if_false,Bool.false_eq_true,partL,twoP,hb,and_false]
      exact Ev.some
    ·simp only[pa,if_false,Bool.false_eq_true,partL,twoP,hb,false_and,if_true]
     exact Ev.some
  | [a,b,c]=>
   simp only[List.length_cons,List.length_nil,show ¬3<0+1+1+1 by omega,if_false]
   show Ev (fun k=>impl_partOf.nums k [a,b,c] (if c.toList=([120]:List UInt8) then (if b.toList=([120]:List UInt8) then 1 else 2) else 3)) _
   by_cases hc:c=exB
   ·simp only[(ex_iff c).2 hc,if_true]
    by_cases hb:b=exB
    ·simp only[(ex_iff b).2 hb,if_true]
     unfold impl_partOf.nums
     simp only[show 1≤2 by omega,if_true]
     show Ev (fun k=>(impl_ParseNum.f k a 9999).bind _) _
     refine Ev.bind (impl_parse a 9999) ?_
     by_cases pa:(parseM a 9999).2=true
     ·simp only[pa,if_true,Nat.sub_self,impl_partOf.rest,partL,twoP,oneP,hb,hc]
      exact Ev.some
     ·simp only[pa,if_false,Bool.false_eq_true,partL,twoP,oneP,if_true,hb,hc]
      exact Ev.some
    ·simp only[show ¬b.toList=([120]:List UInt8) from fun e=>hb ((ex_iff b).1 e),if_false]
     unfold impl_partOf.nums
     simp only[Nat.le_refl,if_true]
     show Ev (fun k=>(impl_ParseNum.f k a 9999).bind _) _
     refine Ev.bind (impl_parse a 9999) ?_
     by_cases pa:(parseM a 9999).2=true
     ·simp only[pa,if_true,Nat.sub_self]
      show Ev (fun k=>(impl_ParseNum.f k b 9999).bind _) _
      refine Ev.bind (impl_parse b 9999) ?_
      by_cases pb:(parseM b 9999).2=true
      ·simp only[pb,pa,if_true,impl_partOf.rest,partL,twoP,hb,hc,if_false,and_self,show ¬2-(0+1)=0 by omega]
       exact Ev.some
      ·simp only[pb,pa,if_true,if_false,Bool.false_eq_true,partL,twoP,hb,hc,and_false]
       exact Ev.some
     ·simp only[pa,if_false,Bool.false_eq_true,partL,twoP,hb,hc,false_and,if_true]
      exact Ev.some
   ·simp only[show ¬c.toList=([120]:List UInt8) from fun e=>hc ((ex_iff c).1 e),if_false]
    unfold impl_partOf.nums
    simp only[show ¬3≤2 by omega,if_false,partL,hc,if_true]
    exact Ev.some
  | a :: b :: c :: d :: r=>
   simp only[List.length_cons,show 3<r.length+1+1+1+1 by omega,if_true,partL]
   exact Ev.some
def okP (p:PartR):Prop:=(-1≤p.1∧p.1≤1000000000)∧(-1≤p.2.1∧p.2.1≤1000000000)∧(-1≤p.2.2.1∧p.2.2.1≤1000000000)∧(1≤p.2.2.2.2.1∧p.2.2.2.2.1≤3)
theorem parseM_le {p:ByteArray} (h:(parseM p 9999).2=true):0≤(parseM p 9999).1∧(parseM p 9999).1≤9999:=by
 unfold parseM at h ⊢
 split at h
 next hc=>rw[if_pos hc];exact⟨by unfold valB;omega,hc.2⟩
 next=>cases h
theorem partL_ok:∀ (l:List ByteArray),(partL l).2.2≠0→(0≤(partL l).1∧(partL l).1≤9999)∧(0≤(partL l).2.1∧(partL l).2.1≤9999)∧1≤(partL l).2.2∧(partL l).2.2≤2:=by
 have one:∀ a,(oneP a).2.2≠0→(0≤(oneP a).1∧(oneP a).1≤9999)∧(0≤(oneP a).2.1∧(oneP a).2.1≤9999)∧1≤(oneP a).2.2∧(oneP a).2.2≤2:=by
  intro a h
  unfold oneP at h ⊢
  split at h
  next hc=>rw[if_pos hc];have:=parseM_le hc;exact⟨this,⟨by simp,by simp⟩,by simp,by simp⟩
  next=>exact absurd rfl h
 have two:∀ a b,(twoP a b).2.2≠0→(0≤(twoP a b).1∧(twoP a b).1≤9999)∧(0≤(twoP a b).2.1∧(twoP a b).2.1≤9999)∧1≤(twoP a b).2.2∧(twoP a b).2.2≤2:=by
  intro a b h
  unfold twoP at h ⊢
  split at h
  next hc=>rw[if_pos hc];exact one a h
  next hc=>
   rw[if_neg hc]
   split at h
   next hd=>rw[if_pos hd];exact⟨parseM_le hd.1,parseM_le hd.2,by simp,by simp⟩
   next=>exact absurd rfl h
 intro l h
 match l,h with
 | [],h=>exact absurd rfl h
 | [a],h=>exact one a h
 | [a,b],h=>exact two a b h
 | [a,b,c],h=>
  have e:partL [a,b,c]=if c=exB then twoP a b else (0,0,0):=rfl
  rw[e] at h ⊢
  by_cases hc:c=exB
  ·rw[if_pos hc] at h ⊢
   exact two a b h
  ·rw[if_neg hc] at h
   exact absurd rfl h
 | a :: b :: c :: d :: r,h=>exact absurd rfl h
theorem partB_ok {s:ByteArray} (h:(partB s).2.2.2.2.2=true):okP (partB s):=by
 unfold partB at h ⊢
 split at h
 next hv=>
  rw[if_pos hv]
  obtain⟨a0,a1,b0,b1,c0,c1,_⟩:=ver_parts (parseV_ok hv)
  exact⟨⟨by show -1≤(parseV s).1;omega,by show (parseV s).1≤_;omega⟩,⟨by show -1≤(parseV s).2.1;omega,by show (parseV s).2.1≤_;omega⟩,⟨by show -1≤(parseV s).2.2.1;omega,by show (parseV s).2.2.1≤_;omega⟩,by show (1:Int)≤3;omega,by show (3:Int)≤3;omega⟩
 next hv=>
  rw[if_neg hv]
  split at h
  next=>cases h
  next h0=>
   rw[if_neg h0]
   obtain⟨⟨x0,x1⟩,⟨y0,y1⟩,z0,z1⟩:=partL_ok _ h0
   exact⟨⟨by show -1≤(partL _).1;omega,by show (partL _).1≤_;omega⟩,⟨by show -1≤(partL _).2.1;omega,by show (partL _).2.1≤_;omega⟩,⟨by show (-1:Int)≤0;omega,by show (0:Int)≤_;omega⟩,z0,by show (partL _).2.2≤3;omega⟩
theorem partB_pre (s:ByteArray):(partB s).2.2.2.1.length≤3∧∀ x∈(partB s).2.2.2.1,x.size≤s.size:=by
 unfold partB
 split
 ·refine⟨parseV_length s,?_⟩
  show ∀ x∈(parseV s).2.2.2.1,x.size≤s.size
  unfold parseV
  split
  ·unfold readV
   split
   ·exact preQ_mem s
   ·exact fun x hx=>by simp[noVer] at hx
  ·exact fun x hx=>by simp[noVer] at hx
 ·split
  ·exact⟨Nat.zero_le _,fun x hx=>by cases hx⟩
  ·exact⟨Nat.zero_le _,fun x hx=>by cases hx⟩
theorem impl_caret_ev (a b c:Int) (l:List ByteArray) (t:Int) (ha : -1≤a∧a≤1000000000) (hb : -1≤b∧b≤1000000000) (hc : -1≤c∧c≤1000000000) (l2:List ByteArray) :
  Ev (fun k=>impl_caret.f k a b c l t) ((caretC (a,b,c,l2,t,true)).f1.f0,(caretC (a,b,c,l2,t,true)).f1.f1,(caretC (a,b,c,l2,t,true)).f1.f2,[]):=by
 have w1:wrap64 (a+1)=a+1:=wrap64_id (by omega) (by omega)
 have w2:wrap64 (b+1)=b+1:=wrap64_id (by omega) (by omega)
 have w3:wrap64 (c+1)=c+1:=wrap64_id (by omega) (by omega)
 unfold impl_caret.f
 by_cases h0:a=0
 ·subst h0
  simp only[if_true]
  refine Ev.succ ?_
  by_cases h1:t=1
  ·subst h1
   simp only[impl_caret.j0,beq_self_eq_true,if_true,w1]
   refine Ev.cast Ev.some ?_
   simp[caretC,lowC,mkC]
  ·simp only[impl_caret.j0,show (t == 1)=false by simpa using h1,Bool.false_eq_true,if_false,w2,w3]
   by_cases h2:b=0
   ·subst h2
    by_cases h3:t=2
    ·subst h3
     simp only[if_true]
     refine Ev.cast Ev.some ?_
     simp[caretC,lowC,mkC]
    ·simp only[if_true,h3,if_false]
     refine Ev.cast Ev.some ?_
     simp[caretC,lowC,mkC,h1,h3]
   ·simp only[h2,if_false]
    refine Ev.cast Ev.some ?_
    simp[caretC,lowC,mkC,h1,h2]
 ·simp only[h0,if_false]
  refine Ev.succ ?_
  simp only[impl_caret.j0,if_true,w1]
  refine Ev.cast Ev.some ?_
  simp[caretC,lowC,mkC,h0]
theorem spec_caret_ev (a b c:Int) (l:List ByteArray) (t:Int) (o:Bool) (ha : -1≤a∧a≤1000000000) (hb : -1≤b∧b≤1000000000) (hc : -1≤c∧c≤1000000000) (l2:List ByteArray) :
  Ev (fun k=>spec_l4Caret.f k a b c l t o) ((caretC (a,b,c,l2,t,true)).f1.f0,(caretC (a,b,c,l2,t,true)).f1.f1,(caretC (a,b,c,l2,t,true)).f1.f2,[]):=by
 have w1:wrap64 (a+1)=a+1:=wrap64_id (by omega) (by omega)
 have w2:wrap64 (b+1)=b+1:=wrap64_id (by omega) (by omega)
 have w3:wrap64 (c+1)=c+1:=wrap64_id (by omega) (by omega)
 unfold spec_l4Caret.f
 by_cases h0:a=0
 ·subst h0
  simp only[if_true]
  refine Ev.succ ?_
  by_cases h1:t=1
  ·subst h1
   simp only[spec_l4Caret.j0,beq_self_eq_true,if_true,w1]
   refine Ev.cast Ev.some ?_
   simp[caretC,lowC,mkC]
  ·simp only[spec_l4Caret.j0,show (t == 1)=false by simpa using h1,Bool.false_eq_true,if_false,w2,w3]
   by_cases h2:b=0
   ·subst h2
    by_cases h3:t=2
    ·subst h3
     simp only[if_true]
     refine Ev.cast Ev.some ?_
     simp[caretC,lowC,mkC]
    ·simp only[if_true,h3,if_false]
     refine Ev.cast Ev.some ?_
     simp[caretC,lowC,mkC,h1,h3]
   ·simp only[h2,if_false]
    refine Ev.cast Ev.some ?_
    simp[caretC,lowC,mkC,h1,h2]
 ·simp only[h0,if_false]
  refine Ev.succ ?_
  simp only[spec_l4Caret.j0,if_true,w1]
  refine Ev.cast Ev.some ?_
  simp[caretC,lowC,mkC,h0]
theorem caret_low (p:PartR):caretC p=lowC (caretC p).f1.f0 (caretC p).f1.f1 (caretC p).f1.f2:=by
 unfold caretC
 split
 ·rfl
 split
 ·rfl
 ·rfl
def signsOk (g:List UInt8):Prop:=g=[94]∨g=[126]∨g=[62,61]∨g=[62]∨g=[60,61]∨g=[60]∨g=[61]∨g=[]
theorem impl_make (g:ByteArray) (hg:signsOk g.toList) (p:PartR) (hp:okP p):Ev (fun k=>impl_wordCmps.f k g p.1 p.2.1 p.2.2.1 p.2.2.2.1 p.2.2.2.2.1) (makeC g.toList p):=by
  obtain⟨a,b,c,l,t,o⟩:=p
  obtain⟨ha,hb,hc,ht⟩:=hp
  simp only at ha hb hc ht
  have w1:wrap64 (a+1)=a+1:=wrap64_id (by omega) (by omega)
  have w2:wrap64 (b+1)=b+1:=wrap64_id (by omega) (by omega)
  have w3:wrap64 (c+1)=c+1:=wrap64_id (by omega) (by omega)
  have hcar:=impl_caret_ev a b c l t ha hb hc l
  have hlow:=caret_low (a,b,c,l,t,true)
  have hm:mn t 2=if t=1 then 1 else 2:=by unfold mn;split <;> omega
  unfold impl_wordCmps.f impl_nextOf.f impl_below.f
  rcases (show t=1∨t=2∨t=3 by omega) with rfl|rfl|rfl <;> rcases hg with e|e|e|e|e|e|e|e <;> rw[e] <;>
    first
    | (refine Ev.cast (Ev.const (by simp[w1,w2,w3,hm];rfl)) ?_;simp[makeC,fromC,lowC,mkC,nextC];done)
    | (simp only[Option.bind_some,if_true,if_false,w1,w2,w3,show ¬(2:Int)=1 by decide,show ¬(3:Int)=1 by decide,show ¬(3:Int)=2 by decide,show ¬([94]:List UInt8)=[62,61] by decide,show ¬([94]:List UInt8)=[60] by decide,show ¬([94]:List UInt8)=[62] by decide,show ¬([94]:List UInt8)=[60,61] by decide,show ¬([94]:List UInt8)=[126] by decide]
       refine Ev.bind hcar (Ev.cast Ev.some ?_)
       show [mkC 4 a b c l,lowC _ _ _]=_
       unfold makeC
       rw[if_pos rfl]
       show _=[fromC (a,b,c,l,_,o),caretC (a,b,c,l,_,true)]
       rw[hlow]
       rfl)
theorem spec_make (g:ByteArray) (hg:signsOk g.toList) (p:PartR) (hp:okP p):Ev (fun k=>spec_l4Make.f k g p.1 p.2.1 p.2.2.1 p.2.2.2.1 p.2.2.2.2.1 p.2.2.2.2.2) (makeC g.toList p):=by
  obtain⟨a,b,c,l,t,o⟩:=p
  obtain⟨ha,hb,hc,ht⟩:=hp
  simp only at ha hb hc ht
  have w1:wrap64 (a+1)=a+1:=wrap64_id (by omega) (by omega)
  have w2:wrap64 (b+1)=b+1:=wrap64_id (by omega) (by omega)
  have hcar:=spec_caret_ev a b c l t o ha hb hc l
  have hlow:=caret_low (a,b,c,l,t,true)
  by_cases h94:g.toList=[94]
  · unfold spec_l4Make.f spec_l4From.f spec_l4Below.f
    rw[h94]
    simp only[if_true,Option.bind_some]
    refine Ev.bind hcar (Ev.cast Ev.some ?_)
    show [mkC 4 a b c l,lowC _ _ _]=_
    unfold makeC
    rw[if_pos rfl]
    show _=[fromC (a,b,c,l,_,o),caretC (a,b,c,l,_,true)]
    rw[hlow]
    rfl
  · have hg':signsOk g.toList:=hg
    unfold spec_l4Make.f spec_l4From.f spec_l4Below.f spec_l4Tilde.f
    rcases hg with e|e|e|e|e|e|e|e
    · exact absurd e h94
    all_goals rw[e]
    all_goals rcases (show t=1∨t=2∨t=3 by omega) with rfl|rfl|rfl
    all_goals first
      | (refine Ev.cast (Ev.const (by simp[w1,w2];rfl)) ?_;simp[makeC,fromC,lowC,mkC,nextC];done)
      | (simp
         refine Ev.succ ?_
         simp only[spec_l4Make.j0,e]
         first
         | (refine Ev.cast (Ev.const (by simp[w1,w2,spec_l4Next.f];rfl)) ?_;simp[makeC,fromC,lowC,mkC,nextC];done)
         | (simp
            refine Ev.succ ?_
            simp only[spec_l4Make.j1,e]
            refine Ev.cast (Ev.const (by simp[w1,w2,spec_l4Next.f,spec_l4From.f,spec_l4Below.f];rfl)) ?_
            simp[makeC,fromC,lowC,mkC,nextC]))
def stS (x:S34):Prop:=x.f1.f3.length≤9223372036854775807∧∀ s∈x.f1.f3,s.size≤9223372036854775807
theorem star_iff (w:ByteArray):w.toList=([42]:List UInt8)↔w.data.toList=[42]:=by rw[toList_data]
theorem signs_ok:∀ g∈impl_cmpsOf.signs,signsOk g.toList:=by
 intro g hg
 rw[toList_data]
 simp only[impl_cmpsOf.signs,List.mem_cons,List.not_mem_nil,or_false] at hg
 unfold signsOk
 rcases hg with rfl|rfl|rfl|rfl|rfl|rfl|rfl|rfl <;> simp
theorem signs_data:impl_cmpsOf.signs.map (fun g=>g.data.toList)=signsL:=rfl
theorem impl_word_go (w:ByteArray) (hw:w.size≤16777216):∀ gs:List ByteArray,(∀ g∈gs,signsOk g.toList)→Ev (fun k=>impl_cmpsOf.go k w gs) (wordGo w.data.toList (gs.map fun g=>g.data.toList))
 | [],_=>Ev.some
 | g :: r,h=>by
  have ih:=impl_word_go w hw r (fun x hx=>h x (by simp[hx]))
  have hcp:strings_CutPrefix.f w g=some (⟨(Lib.trimPrefix w.data.toList g.data.toList).toArray⟩,Lib.hasPrefix w.data.toList g.data.toList):=rfl
  show Ev (fun k=>(strings_CutPrefix.f w g).bind _) (wordGo w.data.toList (g.data.toList :: r.map fun g=>g.data.toList))
  rw[hcp]
  simp only[Option.bind_some]
  unfold wordGo Lib.trimPrefix Lib.hasPrefix
  by_cases hp:g.data.toList.isPrefixOf w.data.toList=true
  ·rw[if_pos hp]
   have hs:(ofL (w.data.toList.drop g.data.toList.length)).size≤16777216:=by
    rw[ofL_size,List.length_drop]
    have:w.data.toList.length=w.size:=by simp
    omega
   simp only[hp,if_true]
   refine Ev.bind (impl_part (ofL (w.data.toList.drop g.data.toList.length)) hs) ?_
   by_cases ho:(partB (ofL (w.data.toList.drop g.data.toList.length))).2.2.2.2.2=true
   ·simp only[ho,if_true]
    have hm:=impl_make g (h g (by simp)) _ (partB_ok ho)
    rw[toList_data] at hm
    exact Ev.bind hm Ev.some
   ·simp only[ho,if_false,Bool.false_eq_true]
    exact Ev.some
  ·rw[if_neg hp]
   simp only[hp,if_false,Bool.false_eq_true]
   exact ih
theorem impl_word (w:ByteArray) (hw:w.size≤16777216):Ev (fun k=>impl_cmpsOf.f k w) (wordC w):=by
 unfold impl_cmpsOf.f wordC
 by_cases h:w.data.toList=[42]
 ·simp only[(star_iff w).2 h,h,if_true]
  exact Ev.some
 ·have h':¬w.toList=([42]:List UInt8):=fun e=>h ((star_iff w).1 e)
  simp only[h',h,if_false]
  have:=impl_word_go w hw impl_cmpsOf.signs signs_ok
  rw[signs_data] at this
  exact this
theorem prefix_extract (w g:ByteArray) (h:g.size≤w.size):((w.extract 0 g.size).toList == g.toList)=g.data.toList.isPrefixOf w.data.toList:=by
 rw[Bool.eq_iff_iff,beq_iff_eq,List.isPrefixOf_iff_prefix,toList_data,toList_data,extract_ofL,data_ofL,List.drop_zero,Nat.sub_zero,List.prefix_iff_eq_take]
 have:g.data.toList.length=g.size:=by simp
 rw[this]
 exact⟨fun e=>e.symm,fun e=>e.symm⟩
theorem no_prefix (w g:ByteArray) (h:¬g.size≤w.size):g.data.toList.isPrefixOf w.data.toList=false:=by
 rw[Bool.eq_false_iff]
 intro e
 have:=(List.isPrefixOf_iff_prefix.1 e).length_le
 have h1:g.data.toList.length=g.size:=by simp
 have h2:w.data.toList.length=w.size:=by simp
 omega
theorem spec_word_go (w:ByteArray) (hw:w.size≤16777216) (gs:List ByteArray) (hgs:∀ g∈gs,signsOk g.toList) (hgl:gs.length≤100) (d:Nat):∀ i:Nat,i+d=gs.length →
  Ev (fun k=>spec_l4Word.l0 k w gs (i:Int)) (wordGo w.data.toList ((gs.drop i).map fun g=>g.data.toList)):=by
 induction d with
 | zero=>
  intro i hi
  refine Ev.succ ?_
  rw[List.drop_eq_nil_of_le (by omega)]
  simp only[spec_l4Word.l0,show ¬(i:Int)<(gs.length:Int) by omega,if_false]
  exact Ev.some
 | succ d ih=>
  intro i hi
  have hlt:i<gs.length:=by omega
  have h1:(i:Int)<(gs.length:Int):=by omega
  have h2:(0:Int)≤(i:Int):=by omega
  have h3:=next_i hlt (by omega)
  have ih':=ih (i+1) (by omega)
  have hok:=hgs _ (List.getElem_mem hlt)
  refine Ev.succ ?_
  rw[drop_get hlt,List.map_cons]
  unfold wordGo
  simp only[spec_l4Word.l0,h1,if_true]
  refine Ev.succ ?_
  simp only[spec_l4Word.j2,h1,h2,if_true,rdOf_cast _ hlt]
  have h4:(0:Int)≤(gs[i].size:Int):=by omega
  by_cases hz:gs[i].size≤w.size
  ·have h5:(w.size:Int)≥(gs[i].size:Int):=by omega
   have h6:(gs[i].size:Int)≤(w.size:Int):=by omega
   simp only[h4,h5,h6,if_true,Int.toNat_natCast,prefix_extract w gs[i] hz]
   refine Ev.succ ?_
   by_cases hp:gs[i].data.toList.isPrefixOf w.data.toList=true
   ·rw[if_pos hp]
    simp only[spec_l4Word.j3,hp,h4,h6,if_true,Int.toNat_natCast,h1,h2,rdOf_cast _ hlt]
    have he:w.extract gs[i].size w.size=ofL (w.data.toList.drop gs[i].data.toList.length):=by
     have e1:gs[i].data.toList.length=gs[i].size:=by simp
     have e2:w.data.toList.length=w.size:=by simp
     rw[extract_ofL,List.take_of_length_le (by rw[List.length_drop];omega),e1]
    have hs:(ofL (w.data.toList.drop gs[i].data.toList.length)).size≤16777216:=by
     rw[ofL_size,List.length_drop]
     have:w.data.toList.length=w.size:=by simp
     omega
    rw[he]
    obtain⟨p,hp1,hp2,hp3⟩:=spec_read _ hs
    refine Ev.bind hp1 ?_
    by_cases ho:(partB (ofL (w.data.toList.drop gs[i].data.toList.length))).2.2.2.2.2=true
    ·rw[hp3 ho]
     simp only[ho,if_true]
     have hm:=spec_make gs[i] hok _ (partB_ok ho)
     rw[ho,toList_data] at hm
     exact Ev.bind hm Ev.some
    ·rw[hp2]
     simp only[ho,if_false,Bool.false_eq_true]
     exact Ev.some
   ·rw[if_neg hp]
    simp only[spec_l4Word.j3,hp,if_false,Bool.false_eq_true,h3]
    exact ih'
  ·have h5:¬(w.size:Int)≥(gs[i].size:Int):=by omega
   rw[no_prefix w gs[i] hz]
   simp only[h5,if_false,Bool.false_eq_true]
   refine Ev.succ ?_
   simp only[spec_l4Word.j3,if_false,Bool.false_eq_true,h3]
   exact ih'
theorem spec_word (w:ByteArray) (hw:w.size≤16777216):Ev (fun k=>spec_l4Word.f k w) (wordC w):=by
 unfold spec_l4Word.f wordC
 by_cases h:w.data.toList=[42]
 ·simp only[(star_iff w).2 h,h,if_true]
  exact Ev.some
 ·have h':¬w.toList=([42]:List UInt8):=fun e=>h ((star_iff w).1 e)
  simp only[h',h,if_false]
  refine Ev.succ ?_
  simp only[spec_l4Word.j0]
  have:=spec_word_go w hw impl_cmpsOf.signs signs_ok (by decide) 8 0 rfl
  rw[List.drop_zero,signs_data] at this
  exact this
def smallC (x:CmpT):Prop:=x.f1.f3.length≤3∧∀ z∈x.f1.f3,z.size≤16777216
theorem smallC.st {x:CmpT} (h:smallC x):stS x:=⟨by have:=h.1;omega,fun z hz=>by have:=h.2 z hz;omega⟩
theorem small_mk (op a b c:Int) (l:List ByteArray) (h:l.length≤3∧∀ z∈l,z.size≤16777216):smallC (mkC op a b c l):=h
theorem small_low (a b c:Int):smallC (lowC a b c):=⟨by show (1:Nat)≤3;omega,fun z hz=>by
 have:z∈[(⟨#[48]⟩:ByteArray)]:=hz
 rw[List.mem_singleton.1 this]
 decide⟩
theorem small_make (sg:List UInt8) (p:PartR) (h:p.2.2.2.1.length≤3∧∀ z∈p.2.2.2.1,z.size≤16777216):∀ x∈makeC sg p,smallC x:=by
 have h0:∀ op a b c,smallC (mkC op a b c ([]:List ByteArray)):=fun op a b c=>small_mk _ _ _ _ _ ⟨Nat.zero_le _,fun z hz=>by cases hz⟩
 have hf:smallC (fromC p):=small_mk _ _ _ _ _ h
 have hc:smallC (caretC p):=by rw[caret_low];exact small_low _ _ _
 intro x hx
 unfold makeC at hx
 split at hx
 ·simp only[List.mem_cons,List.not_mem_nil,or_false] at hx
  rcases hx with rfl|rfl
  ·exact hf
  ·exact hc
 split at hx
 ·simp only[List.mem_cons,List.not_mem_nil,or_false] at hx
  rcases hx with rfl|rfl
  ·exact hf
  ·exact small_low _ _ _
 split at hx
 ·rw[List.mem_singleton.1 hx];exact hf
 split at hx
 ·rw[List.mem_singleton.1 hx];exact small_mk _ _ _ _ _ h
 split at hx
 ·split at hx
  ·rw[List.mem_singleton.1 hx];exact small_mk _ _ _ _ _ h
  ·rw[List.mem_singleton.1 hx];exact h0 _ _ _ _
 split at hx
 ·split at hx
  ·rw[List.mem_singleton.1 hx];exact small_mk _ _ _ _ _ h
  ·rw[List.mem_singleton.1 hx];exact small_low _ _ _
 split at hx
 ·rw[List.mem_singleton.1 hx];exact small_mk _ _ _ _ _ h
 ·simp only[List.mem_cons,List.not_mem_nil,or_false] at hx
  rcases hx with rfl|rfl
  ·exact hf
  ·exact small_low _ _ _
theorem small_go (w:List UInt8) (hw:w.length≤16777216):∀ l,∀ x∈(wordGo w l).1,smallC x
 | [],x,h=>by simp[wordGo] at h
 | g :: r,x,h=>by
  unfold wordGo at h
  split at h
  ·split at h
   ·have hp:=partB_pre (ofL (w.drop g.length))
    refine small_make _ _ ⟨hp.1,fun z hz=>?_⟩ x h
    have:=hp.2 z hz
    rw[ofL_size,List.length_drop] at this
    omega
   ·simp at h
  ·exact small_go w hw r x h
theorem small_word (w:ByteArray) (hw:w.size≤16777216):∀ x∈(wordC w).1,smallC x:=by
  intro x h
  unfold wordC at h
  split at h
  · rw[List.mem_singleton.1 h]
    exact small_mk _ _ _ _ _ ⟨Nat.zero_le _,fun z hz=>by cases hz⟩
  · exact small_go _ (by have:w.data.toList.length=w.size:=by simp
                         omega) _ x h
theorem small_ver (op:Int) (s:ByteArray) (hs:s.size≤16777216):smallC (verC op (parseV s)):=by
 refine small_mk _ _ _ _ _ ⟨parseV_length s,?_⟩
 show ∀ z∈(parseV s).2.2.2.1,z.size≤16777216
 unfold parseV
 split
 ·unfold readV
  split
  ·exact fun z hz=>by have:=preQ_mem s z hz;omega
  ·exact fun x hx=>by simp[noVer] at hx
 ·exact fun x hx=>by simp[noVer] at hx
def goW (out:List CmpT) (ws:List ByteArray):Option (List CmpT):=(wordsC ws).map (out ++ ·)
theorem goW_cons (out:List CmpT) (w:ByteArray) (r:List ByteArray):goW out (w :: r)=if (wordC w).2=true then goW (out++(wordC w).1) r else none:=by
 unfold goW
 rw[wordsC]
 split
 ·cases wordsC r with
  | none=>rfl
  | some o=>simp
 ·rfl
theorem impl_good (out:List CmpT) (hs:∀ x∈out,smallC x) (hl:out.length≤9223372036854775807) (d:Nat):∀ i:Nat,i+d=out.length →
  Ev (fun k=>impl_listOf.l1 k out out (out.length:Int) (i:Int)) (if (out.drop i).all okV=true then (out,decide ((out.length:Int)≤4)) else ([],false)):=by
 induction d with
 | zero=>
  intro i hi
  refine Ev.succ ?_
  rw[List.drop_eq_nil_of_le (by omega)]
  simp only[impl_listOf.l1,show ¬(i:Int)<(out.length:Int) by omega,if_false,List.all_nil,if_true]
  exact Ev.some
 | succ d ih=>
  intro i hi
  have hlt:i<out.length:=by omega
  have h1:(i:Int)<(out.length:Int):=by omega
  have h2:(0:Int)≤(i:Int):=by omega
  have h3:=next_i hlt hl
  have hg:rd_T34 out (i:Int)=out[i]:=rdD_cast _ hlt
  have hst:=(hs _ (List.getElem_mem hlt)).st
  have ih':=ih (i+1) (by omega)
  refine Ev.succ ?_
  rw[drop_get hlt,List.all_cons]
  simp only[impl_listOf.l1,h1,h2,h3,if_true,hg]
  refine Ev.bind (impl_ver _ _ _ _ hst.1 hst.2) ?_
  rw[show verB out[i].f1.f0 out[i].f1.f1 out[i].f1.f2 out[i].f1.f3=okV out[i] from rfl]
  cases okV out[i] with
  | true=>
   simp only[if_true,Bool.true_and]
   exact ih'
  | false=>
   simp only[Bool.false_eq_true,if_false,Bool.false_and]
   exact Ev.some
theorem spec_good (out:List CmpT) (hs:∀ x∈out,smallC x) (hl:out.length≤9223372036854775807) (d:Nat):∀ i:Nat,i+d=out.length →
  Ev (fun k=>spec_l4Good.l0 k out (i:Int)) ((out.drop i).all okV):=by
 induction d with
 | zero=>
  intro i hi
  refine Ev.succ ?_
  rw[List.drop_eq_nil_of_le (by omega)]
  simp only[spec_l4Good.l0,show ¬(i:Int)<(out.length:Int) by omega,if_false,List.all_nil]
  exact Ev.some
 | succ d ih=>
  intro i hi
  have hlt:i<out.length:=by omega
  have h1:(i:Int)<(out.length:Int):=by omega
  have h2:(0:Int)≤(i:Int):=by omega
  have h3:=next_i hlt hl
  have hg:rd_T34 out (i:Int)=out[i]:=rdD_cast _ hlt
  have hst:=(hs _ (List.getElem_mem hlt)).st
  have ih':=ih (i+1) (by omega)
  refine Ev.succ ?_
  rw[drop_get hlt,List.all_cons]
  simp only[spec_l4Good.l0,h1,h2,h3,if_true,hg]
  refine Ev.bind (spec_ver _ _ _ _ hst.1 hst.2) ?_
  rw[show verB out[i].f1.f0 out[i].f1.f1 out[i].f1.f2 out[i].f1.f3=okV out[i] from rfl]
  cases okV out[i] with
  | true=>
   simp only[if_true,Bool.true_and]
   exact ih'
  | false=>
   simp only[Bool.false_eq_true,if_false,Bool.false_and]
   exact Ev.some
def endW (o:Option (List CmpT)):Option (List CmpT):=o.bind fun out=>if out.all okV=true∧out.length≤4 then some out else none
def isL (o:Option (List CmpT)) (r:List CmpT × Bool):Prop:=match o with|some x=>r=(x,true)|none=>r.2=false
theorem impl_words (ws:List ByteArray) (hws:∀ w∈ws,w.size≤16777216) (hl:ws.length≤16777217) (d:Nat):∀ (i:Nat) (out:List CmpT),i+d=ws.length→out.length≤2*i→(∀ x∈out,smallC x) →
  Got (fun k=>impl_listOf.l0 k out ws (ws.length:Int) (i:Int)) (isL (endW (goW out (ws.drop i)))):=by
 induction d with
 | zero=>
  intro i out hi ho hs
  refine Got.succ ?_
  rw[List.drop_eq_nil_of_le (by omega)]
  simp only[impl_listOf.l0,show ¬(i:Int)<(ws.length:Int) by omega,if_false]
  have hg:=impl_good out hs (by omega) out.length 0 (by omega)
  rw[List.drop_zero] at hg
  refine Got.of hg ?_
  have e:endW (goW out [])=if out.all okV=true∧out.length≤4 then some out else none:=by simp[endW,goW,wordsC]
  rw[e]
  by_cases ha:out.all okV=true
  ·rw[if_pos ha]
   by_cases h4:out.length≤4
   ·rw[if_pos ⟨ha,h4⟩]
    show (out,decide ((out.length:Int)≤4))=(out,true)
    rw[show decide ((out.length:Int)≤4)=true from decide_eq_true (by omega)]
   ·rw[if_neg (fun h=>h4 h.2)]
    show decide ((out.length:Int)≤4)=false
    exact decide_eq_false (by omega)
  ·rw[if_neg ha,if_neg (fun h=>ha h.1)]
   rfl
 | succ d ih=>
  intro i out hi ho hs
  have hlt:i<ws.length:=by omega
  have h1:(i:Int)<(ws.length:Int):=by omega
  have h2:(0:Int)≤(i:Int):=by omega
  have h3:=next_i hlt (by omega)
  have hw:=hws _ (List.getElem_mem hlt)
  have hwl:=wordC_length ws[i]
  have h4:out.length+(wordC ws[i]).1.length<2513169434916:=by omega
  have hlen:(out++(wordC ws[i]).1).length≤2*(i+1):=by rw[List.length_append];omega
  refine Got.succ ?_
  rw[drop_get hlt,goW_cons]
  simp only[impl_listOf.l0,h1,h2,h3,if_true,rdOf_cast _ hlt]
  refine Got.bind (Got.of (impl_word ws[i] hw) rfl:Got _ fun r=>r=wordC ws[i]) fun r hr=>?_
  subst hr
  by_cases hk:(wordC ws[i]).2=true
  ·simp only[hk,if_true,h4]
   refine ih (i+1) _ (by omega) hlen fun x hx=>?_
   rcases List.mem_append.1 hx with hx|hx
   ·exact hs x hx
   ·exact small_word _ hw x hx
  ·simp only[hk,if_false,Bool.false_eq_true]
   exact Got.some rfl
theorem spec_words (ws:List ByteArray) (hws:∀ w∈ws,w.size≤16777216) (hl:ws.length≤16777217) (d:Nat):∀ (i:Nat) (out:List CmpT),i+d=ws.length→out.length≤2*i→(∀ x∈out,smallC x) →
  Got (fun k=>spec_l4List.l0 k ws out (i:Int)) fun r=>(∀ x∈r.1,smallC x)∧r.1.length≤2*ws.length∧endW (goW out (ws.drop i))=if r.2=true∧r.1.all okV=true then some r.1 else none:=by
 induction d with
 | zero=>
  intro i out hi ho hs
  refine Got.succ ?_
  rw[List.drop_eq_nil_of_le (by omega)]
  simp only[spec_l4List.l0,show ¬(i:Int)<(ws.length:Int) by omega,if_false]
  refine Got.some ⟨hs,by show out.length≤_;omega,?_⟩
  have e:endW (goW out [])=if out.all okV=true∧out.length≤4 then some out else none:=by simp[endW,goW,wordsC]
  rw[e]
  show _=if decide ((out.length:Int)≤4)=true∧out.all okV=true then some out else none
  by_cases ha:out.all okV=true
  ·by_cases h4:out.length≤4
   ·rw[if_pos ⟨ha,h4⟩,if_pos ⟨decide_eq_true (by omega),ha⟩]
   ·rw[if_neg (fun h=>h4 h.2),if_neg (fun h=>h4 (by have:=of_decide_eq_true h.1;omega))]
  ·rw[if_neg (fun h=>ha h.1),if_neg (fun h=>ha h.2)]
 | succ d ih=>
  intro i out hi ho hs
  have hlt:i<ws.length:=by omega
  have h1:(i:Int)<(ws.length:Int):=by omega
  have h2:(0:Int)≤(i:Int):=by omega
  have h3:=next_i hlt (by omega)
  have hw:=hws _ (List.getElem_mem hlt)
  have hwl:=wordC_length ws[i]
  have h4:out.length+(wordC ws[i]).1.length<2513169434916:=by omega
  have hlen:(out++(wordC ws[i]).1).length≤2*(i+1):=by rw[List.length_append];omega
  have hol:out.length≤2*ws.length:=by omega
  refine Got.succ ?_
  rw[drop_get hlt,goW_cons]
  simp only[spec_l4List.l0,h1,h2,h3,if_true,rdOf_cast _ hlt]
  refine Got.bind (Got.of (spec_word ws[i] hw) rfl:Got _ fun r=>r=wordC ws[i]) fun r hr=>?_
  subst hr
  by_cases hk:(wordC ws[i]).2=true
  ·simp only[hk,if_true,h4]
   refine ih (i+1) _ (by omega) hlen fun x hx=>?_
   rcases List.mem_append.1 hx with hx|hx
   ·exact hs x hx
   ·exact small_word _ hw x hx
  ·simp only[hk,if_false,Bool.false_eq_true]
   exact Got.some ⟨hs,hol,by simp[endW]⟩
theorem goW_nil (ws:List ByteArray):goW [] ws=wordsC ws:=by
 unfold goW
 cases wordsC ws <;> rfl
theorem list_dash (a m b:ByteArray):listC [a,m,b]=if m=dashB then (if (parseV a).2.2.2.2=true∧(parseV b).2.2.2.2=true then some [verC 4 (parseV a),verC 2 (parseV b)] else none) else endW (wordsC [a,m,b]):=rfl
theorem list_other (ws:List ByteArray) (h:ws.length≠3):listC ws=endW (wordsC ws):=by
 match ws,h with
 | [],_=>rfl
 | [_],_=>rfl
 | [_,_],_=>rfl
 | [_,_,_],h=>exact absurd rfl h
 | _ :: _ :: _ :: _ :: _,_=>rfl
theorem dash_iff (m:ByteArray):(m.toList == ([45]:List UInt8))=decide (m=dashB):=by
 rw[Bool.eq_iff_iff,beq_iff_eq,decide_eq_true_eq,show ([45]:List UInt8)=dashB.toList from by rw[toList_data];rfl]
 exact toList_inj
theorem pair_ok (a b:ByteArray) (ha:(parseV a).2.2.2.2=true) (hb:(parseV b).2.2.2.2=true):[verC 4 (parseV a),verC 2 (parseV b)].all okV=true:=by
 have h1:=parseV_ok ha
 have h2:=parseV_ok hb
 simp only[List.all_cons,List.all_nil,Bool.and_true,Bool.and_eq_true]
 exact⟨h1,h2⟩
theorem impl_list_j (ws:List ByteArray) (hws:∀ w∈ws,w.size≤16777216) (hl:ws.length≤16777217):Got (fun k=>impl_listOf.j0 k ws false) (isL (endW (wordsC ws))):=by
 refine Got.succ ?_
 simp only[impl_listOf.j0,Bool.false_eq_true,if_false]
 refine Got.succ ?_
 simp only[impl_listOf.j1]
 have:=impl_words ws hws hl ws.length 0 [] (by omega) (by simp) (by simp)
 rw[List.drop_zero,goW_nil] at this
 exact this
theorem impl_list_w (ws:List ByteArray) (hws:∀ w∈ws,w.size≤16777216) (hl:ws.length≤16777217) :
  Got (fun k=>if (ws.length:Int)=3 then (if 1<(ws.length:Int) then impl_listOf.j0 k ws ((rdOf ByteArray.empty ws 1).toList == ([45]:List UInt8)) else none) else impl_listOf.j0 k ws false) (isL (listC ws)):=by
 by_cases h3:ws.length=3
 ·match ws,h3 with
  | [a,m,b],_=>
   simp only[List.length_cons,List.length_nil,show ((0+1+1+1:Nat):Int)=3 from rfl,if_true,show (1:Int)<3 by decide,show rdOf ByteArray.empty [a,m,b] 1=m from rfl,dash_iff]
   rw[list_dash]
   by_cases hm:m=dashB
   ·rw[if_pos hm]
    simp only[hm,decide_true]
    refine Got.succ ?_
    simp only[impl_listOf.j0,if_true,List.length_cons,List.length_nil,show (0:Int)<((0+1+1+1:Nat):Int) by decide,show (2:Int)<((0+1+1+1:Nat):Int) by decide,show rdOf ByteArray.empty [a,dashB,b] 0=a from rfl,show rdOf ByteArray.empty [a,dashB,b] 2=b from rfl]
    refine Got.bind (Got.of (impl_pv a (hws a (by simp))) rfl:Got _ fun r=>r=parseV a) fun r hr=>?_
    subst hr
    refine Got.bind (Got.of (impl_pv b (hws b (by simp))) rfl:Got _ fun r=>r=parseV b) fun r hr=>?_
    subst hr
    simp only[Option.bind_some]
    by_cases ha:(parseV a).2.2.2.2=true
    ·simp only[ha,if_true,true_and]
     refine Got.some ?_
     by_cases hb:(parseV b).2.2.2.2=true
     ·rw[if_pos hb,hb]
      rfl
     ·rw[if_neg hb]
      show (parseV b).2.2.2.2=false
      simpa using hb
    ·simp only[ha,if_false,Bool.false_eq_true,false_and]
     exact Got.some rfl
   ·rw[if_neg hm]
    simp only[hm,decide_false]
    exact impl_list_j _ hws hl
 ·simp only[show ¬(ws.length:Int)=3 by omega,if_false]
  rw[list_other ws h3]
  exact impl_list_j _ hws hl
theorem blank_pieces {s:ByteArray} (hs:s.size≤16777216):(∀ w∈piecesB s blank1,w.size≤16777216)∧(piecesB s blank1).length≤16777217:=by
 have h:=pieces_length (s:=s) (sep:=blank1) (Nat.le_refl _)
 exact⟨fun w hw=>by have:=pieces_mem (sep:=blank1) (by simp[blank1]) w hw;omega,by omega⟩
theorem impl_side (s:ByteArray) (hs:s.size≤16777216):Got (fun k=>impl_listOf.f k s) (isL (sideC s)):=by
 have ht:=trimQ_size s
 have hp:=blank_pieces (s:=trimQ s) (by omega)
 have h1:strings_Trim.f s (⟨#[32]⟩:ByteArray)=some (trimQ s):=strings_trim s (by omega)
 have h2:strings_Split.f (trimQ s) (⟨#[32]⟩:ByteArray)=some (piecesB (trimQ s) blank1):=strings_split _ 32 (by omega)
 unfold impl_listOf.f
 simp only[h1,h2,Option.bind_some]
 exact impl_list_w _ hp.1 hp.2
theorem spec_list_j (ws:List ByteArray) (hws:∀ w∈ws,w.size≤16777216) (hl:ws.length≤16777217):Got (fun k=>spec_l4List.j0 k ws [] false) fun r=>(∀ x∈r.1,smallC x)∧r.1.length≤33554434∧endW (wordsC ws)=if r.2=true∧r.1.all okV=true then some r.1 else none:=by
 refine Got.succ ?_
 simp only[spec_l4List.j0,Bool.false_eq_true,if_false]
 refine Got.succ ?_
 simp only[spec_l4List.j1]
 have:=spec_words ws hws hl ws.length 0 [] (by omega) (by simp) (by simp)
 rw[List.drop_zero,goW_nil] at this
 exact Got.mono this fun r hr=>⟨hr.1,by have:=hr.2.1;omega,hr.2.2⟩
theorem spec_list_w (ws:List ByteArray) (hws:∀ w∈ws,w.size≤16777216) (hl:ws.length≤16777217) :
  Got (fun k=>spec_l4List.f k ws) fun r=>(∀ x∈r.1,smallC x)∧r.1.length≤33554434∧listC ws=if r.2=true∧r.1.all okV=true then some r.1 else none:=by
 unfold spec_l4List.f
 simp only[Option.bind_some]
 by_cases h3:ws.length=3
 ·match ws,h3 with
  | [a,m,b],_=>
   simp only[List.length_cons,List.length_nil,show ((0+1+1+1:Nat):Int)=3 from rfl,if_true,show (1:Int)<3 by decide,show rdOf ByteArray.empty [a,m,b] 1=m from rfl,dash_iff]
   rw[list_dash]
   by_cases hm:m=dashB
   ·rw[if_pos hm]
    simp only[hm,decide_true]
    refine Got.succ ?_
    simp only[spec_l4List.j0,if_true,List.length_cons,List.length_nil,show (0:Int)<((0+1+1+1:Nat):Int) by decide,show (2:Int)<((0+1+1+1:Nat):Int) by decide,show rdOf ByteArray.empty [a,dashB,b] 0=a from rfl,show rdOf ByteArray.empty [a,dashB,b] 2=b from rfl]
    refine Got.bind (Got.of (spec_pv a (hws a (by simp))) rfl:Got _ fun r=>r=parseV a) fun r hr=>?_
    subst hr
    refine Got.bind (Got.of (spec_pv b (hws b (by simp))) rfl:Got _ fun r=>r=parseV b) fun r hr=>?_
    subst hr
    have hsm:∀ x∈[verC 4 (parseV a),verC 2 (parseV b)],smallC x:=by
     intro x hx
     simp only[List.mem_cons,List.not_mem_nil,or_false] at hx
     rcases hx with rfl|rfl
     ·exact small_ver _ _ (hws a (by simp))
     ·exact small_ver _ _ (hws b (by simp))
    simp only[Option.bind_some]
    by_cases ha:(parseV a).2.2.2.2=true
    ·simp only[ha,if_true,true_and]
     refine Got.some ⟨hsm,by show (2:Nat)≤_;omega,?_⟩
     by_cases hb:(parseV b).2.2.2.2=true
     ·rw[if_pos hb,if_pos ⟨hb,pair_ok a b ha hb⟩]
      rfl
     ·rw[if_neg hb,if_neg (fun h=>hb h.1)]
    ·simp only[ha,if_false,Bool.false_eq_true,false_and]
     exact Got.some ⟨hsm,by show (2:Nat)≤_;omega,rfl⟩
   ·rw[if_neg hm]
    simp only[hm,decide_false]
    exact spec_list_j _ hws hl
 ·simp only[show ¬(ws.length:Int)=3 by omega,if_false]
  rw[list_other ws h3]
  exact spec_list_j _ hws hl
def goS (out:List (List CmpT)) (ps:List ByteArray):List (List CmpT) × Bool:=match sidesC ps with|some r=>(out++r,true)|none=>([],false)
theorem goS_cons (out:List (List CmpT)) (p:ByteArray) (r:List ByteArray):goS out (p :: r)=match sideC p with|some x=>goS (out++[x]) r|none=>([],false):=by
 unfold goS
 rw[sidesC]
 cases sideC p with
 | none=>rfl
 | some x=>
  cases sidesC r with
  | none=>rfl
  | some o=>simp
theorem impl_range_l (ps:List ByteArray) (hps:∀ p∈ps,p.size≤16777216) (hl:ps.length≤16777217) (d:Nat):∀ (i:Nat) (out:List (List CmpT)),i+d=ps.length→out.length≤i →
  Ev (fun k=>impl_ParseRange.l0 k out ps (ps.length:Int) (i:Int)) (goS out (ps.drop i)):=by
 induction d with
 | zero=>
  intro i out hi ho
  refine Ev.succ ?_
  rw[List.drop_eq_nil_of_le (by omega)]
  simp only[impl_ParseRange.l0,show ¬(i:Int)<(ps.length:Int) by omega,if_false]
  refine Ev.cast Ev.some ?_
  simp[goS,sidesC]
 | succ d ih=>
  intro i out hi ho
  have hlt:i<ps.length:=by omega
  have h1:(i:Int)<(ps.length:Int):=by omega
  have h2:(0:Int)≤(i:Int):=by omega
  have h3:=next_i hlt (by omega)
  have h4:out.length<5864062014805:=by omega
  have hol:∀ x:List CmpT,(out++[x]).length≤i+1:=fun x=>by rw[List.length_append];show out.length+1≤i+1;omega
  refine Ev.succ ?_
  rw[drop_get hlt,goS_cons]
  simp only[impl_ParseRange.l0,h1,h2,h3,if_true,rdOf_cast _ hlt]
  obtain⟨r,hr,hq⟩:=impl_side ps[i] (hps _ (List.getElem_mem hlt))
  refine Ev.bind hr ?_
  cases hc:sideC ps[i] with
  | none=>
   rw[hc] at hq
   have hq':r.2=false:=hq
   simp only[hq',Bool.false_eq_true,if_false]
   exact Ev.some
  | some x=>
   rw[hc] at hq
   have hq':r=(x,true):=hq
   subst hq'
   simp only[if_true,h4]
   exact ih (i+1) _ (by omega) (hol x)
theorem bar_pieces {s:ByteArray} (hs:s.size≤16777216):(∀ w∈piecesB s bar2,w.size≤16777216)∧(piecesB s bar2).length≤16777217:=by
 have h:=pieces_length (s:=s) (sep:=bar2) (by decide)
 exact⟨fun w hw=>by have:=pieces_mem (sep:=bar2) (by simp[bar2]) w hw;omega,by omega⟩
theorem rangeR_eq (s:ByteArray):rangeR s=if (piecesB s bar2).length≤4 then goS [] (piecesB s bar2) else ([],false):=by
 unfold rangeR rangeC goS
 split
 next r h=>
  split at h
  next h4=>
   rw[if_pos h4,h]
   rfl
  next=>cases h
 next h=>
  split at h
  next h4=>
   rw[if_pos h4,h]
  next h4=>rw[if_neg h4]
theorem impl_range (s:ByteArray) (hs:s.size≤16777216):Ev (fun k=>impl_ParseRange.f k s) (rangeR s):=by
 have hp:=bar_pieces hs
 have h1:strings_Split.f s (⟨#[124,124]⟩:ByteArray)=some (piecesB s bar2):=strings_sides s hs
 unfold impl_ParseRange.f
 rw[rangeR_eq]
 simp only[h1,Option.bind_some]
 by_cases h4:(piecesB s bar2).length≤4
 ·simp only[show ¬((piecesB s bar2).length:Int)>4 by omega,if_false,h4,if_true]
  refine Ev.succ ?_
  simp only[impl_ParseRange.j0]
  exact impl_range_l _ hp.1 hp.2 (piecesB s bar2).length 0 [] (by omega) (by simp)
 ·simp only[show ((piecesB s bar2).length:Int)>4 by omega,if_true,h4,if_false]
  exact Ev.some
def cutS (r:List (List CmpT) × Bool):List (List CmpT) × Bool:=if r.1.length>4 then ([],false) else r
theorem sidesC_length:∀ {ps:List ByteArray} {r:List (List CmpT)},sidesC ps=some r→r.length=ps.length
 | [],r,h=>by obtain rfl:=Option.some.inj h;rfl
 | p :: ps,r,h=>by
  unfold sidesC at h
  obtain⟨x,hx,h⟩:=Option.bind_eq_some_iff.1 h
  obtain⟨o,ho,rfl⟩:=Option.map_eq_some_iff.1 h
  rw[List.length_cons,List.length_cons,sidesC_length ho]
theorem spec_range_l (ps:List ByteArray) (hps:∀ p∈ps,p.size≤16777216) (hl:ps.length≤16777217) (d:Nat):∀ (i:Nat) (out:List (List CmpT)),i+d=ps.length→out.length≤i →
  Ev (fun k=>spec_ParseRange.l0 k out ps (i:Int)) (cutS (goS out (ps.drop i))):=by
 induction d with
 | zero=>
  intro i out hi ho
  refine Ev.succ ?_
  rw[List.drop_eq_nil_of_le (by omega)]
  have e:goS out []=(out,true):=by simp[goS,sidesC]
  rw[e]
  simp only[spec_ParseRange.l0,show ¬(i:Int)<(ps.length:Int) by omega,if_false,cutS]
  by_cases h4:out.length>4
  ·simp only[show (out.length:Int)>4 by omega,h4,if_true]
   exact Ev.some
  ·simp only[show ¬(out.length:Int)>4 by omega,h4,if_false]
   exact Ev.some
 | succ d ih=>
  intro i out hi ho
  have hlt:i<ps.length:=by omega
  have h1:(i:Int)<(ps.length:Int):=by omega
  have h2:(0:Int)≤(i:Int):=by omega
  have h3:=next_i hlt (by omega)
  have h4:out.length<5864062014805:=by omega
  have hol:∀ x:List CmpT,(out++[x]).length≤i+1:=fun x=>by rw[List.length_append];show out.length+1≤i+1;omega
  have hz:=hps _ (List.getElem_mem hlt)
  have htz:=trimQ_size ps[i]
  have hb:=blank_pieces (s:=trimQ ps[i]) (by omega)
  refine Ev.succ ?_
  rw[drop_get hlt,goS_cons]
  simp only[spec_ParseRange.l0,h1,if_true]
  refine Ev.succ ?_
  simp only[spec_ParseRange.j1,h1,h2,h3,if_true,rdOf_cast _ hlt]
  refine Ev.bind (spec_trim ps[i] (by omega)) ?_
  refine Ev.bind (spec_split (trimQ ps[i]) 32 (by omega)) ?_
  obtain⟨r,hr,hs,hrl,hq⟩:=spec_list_w (piecesB (trimQ ps[i]) blank1) hb.1 hb.2
  refine Ev.bind hr ?_
  have hsd:sideC ps[i]=if r.2=true∧r.1.all okV=true then some r.1 else none:=hq
  rw[hsd]
  by_cases hk:r.2=true
  ·simp only[hk,if_true,true_and]
   have hg:=spec_good r.1 hs (by omega) r.1.length 0 (by omega)
   rw[List.drop_zero] at hg
   refine Ev.bind (f:=fun k t=>if t=true then _ else _) (show Ev (fun k=>spec_l4Good.f k r.1) (r.1.all okV) from hg) ?_
   by_cases ha:r.1.all okV=true
   ·simp only[ha,if_true,h4]
    exact ih (i+1) _ (by omega) (hol r.1)
   ·simp only[ha,if_false,Bool.false_eq_true]
    exact Ev.some
  ·simp only[hk,if_false,Bool.false_eq_true,false_and]
   exact Ev.some
theorem spec_range (s:ByteArray) (hs:s.size≤16777216):Ev (fun k=>spec_ParseRange.f k s) (rangeR s):=by
 have hp:=bar_pieces hs
 unfold spec_ParseRange.f
 refine Ev.bind (spec_sides s hs) ?_
 refine Ev.cast (spec_range_l _ hp.1 hp.2 (piecesB s bar2).length 0 [] (by omega) (by simp)) ?_
 rw[rangeR_eq,List.drop_zero]
 unfold cutS goS
 cases hc:sidesC (piecesB s bar2) with
 | none=>simp
 | some r=>
  have:=sidesC_length hc
  show (if r.length>4 then ([],false) else (r,true))=if (piecesB s bar2).length≤4 then (r,true) else ([],false)
  by_cases h4:(piecesB s bar2).length≤4
  ·rw[if_neg (by omega),if_pos h4]
  ·rw[if_pos (by omega),if_neg h4]
theorem range_small {s:ByteArray} (hs:s.size≤16777216):(rangeR s).1.length≤4∧∀ y∈(rangeR s).1,y.length≤4∧∀ x∈y,smallC x:=by
 have hp:=bar_pieces hs
 have wds_:∀ (ws:List ByteArray),(∀ w∈ws,w.size≤16777216)→∀ o,wordsC ws=some o→∀ x∈o,smallC x:=by
  intro ws
  induction ws with
  | nil=>
   intro _ o h x hx
   obtain rfl:=Option.some.inj h
   cases hx
  | cons w r ih=>
   intro hw o h x hx
   unfold wordsC at h
   split at h
   next=>
    obtain⟨o2,ho,rfl⟩:=Option.map_eq_some_iff.1 h
    rcases List.mem_append.1 hx with hx|hx
    ·exact small_word w (hw w (by simp)) x hx
    ·exact ih (fun z hz=>hw z (by simp[hz])) o2 ho x hx
   next=>cases h
 have ends:∀ (ws:List ByteArray),(∀ w∈ws,w.size≤16777216)→∀ y,endW (wordsC ws)=some y→y.length≤4∧∀ x∈y,smallC x:=by
  intro ws hw y h
  unfold endW at h
  obtain⟨o,ho,h⟩:=Option.bind_eq_some_iff.1 h
  split at h
  next hc=>
   obtain rfl:=Option.some.inj h
   exact⟨hc.2,wds_ ws hw o ho⟩
  next=>cases h
 have lists:∀ (ws:List ByteArray),(∀ w∈ws,w.size≤16777216)→∀ y,listC ws=some y→y.length≤4∧∀ x∈y,smallC x:=by
  intro ws hw y h
  by_cases h3:ws.length=3
  ·match ws,h3 with
   | [a,m,b],_=>
    rw[list_dash] at h
    split at h
    ·split at h
     ·obtain rfl:=Option.some.inj h
      refine⟨by show (2:Nat)≤4;omega,fun x hx=>?_⟩
      simp only[List.mem_cons,List.not_mem_nil,or_false] at hx
      rcases hx with rfl|rfl
      ·exact small_ver _ _ (hw a (by simp))
      ·exact small_ver _ _ (hw b (by simp))
     ·cases h
    ·exact ends _ hw y h
  ·rw[list_other ws h3] at h
   exact ends _ hw y h
 have sides:∀ (ps:List ByteArray),(∀ w∈ps,w.size≤16777216)→∀ r,sidesC ps=some r→∀ y∈r,y.length≤4∧∀ x∈y,smallC x:=by
  intro ps
  induction ps with
  | nil=>
   intro _ r h y hy
   obtain rfl:=Option.some.inj h
   cases hy
  | cons p q ih=>
   intro hw r h y hy
   unfold sidesC at h
   obtain⟨x,hx,h⟩:=Option.bind_eq_some_iff.1 h
   obtain⟨o,ho,rfl⟩:=Option.map_eq_some_iff.1 h
   rcases List.mem_cons.1 hy with rfl|hy
   ·have ht:=trimQ_size p
    have hpz:=hw p (by simp)
    exact lists _ (blank_pieces (s:=trimQ p) (by omega)).1 _ hx
   ·exact ih (fun z hz=>hw z (by simp[hz])) o ho y hy
 unfold rangeR
 split
 next r h=>
  unfold rangeC at h
  split at h
  next h4=>exact⟨by have:=sidesC_length h;show r.length≤4;omega,sides _ hp.1 r h⟩
  next=>cases h
 next=>exact⟨Nat.zero_le _,fun y hy=>by cases hy⟩
theorem eqStringS_l (a b:List ByteArray) (hl:a.length≤9223372036854775807) (hab:a.length=b.length) (d:Nat):∀ i:Nat,i+d=a.length →
  Ev (fun k=>laws_eqStringS.l0 k a b (i:Int)) (decide (a.drop i=b.drop i)):=by
 induction d with
 | zero=>
  intro i hi
  have h1:¬(i:Int)<(a.length:Int):=by omega
  refine Ev.succ ?_
  rw[List.drop_eq_nil_of_le (by omega),List.drop_eq_nil_of_le (by omega)]
  simp only[laws_eqStringS.l0,h1,if_false,decide_true]
  exact Ev.some
 | succ d ih=>
  intro i hi
  have hlt:i<a.length:=by omega
  have hlb:i<b.length:=by omega
  have h1:(i:Int)<(a.length:Int):=by omega
  have h1b:(i:Int)<(b.length:Int):=by omega
  have h2:(0:Int)≤(i:Int):=by omega
  have h3:=next_i hlt hl
  refine Ev.succ ?_
  rw[drop_get hlt,drop_get hlb]
  simp only[laws_eqStringS.l0,h1,h1b,h2,h3,if_true,rdOf_cast _ hlt,rdOf_cast _ hlb,toList_inj]
  by_cases h:a[i]=b[i]
  ·simp only[h,if_true,List.cons.injEq,true_and]
   exact ih (i+1) (by omega)
  ·simp only[h,if_false,List.cons.injEq,false_and,decide_false]
   exact Ev.some
theorem eqStringS (a b:List ByteArray) (hl:a.length≤9223372036854775807):Ev (fun k=>laws_eqStringS.f k a b) (decide (a=b)):=by
 unfold laws_eqStringS.f
 by_cases h:(a.length:Int)=(b.length:Int)
 ·simp only[h,if_true]
  refine Ev.succ ?_
  simp only[laws_eqStringS.j0]
  exact eqStringS_l a b hl (by omega) a.length 0 (by omega)
 ·simp only[h,if_false]
  have:¬a=b:=fun e=>h (by rw[e])
  simp only[this,decide_false]
  exact Ev.some
def fitVer (y:S30):Prop:=y.f3.length≤9223372036854775807
theorem eqVer (y:S30) (hf:fitVer y):Ev (fun k=>laws_eqVer.f k y.f0 y.f1 y.f2 y.f3 y.f0 y.f1 y.f2 y.f3) true:=by
 unfold laws_eqVer.f
 have m3:=hf
 first|(refine Ev.succ (g:=fun k=>laws_eqVer.j0 k _ _ _ _ _ _ _ _) ?_;simp only[laws_eqVer.j0])|(refine Ev.succ (g:=fun k=>laws_eqVer.j1 k _ _ _ _ _ _ _ _) ?_;simp only[laws_eqVer.j1])|skip
 first|simp only[if_true]|skip
 first|(refine Ev.succ (g:=fun k=>laws_eqVer.j0 k _ _ _ _ _ _ _ _) ?_;simp only[laws_eqVer.j0])|(refine Ev.succ (g:=fun k=>laws_eqVer.j1 k _ _ _ _ _ _ _ _) ?_;simp only[laws_eqVer.j1])|skip
 first|simp only[if_true]|skip
 first|(refine Ev.succ (g:=fun k=>laws_eqVer.j0 k _ _ _ _ _ _ _ _) ?_;simp only[laws_eqVer.j0])|(refine Ev.succ (g:=fun k=>laws_eqVer.j1 k _ _ _ _ _ _ _ _) ?_;simp only[laws_eqVer.j1])|skip
 first|simp only[if_true]|skip
 first|(refine Ev.succ (g:=fun k=>laws_eqVer.j0 k _ _ _ _ _ _ _ _) ?_;simp only[laws_eqVer.j0])|(refine Ev.succ (g:=fun k=>laws_eqVer.j1 k _ _ _ _ _ _ _ _) ?_;simp only[laws_eqVer.j1])|skip
 refine Ev.bind (eqStringS y.f3 y.f3 m3) ?_
 simp only[decide_true,if_true]
 first|(refine Ev.succ (g:=fun k=>laws_eqVer.j0 k _ _ _ _ _ _ _ _) ?_;simp only[laws_eqVer.j0])|(refine Ev.succ (g:=fun k=>laws_eqVer.j1 k _ _ _ _ _ _ _ _) ?_;simp only[laws_eqVer.j1])|skip
 first|simp only[if_true]|skip
 exact Ev.some
def fitCmp (y:S34):Prop:=fitVer y.f1
theorem eqCmp (y:S34) (hf:fitCmp y):Ev (fun k=>laws_eqCmp.f k y.f0 y.f1.f0 y.f1.f1 y.f1.f2 y.f1.f3 y.f0 y.f1.f0 y.f1.f1 y.f1.f2 y.f1.f3) true:=by
 unfold laws_eqCmp.f
 have m1:=hf
 skip
 first|simp only[if_true]|skip
 skip
 refine Ev.bind (eqVer y.f1 m1) ?_
 simp only[if_true]
 skip
 first|simp only[if_true]|skip
 exact Ev.some
theorem eqCmpS_l (l:List S34) (hl:l.length≤9223372036854775807) (hf:∀ z∈l,fitCmp z) (d:Nat):∀ i:Nat,i+d=l.length→Ev (fun k=>laws_eqCmpS.l0 k l l (i:Int)) true:=by
 induction d with
 | zero=>
  intro i hi
  have h1:¬(i:Int)<(l.length:Int):=by omega
  refine Ev.succ ?_
  simp only[laws_eqCmpS.l0,h1,if_false]
  exact Ev.some
 | succ d ih=>
  intro i hi
  have hlt:i<l.length:=by omega
  have h1:(i:Int)<(l.length:Int):=by omega
  have h2:(0:Int)≤(i:Int):=by omega
  have h3:=next_i hlt hl
  have hg:rd_T34 l (i:Int)=l[i]:=rdD_cast _ hlt
  refine Ev.succ ?_
  simp only[laws_eqCmpS.l0,h1,h2,h3,if_true,hg]
  first|(refine Ev.succ (g:=fun k=>laws_eqCmpS.j0 k _ _) ?_;simp only[laws_eqCmpS.j0])|skip
  first|simp only[h1,h2,h3,if_true,hg]|skip
  refine Ev.bind (eqCmp l[i] (hf _ (List.getElem_mem hlt))) ?_
  simp only[if_true]
  exact ih (i+1) (by omega)
theorem eqCmpS (l:List S34) (hf:l.length≤9223372036854775807∧∀ z∈l,fitCmp z):Ev (fun k=>laws_eqCmpS.f k l l) true:=by
 unfold laws_eqCmpS.f
 simp only[if_true]
 refine Ev.succ ?_
 simp only[laws_eqCmpS.j0]
 exact eqCmpS_l l hf.1 hf.2 l.length 0 (by omega)
theorem eqCmpSS_l (l:List (List S34)) (hl:l.length≤9223372036854775807) (hf:∀ y∈l,(y.length≤9223372036854775807∧∀ z∈y,fitCmp z)) (d:Nat):∀ i:Nat,i+d=l.length→Ev (fun k=>laws_eqCmpSS.l0 k l l (i:Int)) true:=by
 induction d with
 | zero=>
  intro i hi
  have h1:¬(i:Int)<(l.length:Int):=by omega
  refine Ev.succ ?_
  simp only[laws_eqCmpSS.l0,h1,if_false]
  exact Ev.some
 | succ d ih=>
  intro i hi
  have hlt:i<l.length:=by omega
  have h1:(i:Int)<(l.length:Int):=by omega
  have h2:(0:Int)≤(i:Int):=by omega
  have h3:=next_i hlt hl
  have hg:rd_L5 l (i:Int)=l[i]:=rdD_cast _ hlt
  refine Ev.succ ?_
  simp only[laws_eqCmpSS.l0,h1,h2,h3,if_true,hg]
  refine Ev.bind (eqCmpS l[i] (hf _ (List.getElem_mem hlt))) ?_
  simp only[if_true]
  exact ih (i+1) (by omega)
theorem eqCmpSS (l:List (List S34)) (hf:l.length≤9223372036854775807∧∀ y∈l,(y.length≤9223372036854775807∧∀ z∈y,fitCmp z)):Ev (fun k=>laws_eqCmpSS.f k l l) true:=by
 unfold laws_eqCmpSS.f
 simp only[if_true]
 refine Ev.succ ?_
 simp only[laws_eqCmpSS.j0]
 exact eqCmpSS_l l hf.1 hf.2 l.length 0 (by omega)
theorem strOfNums_size (l:List Int):(strOfNums l).size=l.length:=by
 unfold strOfNums
 simp[ByteArray.size]
theorem markText_l (n:Nat):∀ (x:Nat) (t:ByteArray),x≤n→x+t.size≤1099511627776→∃ r,Ev (fun k=>laws_markText.l0 k (x:Int) t) r:=by
 induction n with
 | zero=>
  intro x t hx ht
  obtain rfl:x=0:=by omega
  refine⟨(⟨#[109]⟩:ByteArray)++t,Ev.succ ?_⟩
  ·simp only[laws_markText.l0,show ¬((0:Nat):Int)>0 by omega,if_false,show 1+t.size≤9223372036854775807 by omega,if_true]
   exact Ev.some
 | succ n ih=>
  intro x t hx ht
  by_cases h0:x=0
  ·subst h0
   refine⟨(⟨#[109]⟩:ByteArray)++t,Ev.succ ?_⟩
   ·simp only[laws_markText.l0,show ¬((0:Nat):Int)>0 by omega,if_false,show 1+t.size≤9223372036854775807 by omega,if_true]
    exact Ev.some
  ·have hd:wrap64 (Int.tdiv (x:Int) 10)=((x / 10:Nat):Int):=by
    rw[Int.tdiv_eq_ediv_of_nonneg (by omega)]
    rw[wrap64_id (by omega) (by omega)]
    omega
   have hsz:(strOfNums [wrap64 (48+Int.tmod (x:Int) 10) % 256]).size=1:=strOfNums_size _
   obtain⟨r,hr⟩:=ih (x / 10) (strOfNums [wrap64 (48+Int.tmod (x:Int) 10) % 256]++t) (by omega) (by rw[ByteArray.size_append,hsz];omega)
   refine⟨r,Ev.succ ?_⟩
   simp only[laws_markText.l0,show (x:Int)>0 by omega,if_true,Option.bind_some,hsz,show 1+t.size≤9223372036854775807 by omega,hd]
   exact hr
theorem markText_ex (x:Int) (h:x≤4398046511104 / 8):∃ r,Ev (fun k=>laws_markText.f k x) r:=by
 unfold laws_markText.f
 by_cases h0:x≤0
 ·simp only[h0,if_true]
  exact⟨_,Ev.some⟩
 ·simp only[h0,if_false]
  obtain⟨n,rfl⟩:∃ n:Nat,x=n:=⟨x.toNat,by omega⟩
  obtain⟨r,hr⟩:=markText_l n n (⟨#[]⟩:ByteArray) (Nat.le_refl _) (by show n+0≤_;omega)
  refine⟨r,Ev.succ ?_⟩
  simp only[laws_markText.j0]
  exact hr
open Classical in
noncomputable def mkT (x:Int):ByteArray:=if h:∃ r,Ev (fun k=>laws_markText.f k x) r then h.choose else ByteArray.empty
theorem markText (x:Int) (h:x≤549755813888):Ev (fun k=>laws_markText.f k x) (mkT x):=by
 have hx:=markText_ex x (by omega)
 unfold mkT
 rw[dif_pos hx]
 exact hx.choose_spec
noncomputable def mks (x:Int):Nat→List ByteArray
 | 0=>[]
 | n+1=>mkT x :: mks (x+1) n
theorem mks_length:∀ (n:Nat) (x:Int),(mks x n).length=n
 | 0,_=>rfl
 | n+1,x=>by rw[mks,List.length_cons,mks_length n]
theorem mks_get:∀ (n:Nat) (x:Int) (i:Nat) (h:i<(mks x n).length),(mks x n)[i]=mkT (x+i)
 | 0,_,_,h=>absurd h (by simp[mks])
 | n+1,x,0,_=>by simp[mks]
 | n+1,x,i+1,h=>by
  have:=mks_get n (x+1) i (by simpa [mks] using h)
  simp only[mks,List.getElem_cons_succ,this]
  congr 1
  omega
theorem markStringS_l (n:Nat) (x:Int) (hx0:0≤x) (hx:x+n≤549755813888) (d:Nat):∀ (i:Nat) (l:List ByteArray),i+d=n→l.length=n→l.take i=(mks x n).take i →
  Ev (fun k=>laws_markStringS.l0 k l (x+i) (i:Int)) (x+n,mks x n):=by
 induction d with
 | zero=>
  intro i l hi hl he
  obtain rfl:i=n:=by omega
  have e:l=mks x i:=by rwa [List.take_of_length_le (by omega),List.take_of_length_le (by rw[mks_length];exact Nat.le_refl _)] at he
  subst e
  have h1:¬(i:Int)<((mks x i).length:Int):=by omega
  refine Ev.succ ?_
  simp only[laws_markStringS.l0,h1,if_false]
  exact Ev.some
 | succ d ih=>
  intro i l hi hl he
  have h1:(i:Int)<(l.length:Int):=by omega
  have h2:(0:Int)≤(i:Int):=by omega
  have h3:=next_i (show i<n by omega) (by omega)
  have h4:wrap64 (x+i+1)=x+((i+1:Nat):Int):=by rw[wrap64_id (by omega) (by omega)];omega
  refine Ev.succ ?_
  simp only[laws_markStringS.l0,h1,if_true]
  refine Ev.bind (markText (x+i) (by omega)) ?_
  simp only[h2,if_true,h3,h4,Int.toNat_natCast]
  refine ih (i+1) _ (by omega) (by simpa using hl) ?_
  have:=take_set_step (l:=l) (m:=mks x n) (i:=i) (by omega) (by rw[mks_length];omega) he
  rwa [mks_get n x i (by rw[mks_length];omega)] at this
theorem markStringS (l:List ByteArray) (x:Int) (hx0:0≤x) (hx:x+l.length≤549755813888):Ev (fun k=>laws_markStringS.f k l x) (x+l.length,mks x l.length):=by
 unfold laws_markStringS.f
 have:=markStringS_l l.length x hx0 hx l.length 0 l (by omega) rfl (by simp)
 simpa using this
theorem heldStringS_l (n:Nat) (x:Int) (hx0:0≤x) (hx:x+n≤549755813888) (d:Nat):∀ (i:Nat),i+d=n→Ev (fun k=>laws_heldStringS.l0 k (mks x n) (x+i) (i:Int)) (x+n):=by
 induction d with
 | zero=>
  intro i hi
  obtain rfl:i=n:=by omega
  have h1:¬(i:Int)<((mks x i).length:Int):=by rw[mks_length];omega
  refine Ev.succ ?_
  simp only[laws_heldStringS.l0,h1,if_false]
  exact Ev.some
 | succ d ih=>
  intro i hi
  have hlt:i<(mks x n).length:=by rw[mks_length];omega
  have h1:(i:Int)<((mks x n).length:Int):=by omega
  have h2:(0:Int)≤(i:Int):=by omega
  have h3:=next_i (show i<n by omega) (by omega)
  have h4:wrap64 (x+i+1)=x+((i+1:Nat):Int):=by rw[wrap64_id (by omega) (by omega)];omega
  refine Ev.succ ?_
  simp only[laws_heldStringS.l0,h1,h2,if_true,rdOf_cast _ hlt,mks_get n x i hlt]
  refine Ev.bind (markText (x+i) (by omega)) ?_
  simp only[if_true,h3,h4]
  exact ih (i+1) (by omega)
theorem heldStringS (x:Int) (n:Nat) (hx0:0≤x) (hx:x+n≤549755813888):Ev (fun k=>laws_heldStringS.f k (mks x n) x) (x+n):=by
 unfold laws_heldStringS.f
 have:=heldStringS_l n x hx0 hx n 0 (by omega)
 simpa using this
theorem Ev.noM {α:Type} {c:Prop} [Decidable c] {g f:Nat→Option α} {r:α} (hc:¬c) (h:Ev f r):Ev (fun k=>if c then g k else f k) r:=by
 simp only[hc,if_false];exact h
def cntCm:List S34→Int
 | []=>0
 | x :: l=>4+x.f1.f3.length+cntCm l
theorem cntCm_nonneg:∀ l,0≤cntCm l
 | []=>Int.le_refl _
 | x :: l=>by have:=cntCm_nonneg l;unfold cntCm;omega
noncomputable def mkCm (x:Int):List S34→List S34
 | []=>[]
 | c :: l=>⟨x,⟨x+1,x+2,x+3,mks (x+4) c.f1.f3.length⟩⟩ :: mkCm (x+4+c.f1.f3.length) l
theorem mkCm_length:∀ (l:List S34) (x:Int),(mkCm x l).length=l.length
 | [],_=>rfl
 | c :: l,x=>by rw[mkCm,List.length_cons,List.length_cons,mkCm_length l]
theorem markCmpS:∀ (l:List S34) (x:Int),0≤x→x+cntCm l≤549755813888→Ev (fun k=>laws_markCmpS.f k l x) (x+cntCm l,mkCm x l)
 | [],x,h0,h=>by
  rw[cntCm,Int.add_zero]
  exact Ev.some
 | e :: l,x,h0,h=>by
  have hn:=cntCm_nonneg l
  rw[cntCm] at h
  have h1:wrap64 (x+1)=x+1:=wrap64_id (by omega) (by omega)
  have h2:wrap64 (x+1+1)=x+2:=by rw[wrap64_id (by omega) (by omega)];omega
  have h3:wrap64 (x+2+1)=x+3:=by rw[wrap64_id (by omega) (by omega)];omega
  have h4:wrap64 (x+3+1)=x+4:=by rw[wrap64_id (by omega) (by omega)];omega
  have hy:=markCmpS l (x+4+e.f1.f3.length) (by omega) (by omega)
  have e1:x+cntCm (e :: l)=x+4+e.f1.f3.length+cntCm l:=by rw[cntCm];omega
  rw[e1,mkCm]
  unfold laws_markCmpS.f at hy ⊢
  simp only[laws_markCmpS.l,laws_markCmpS.el,h1,h2,h3,h4]
  refine Ev.bind (Ev.bind (markStringS _ (x+4) (by omega) (by omega)) Ev.some) ?_
  exact Ev.bind hy Ev.some
theorem cntCm_take:∀ (l:List S34) (i:Nat) (h:i<l.length),cntCm (l.take (i+1))=cntCm (l.take i)+4+l[i].f1.f3.length
 | [],_,h=>absurd h (by simp)
 | c :: l,0,_=>by simp[cntCm]
 | c :: l,i+1,h=>by
  have:=cntCm_take l i (by simpa using h)
  simp only[List.take_succ_cons,cntCm,List.getElem_cons_succ,this]
  omega
theorem cntCm_le:∀ (l:List S34) (i:Nat),cntCm (l.take i)≤cntCm l
 | [],i=>by simp
 | c :: l,0=>by have:=cntCm_nonneg (c :: l);simpa [cntCm] using this
 | c :: l,i+1=>by
  have:=cntCm_le l i
  simp only[List.take_succ_cons,cntCm]
  omega
theorem mkCm_get:∀ (l:List S34) (x:Int) (i:Nat) (h:i<(mkCm x l).length) (h2:i<l.length),(mkCm x l)[i]=⟨x+cntCm (l.take i),⟨x+cntCm (l.take i)+1,x+cntCm (l.take i)+2,x+cntCm (l.take i)+3,mks (x+cntCm (l.take i)+4) l[i].f1.f3.length⟩⟩
 | [],_,_,h,h2=>absurd h2 (by simp)
 | c :: l,x,0,_,_=>by simp[mkCm,cntCm]
 | c :: l,x,i+1,h,h2=>by
  have:=mkCm_get l (x+4+c.f1.f3.length) i (by simpa [mkCm] using h) (by simpa using h2)
  simp only[mkCm,List.getElem_cons_succ,this,List.take_succ_cons,cntCm]
  rw[show x+4+(c.f1.f3.length:Int)+cntCm (l.take i)=x+(4+(c.f1.f3.length:Int)+cntCm (l.take i)) by omega]
theorem heldCmpS_l (l:List S34) (hl:l.length≤549755813888) (x:Int) (hx0:0≤x) (hx:x+cntCm l≤549755813888) (d:Nat):∀ (i:Nat),i+d=l.length→Ev (fun k=>laws_heldCmpS.l0 k (mkCm x l) (x+cntCm (l.take i)) (i:Int)) (x+cntCm l):=by
 induction d with
 | zero=>
  intro i hi
  have h1:¬(i:Int)<((mkCm x l).length:Int):=by rw[mkCm_length];omega
  refine Ev.succ ?_
  rw[List.take_of_length_le (by omega)]
  simp only[laws_heldCmpS.l0,h1,if_false]
  exact Ev.some
 | succ d ih=>
  intro i hi
  have hll:i<l.length:=by omega
  have hlt:i<(mkCm x l).length:=by rw[mkCm_length];omega
  have h1:(i:Int)<((mkCm x l).length:Int):=by omega
  have h2:(0:Int)≤(i:Int):=by omega
  have h3:=next_i hll (by omega)
  have hg:rd_T34 (mkCm x l) (i:Int)=⟨x+cntCm (l.take i),⟨x+cntCm (l.take i)+1,x+cntCm (l.take i)+2,x+cntCm (l.take i)+3,mks (x+cntCm (l.take i)+4) l[i].f1.f3.length⟩⟩:=by
   rw[show rd_T34 (mkCm x l) (i:Int)=(mkCm x l)[i] from rdD_cast _ hlt,mkCm_get l x i hlt hll]
  have n0:=cntCm_nonneg (l.take i)
  have n1:=cntCm_le l (i+1)
  have n2:=cntCm_take l i hll
  have ih':=ih (i+1) (by omega)
  rw[n2] at ih'
  generalize cntCm (l.take i)=c at *
  have w1:wrap64 (x+c+1)=x+c+1:=wrap64_id (by omega) (by omega)
  have w2:wrap64 (x+c+1+1)=x+c+2:=by rw[wrap64_id (by omega) (by omega)];omega
  have w3:wrap64 (x+c+2+1)=x+c+3:=by rw[wrap64_id (by omega) (by omega)];omega
  have w4:wrap64 (x+c+3+1)=x+c+4:=by rw[wrap64_id (by omega) (by omega)];omega
  have hs:=heldStringS (x+c+4) l[i].f1.f3.length (by omega) (by omega)
  refine Ev.succ ?_
  simp only[laws_heldCmpS.l0,h1,if_true]
  refine Ev.succ ?_
  simp only[laws_heldCmpS.j1,h1,h2,if_true,hg,w1]
  refine Ev.succ ?_
  simp only[laws_heldCmpS.j2,h1,h2,if_true,hg,w1]
  refine Ev.succ ?_
  simp only[laws_heldCmpS.j3,h1,h2,if_true,hg,w1,w2]
  refine Ev.succ ?_
  simp only[laws_heldCmpS.j4,h1,h2,if_true,hg,w1,w2,w3,w4]
  refine Ev.bind hs ?_
  refine Ev.noM (by omega) ?_
  simp only[h3]
  exact Ev.cast (by rw[show x+c+4+(l[i].f1.f3.length:Int)=x+(c+4+(l[i].f1.f3.length:Int)) by omega];exact ih') rfl
theorem heldCmpS (x:Int) (l:List S34) (hl:l.length≤549755813888) (hx0:0≤x) (hx:x+cntCm l≤549755813888):Ev (fun k=>laws_heldCmpS.f k (mkCm x l) x) (x+cntCm l):=by
 unfold laws_heldCmpS.f
 have:=heldCmpS_l l hl x hx0 hx l.length 0 (by omega)
 simpa [cntCm] using this
def cntDm:List (List S34)→Int
 | []=>0
 | x :: l=>cntCm x+cntDm l
theorem cntDm_nonneg:∀ l,0≤cntDm l
 | []=>Int.le_refl _
 | x :: l=>by have:=cntDm_nonneg l;have:=cntCm_nonneg x;unfold cntDm;omega
noncomputable def mkDm (x:Int):List (List S34)→List (List S34)
 | []=>[]
 | c :: l=>mkCm x c :: mkDm (x+cntCm c) l
theorem mkDm_length:∀ (l:List (List S34)) (x:Int),(mkDm x l).length=l.length
 | [],_=>rfl
 | c :: l,x=>by rw[mkDm,List.length_cons,List.length_cons,mkDm_length l]
theorem markCmpSS:∀ (l:List (List S34)) (x:Int),0≤x→x+cntDm l≤549755813888→Ev (fun k=>laws_markCmpSS.f k l x) (x+cntDm l,mkDm x l)
 | [],x,h0,h=>by
  rw[cntDm,Int.add_zero]
  exact Ev.some
 | e :: l,x,h0,h=>by
  have hn:=cntDm_nonneg l
  have hc:=cntCm_nonneg e
  rw[cntDm] at h
  have hy:=markCmpSS l (x+cntCm e) (by omega) (by omega)
  have e1:x+cntDm (e :: l)=x+cntCm e+cntDm l:=by rw[cntDm];omega
  rw[e1,mkDm]
  unfold laws_markCmpSS.f at hy ⊢
  simp only[laws_markCmpSS.l,laws_markCmpSS.el]
  refine Ev.bind (markCmpS e x h0 (by omega)) ?_
  exact Ev.bind hy Ev.some
theorem cntDm_take:∀ (l:List (List S34)) (i:Nat) (h:i<l.length),cntDm (l.take (i+1))=cntDm (l.take i)+cntCm l[i]
 | [],_,h=>absurd h (by simp)
 | c :: l,0,_=>by simp[cntDm]
 | c :: l,i+1,h=>by
  have:=cntDm_take l i (by simpa using h)
  simp only[List.take_succ_cons,cntDm,List.getElem_cons_succ,this]
  omega
theorem cntDm_le:∀ (l:List (List S34)) (i:Nat),cntDm (l.take i)≤cntDm l
 | [],i=>by simp
 | c :: l,0=>by have:=cntDm_nonneg (c :: l);simpa [cntDm] using this
 | c :: l,i+1=>by
  have:=cntDm_le l i
  simp only[List.take_succ_cons,cntDm]
  omega
theorem mkDm_get:∀ (l:List (List S34)) (x:Int) (i:Nat) (h:i<(mkDm x l).length) (h2:i<l.length),(mkDm x l)[i]=mkCm (x+cntDm (l.take i)) l[i]
 | [],_,_,h,h2=>absurd h2 (by simp)
 | c :: l,x,0,_,_=>by simp[mkDm,cntDm]
 | c :: l,x,i+1,h,h2=>by
  have:=mkDm_get l (x+cntCm c) i (by simpa [mkDm] using h) (by simpa using h2)
  simp only[mkDm,List.getElem_cons_succ,this,List.take_succ_cons,cntDm]
  rw[show x+cntCm c+cntDm (l.take i)=x+(cntCm c+cntDm (l.take i)) by omega]
theorem heldCmpSS_l (l:List (List S34)) (hl:l.length≤549755813888) (hll:∀ y∈l,y.length≤549755813888) (x:Int) (hx0:0≤x) (hx:x+cntDm l≤549755813888) (d:Nat):∀ (i:Nat),i+d=l.length→Ev (fun k=>laws_heldCmpSS.l0 k (mkDm x l) (x+cntDm (l.take i)) (i:Int)) (x+cntDm l):=by
 induction d with
 | zero=>
  intro i hi
  have h1:¬(i:Int)<((mkDm x l).length:Int):=by rw[mkDm_length];omega
  refine Ev.succ ?_
  rw[List.take_of_length_le (by omega)]
  simp only[laws_heldCmpSS.l0,h1,if_false]
  exact Ev.some
 | succ d ih=>
  intro i hi
  have hli:i<l.length:=by omega
  have hlt:i<(mkDm x l).length:=by rw[mkDm_length];omega
  have h1:(i:Int)<((mkDm x l).length:Int):=by omega
  have h2:(0:Int)≤(i:Int):=by omega
  have h3:=next_i hli (by omega)
  have hg:rd_L5 (mkDm x l) (i:Int)=mkCm (x+cntDm (l.take i)) l[i]:=by
   rw[show rd_L5 (mkDm x l) (i:Int)=(mkDm x l)[i] from rdD_cast _ hlt,mkDm_get l x i hlt hli]
  have n0:=cntDm_nonneg (l.take i)
  have n1:=cntDm_le l (i+1)
  have n2:=cntDm_take l i hli
  have n3:=cntCm_nonneg l[i]
  have ih':=ih (i+1) (by omega)
  rw[n2] at ih'
  generalize cntDm (l.take i)=c at *
  have hs:=heldCmpS (x+c) l[i] (hll _ (List.getElem_mem hli)) (by omega) (by omega)
  refine Ev.succ ?_
  simp only[laws_heldCmpSS.l0,h1,h2,if_true,hg]
  refine Ev.bind hs ?_
  refine Ev.noM (by omega) ?_
  simp only[h3]
  exact Ev.cast (by rw[show x+c+cntCm l[i]=x+(c+cntCm l[i]) by omega];exact ih') rfl
theorem heldCmpSS (x:Int) (l:List (List S34)) (hl:l.length≤549755813888) (hll:∀ y∈l,y.length≤549755813888) (hx0:0≤x) (hx:x+cntDm l≤549755813888):Ev (fun k=>laws_heldCmpSS.f k (mkDm x l) x) (x+cntDm l):=by
 unfold laws_heldCmpSS.f
 have:=heldCmpSS_l l hl hll x hx0 hx l.length 0 (by omega)
 simpa [cntDm] using this
end Go.Proofs.YtglhniiabhknoaaGreatDoor.Pure

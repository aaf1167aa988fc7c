/- What the functions come to. -/
import Derived.Test.YtglhniiabhknoaaGreatDoorZGBAux
import Derived.Lib.SplitLaws
import Derived.Lib.Join
import Derived.Test.YtglhniiabhknoaaGreatDoorZGBPGBx1
import Derived.Test.YtglhniiabhknoaaGreatDoorZGBPGBx4
import Derived.Test.YtglhniiabhknoaaGreatDoorZGBPGBx0
import Derived.Lib.CutLaws
import Derived.Test.YtglhniiabhknoaaGreatDoorZGBPGBx11
import Derived.Lib.ItoaNum
import Derived.Test.YtglhniiabhknoaaGreatDoorZGBPGBx7
import Derived.Lib.TrimByte
import Derived.Test.YtglhniiabhknoaaGreatDoorZGBPGBx17
import Derived.Test.YtglhniiabhknoaaGreatDoorZGBPGBx14
import Derived.Test.YtglhniiabhknoaaGreatDoorZGBPGBx9
import Derived.Test.YtglhniiabhknoaaGreatDoorZGBMine
import Derived.Test.YtglhniiabhknoaaGreatDoorZGBPGBx22
import Derived.Test.YtglhniiabhknoaaGreatDoorZGBPGBx26
import Derived.Test.YtglhniiabhknoaaGreatDoorZGBPGBx19
set_option linter.unusedVariables false
set_option linter.unusedSimpArgs false
namespace Go.Proofs.YtglhniiabhknoaaGreatDoor.Pure
open Go.RowKit Go.Proofs.YtglhniiabhknoaaGreatDoor.Aux Go.Proofs.YtglhniiabhknoaaGreatDoorW.PrintWords
theorem Ev.yes {α:Type} {c:Prop} [Decidable c] {g f:Nat→Option α} {r:α} (hc:c) (h:Ev g r):Ev (fun k=>if c then g k else f k) r:=by
 simpa only[hc,if_true] using h
theorem Ev.no {α:Type} {c:Prop} [Decidable c] {g f:Nat→Option α} {r:α} (hc:¬c) (h:Ev f r):Ev (fun k=>if c then g k else f k) r:=by
 simpa only[hc,if_false] using h
def glue (u:List UInt8):List (List UInt8)→List (List UInt8)
 | []=>[u]
 | p :: ps=>(u++p) :: ps
theorem glue_nil:∀ {l:List (List UInt8)},l≠[]→glue [] l=l
 | [],h=>absurd rfl h
 | _ :: _,_=>rfl
theorem glue_glue (u v:List UInt8):∀ l:List (List UInt8),l≠[]→glue u (glue v l)=glue (u++v) l
 | [],h=>absurd rfl h
 | p :: ps,_=>by simp[glue]
theorem split_miss {s sep:List UInt8} (h:Lib.index s sep = -1):Lib.split s sep=[s]:=by
 unfold Lib.split
 rw[Lib.count_miss h]
 rfl
theorem split_hit {s sep:List UInt8} {i:Nat} (h1:sep≠[]) (h:Lib.index s sep=i):Lib.split s sep=s.take i :: Lib.split (s.drop (i+sep.length)) sep:=by
 unfold Lib.split
 rw[Lib.count_hit h1 h,Nat.add_comm]
 have hm:¬(Lib.index s sep == -1)=true:=fun e=>by have:=beq_iff_eq.1 e;omega
 have e:(Lib.index s sep).toNat=i:=by omega
 rw[Lib.splitK,if_neg hm,e]
 rfl
theorem split_ne (s sep:List UInt8):Lib.split s sep≠[]:=by
 unfold Lib.split
 cases Lib.count s sep with
 | zero=>simp[Lib.splitK]
 | succ k=>
  unfold Lib.splitK
  split <;> simp
theorem split_nil {sep:List UInt8} (h1:sep≠[]):Lib.split [] sep=[[]]:=by
 refine split_miss ?_
 cases sep with
 | nil=>exact absurd rfl h1
 | cons a b=>rfl
theorem split_at {s sep:List UInt8} (h1:sep≠[]) (h:sep.isPrefixOf s=true):Lib.split s sep=[] :: Lib.split (s.drop sep.length) sep:=by
 have hi:Lib.index s sep=((0:Nat):Int):=by
  cases s with
  | nil=>
   cases sep with
   | nil=>exact absurd rfl h1
   | cons a b=>simp at h
  | cons b l=>unfold Lib.index;rw[if_pos h];rfl
 rw[split_hit h1 hi]
 simp
theorem split_by {b:UInt8} {l sep:List UInt8} (h1:sep≠[]) (h:sep.isPrefixOf (b :: l)=false):Lib.split (b :: l) sep=glue [b] (Lib.split l sep):=by
 have hx:Lib.index (b :: l) sep=if Lib.index l sep == -1 then -1 else Lib.index l sep+1:=by rw[Lib.index,h];simp
 by_cases hm:Lib.index l sep = -1
 ·rw[split_miss hm,split_miss (by rw[hx,if_pos (beq_iff_eq.2 hm)])]
  rfl
 ·have hge:=Lib.index_ge l sep
  obtain⟨j,hj⟩:∃ j:Nat,Lib.index l sep=j:=⟨(Lib.index l sep).toNat,by omega⟩
  have hx':Lib.index (b :: l) sep=((j+1:Nat):Int):=by rw[hx,if_neg (fun e=>hm (beq_iff_eq.1 e)),hj];omega
  rw[split_hit h1 hj,split_hit h1 hx']
  simp[glue,Nat.add_right_comm]
theorem split_one_at (c:UInt8) (l:List UInt8):Lib.split (c :: l) [c]=[] :: Lib.split l [c]:=by
 rw[split_at (sep:=[c]) (by simp) (by unfold List.isPrefixOf;simp)]
 rfl
theorem split_one_by {b c:UInt8} (l:List UInt8) (h:¬b=c):Lib.split (b :: l) [c]=glue [b] (Lib.split l [c]):=
 split_by (by simp) (by
  unfold List.isPrefixOf
  rw[show (c == b)=false from by simpa using fun e=>h e.symm]
  rfl)
def ofL (l:List UInt8):ByteArray:=⟨l.toArray⟩
theorem ofL_data (s:ByteArray):ofL s.data.toList=s:=by cases s;simp[ofL]
theorem data_ofL (l:List UInt8):(ofL l).data.toList=l:=by simp[ofL]
theorem ofL_size (l:List UInt8):(ofL l).size=l.length:=by simp[ofL,ByteArray.size]
def piecesB (s sep:ByteArray):List ByteArray:=(Lib.split s.data.toList sep.data.toList).map ofL
theorem splitB_pieces (s sep:ByteArray):Lib.splitB sep 0 (Lib.countB s sep) s=piecesB s sep:=by
 have h:=Lib.splitB_data sep 0 (Lib.countB s sep) s
 unfold piecesB Lib.split
 rw[← h,List.map_map]
 conv=>lhs;rw[← List.map_id (Lib.splitB sep 0 (Lib.countB s sep) s)]
 exact List.map_congr_left (fun x _=>by simp[ofL_data])
theorem extract_ofL (s:ByteArray) (a b:Nat):s.extract a b=ofL ((s.data.toList.drop a).take (b-a)):=by
 rw[← ofL_data (s.extract a b),Lib.extract_data]
theorem data_drop {s:ByteArray} {i:Nat} (h:i<s.size):∃ b:UInt8,s.data.toList.drop i=b :: s.data.toList.drop (i+1)∧bt s (i:Int)=(b.toNat:Int)∧s.data.toList[i]?=some b:=by
 have hl:i<s.data.toList.length:=by simpa using h
 refine⟨s.data.toList[i],List.drop_eq_getElem_cons hl,?_,List.getElem?_eq_getElem hl⟩
 rw[bt_bs]
 unfold bs
 rw[List.getD_eq_getElem?_getD,Int.toNat_natCast,List.getElem?_map,List.getElem?_eq_getElem hl]
 rfl
theorem pieces_mem {s sep:ByteArray} (h1:sep.data.toList≠[]):∀ x∈piecesB s sep,x.size≤s.size:=by
 have main:∀ (n:Nat) (l:List UInt8),l.length=n→∀ x∈Lib.split l sep.data.toList,x.length≤n:=by
  intro n
  induction n using Nat.strongRecOn with
  | _ n ih=>
   intro l hl x hx
   rcases Lib.index_spec l sep.data.toList with ⟨hm,_⟩|⟨i,hi,hle,_,_⟩
   ·rw[split_miss hm] at hx
    obtain rfl:=List.mem_singleton.1 hx
    omega
   ·rw[split_hit h1 hi] at hx
    have hp:0<sep.data.toList.length:=List.length_pos_iff.2 h1
    have hr:=Lib.index_room l sep.data.toList (by omega)
    rcases List.mem_cons.1 hx with rfl|hx
    ·rw[List.length_take];omega
    ·have:=ih (l.length-(i+sep.data.toList.length)) (by omega) _ (by rw[List.length_drop]) x hx
     omega
 intro x hx
 obtain⟨u,hu,rfl⟩:=List.mem_map.1 hx
 rw[ofL_size]
 have:=main _ _ rfl u hu
 rwa [show s.data.toList.length=s.size from by simp] at this
theorem pieces_length {s sep:ByteArray} (h1:1≤sep.size):(piecesB s sep).length≤s.size+1:=by
 rw[← splitB_pieces]
 have:=Lib.splitB_length_le sep 0 (Lib.countB s sep) s
 have:=Lib.countB_le sep h1 s.size s (Nat.le_refl _)
 omega
end Go.Proofs.YtglhniiabhknoaaGreatDoor.Pure
namespace Go.Proofs.YtglhniiabhknoaaGreatDoor.Pure
open Go.RowKit Go.Proofs.YtglhniiabhknoaaGreatDoor.PGB Go.Proofs.YtglhniiabhknoaaGreatDoorW.PrintWords Go.Proofs.YtglhniiabhknoaaGreatDoorW.PrintLast Go.Proofs.YtglhniiabhknoaaGreatDoor.Aux
def dats (l:List ByteArray):List (List UInt8):=l.map (·.data.toList)
def joinB (l:List ByteArray) (sep:ByteArray):ByteArray:=ofL (Lib.join (dats l) sep.data.toList)
def joinN (l:List ByteArray) (sep:ByteArray):Nat:=sep.size*l.length+Lib.lens (dats l)
theorem joinB_size (l:List ByteArray) (sep:ByteArray):(joinB l sep).size≤joinN l sep:=by
 unfold joinB joinN
 rw[ofL_size]
 cases l with
 | nil=>simp[dats,Lib.join_nil]
 | cons x r=>
  rw[show dats (x :: r)=x.data.toList :: dats r from rfl,Lib.join_length]
  have h1:(dats r).length=r.length:=by simp[dats]
  have h2:sep.data.toList.length=sep.size:=by simp
  rw[h1,h2,List.length_cons,Nat.mul_succ]
  omega
theorem spec_join_l (x:ByteArray) (r:List ByteArray) (sep:ByteArray) (hb:joinN (x :: r) sep≤140737488355328) (hr:r.length≤140737488355328) (d:Nat):∀ j:Nat,j+d=r.length →
  Ev (fun k=>spec_Join.l0 k (x :: r) sep (ofL (x.data.toList++Lib.joinTail sep.data.toList ((dats r).take j))) ((j+1:Nat):Int)) (joinB (x :: r) sep):=by
 have hdl:(dats r).length=r.length:=by simp[dats]
 have hsl:sep.data.toList.length=sep.size:=by simp
 have hxl:x.data.toList.length=x.size:=by simp
 have hN:joinN (x :: r) sep=sep.size*(r.length+1)+(x.size+Lib.lens (dats r)):=by
  unfold joinN
  simp[dats,Lib.lens]
 induction d with
 | zero=>
  intro j hj
  have h1:¬((j+1:Nat):Int)<((x :: r).length:Int):=by rw[List.length_cons];omega
  refine Ev.succ ?_
  simp only[spec_Join.l0,h1,if_false]
  refine Ev.cast Ev.some ?_
  rw[List.take_of_length_le (by omega)]
  unfold joinB
  rw[show dats (x :: r)=x.data.toList :: dats r from rfl,Lib.join_cons]
 | succ d ih=>
  intro j hj
  have hlt:j<r.length:=by omega
  have h1:((j+1:Nat):Int)<((x :: r).length:Int):=by rw[List.length_cons];omega
  have h2:((j+1:Nat):Int)>0:=by omega
  have h2':(0:Int)≤((j+1:Nat):Int):=by omega
  have h3:wrap64 (((j+1:Nat):Int)+1)=((j+1+1:Nat):Int):=by rw[wrap64_id (by omega) (by omega)];omega
  have hg:rdOf ByteArray.empty (x :: r) ((j+1:Nat):Int)=r[j]:=by
   rw[rdOf_cast _ (show j+1<(x :: r).length by simpa using hlt)]
   rfl
  have hd:(dats r)[j]?=some r[j].data.toList:=by
   unfold dats
   rw[List.getElem?_map,List.getElem?_eq_getElem hlt]
   rfl
  have hts:=Lib.joinTail_take_succ sep.data.toList (dats r) j _ hd
  have hle:=Lib.joinTail_take_le sep.data.toList (dats r) (j+1)
  rw[Lib.joinTail_length sep.data.toList (dats r),hts,List.length_append,List.length_append,hsl,hdl] at hle
  have hrl:r[j].data.toList.length=r[j].size:=by simp
  have e1:ofL (x.data.toList++Lib.joinTail sep.data.toList ((dats r).take j))++sep=ofL (x.data.toList++Lib.joinTail sep.data.toList ((dats r).take j)++sep.data.toList):=by
   rw[← ofL_data (ofL _++sep)];simp[ofL]
  have e2:∀ u:List UInt8,ofL u++r[j]=ofL (u++r[j].data.toList):=fun u=>by
   rw[← ofL_data (ofL _++r[j])];simp[ofL]
  have hmul:sep.size*r.length≤sep.size*(r.length+1):=Nat.mul_le_mul_left _ (by omega)
  refine Ev.succ ?_
  simp only[spec_Join.l0,h1,h2,h2',if_true,hg,h3,e1,e2,ofL_size,List.length_append,hxl,hsl]
  have b1:x.size+(Lib.joinTail sep.data.toList (List.take j (dats r))).length+sep.size≤9223372036854775807:=by omega
  have b2:x.size+(Lib.joinTail sep.data.toList (List.take j (dats r))).length+sep.size+r[j].size≤9223372036854775807:=by omega
  simp only[b1,b2,if_true]
  have h:=ih (j+1) (by omega)
  rw[hts] at h
  simpa only[List.append_assoc] using h
theorem spec_join (l:List ByteArray) (sep:ByteArray) (hb:joinN l sep≤140737488355328) (hr:l.length≤140737488355328):Ev (fun k=>spec_Join.f k l sep) (joinB l sep):=by
 unfold spec_Join.f
 cases l with
 | nil=>
  refine Ev.succ ?_
  simp only[spec_Join.l0,List.length_nil,show ¬((0:Int)<((0:Nat):Int)) by omega,if_false]
  exact Ev.some
 | cons x r=>
  have hxs:x.size≤140737488355328:=by
   unfold joinN at hb
   simp[dats,Lib.lens] at hb
   omega
  have hg:rdOf ByteArray.empty (x :: r) 0=x:=rfl
  have he:(⟨#[]⟩:ByteArray)++x=x:=by
   rw[← ofL_data ((⟨#[]⟩:ByteArray)++x)]
   conv=>rhs;rw[← ofL_data x]
   simp[ofL]
  have h:=spec_join_l x r sep hb (by simp at hr;omega) r.length 0 (by omega)
  refine Ev.succ ?_
  simp only[spec_Join.l0,show ((0:Int)<((x :: r).length:Int)) by rw[List.length_cons];omega,show ¬((0:Int)>0) by omega,if_true,if_false,Int.le_refl,hg,he]
  rw[show wrap64 (0+1)=((0+1:Nat):Int) from by rw[wrap64_id (by omega) (by omega)];rfl]
  have hz:(⟨#[]⟩:ByteArray).size+x.size≤9223372036854775807:=by show 0+x.size≤_;omega
  simp only[hz,if_true]
  simpa [Lib.joinTail,ofL_data] using h
theorem strings_join (l:List ByteArray) (sep:ByteArray) (hb:joinN l sep≤140737488355328) (hr:l.length≤140737488355328):strings_Join.f l sep=some (joinB l sep):=by
 have h:=joinB_size l sep
 unfold joinB at h
 rw[ofL_size] at h
 unfold strings_Join.f
 rw[if_pos ⟨Nat.le_trans h hb,hr⟩]
 rfl
theorem join_two (x y:List UInt8) (r:List (List UInt8)) (sep:List UInt8):Lib.join (x :: y :: r) sep=x++sep++Lib.join (y :: r) sep:=by
 rw[Lib.join_cons,Lib.join_cons]
 simp[Lib.joinTail,List.append_assoc]
theorem join_glue (u:List UInt8) (sep:List UInt8):∀ l:List (List UInt8),Lib.join (glue u l) sep=u++Lib.join l sep
 | []=>by simp[glue,Lib.join_one,Lib.join_nil]
 | p :: ps=>by rw[glue,Lib.join_cons,Lib.join_cons,List.append_assoc]
theorem join_split (c:UInt8):∀ l:List UInt8,Lib.join (Lib.split l [c]) [c]=l
 | []=>by rw[split_nil (by simp),Lib.join_one]
 | b :: l=>by
  have ih:=join_split c l
  by_cases h:b=c
  ·subst h
   rw[split_one_at]
   cases hs:Lib.split l [b] with
   | nil=>exact absurd hs (split_ne _ _)
   | cons y r=>
    rw[hs] at ih
    rw[join_two,ih]
    rfl
  ·rw[split_one_by _ h,join_glue,ih]
   rfl
theorem dats_pieces (s sep:ByteArray):dats (piecesB s sep)=Lib.split s.data.toList sep.data.toList:=by
 unfold dats piecesB
 rw[List.map_map]
 conv=>rhs;rw[← List.map_id (Lib.split s.data.toList sep.data.toList)]
 exact List.map_congr_left (fun x _=>data_ofL x)
theorem joinB_pieces (s:ByteArray) (c:UInt8):joinB (piecesB s ⟨#[c]⟩) ⟨#[c]⟩=s:=by
 unfold joinB
 rw[dats_pieces,show (⟨#[c]⟩:ByteArray).data.toList=[c] from rfl,join_split,ofL_data]
theorem joinN_size {l:List ByteArray} {sep:ByteArray} (h:l≠[]):joinN l sep=sep.size+(joinB l sep).size:=by
 cases l with
 | nil=>exact absurd rfl h
 | cons x r=>
  unfold joinN joinB
  rw[ofL_size,show dats (x :: r)=x.data.toList :: dats r from rfl,Lib.join_cons,List.length_append,Lib.joinTail_length]
  have h1:(dats r).length=r.length:=by simp[dats]
  have h2:sep.data.toList.length=sep.size:=by simp
  simp only[Lib.lens,List.map_cons,List.sum_cons,h1,h2,List.length_cons,Nat.mul_succ]
  omega
theorem pieces_ne (s sep:ByteArray):piecesB s sep≠[]:=by
 unfold piecesB
 simp[split_ne]
theorem joinN_pieces (s:ByteArray) (c:UInt8):joinN (piecesB s ⟨#[c]⟩) ⟨#[c]⟩=s.size+1:=by
 rw[joinN_size (pieces_ne _ _),joinB_pieces,show (⟨#[c]⟩:ByteArray).size=1 from rfl]
 omega
def at1 (c:UInt8) (l:List UInt8):Nat:=l.findIdx (· == c)
theorem at1_nil (c:UInt8):at1 c []=0:=rfl
theorem at1_hit (c:UInt8) (l:List UInt8):at1 c (c :: l)=0:=by simp[at1,List.findIdx_cons]
theorem at1_miss {b c:UInt8} (h:¬b=c) (l:List UInt8):at1 c (b :: l)=at1 c l+1:=by
 unfold at1
 rw[List.findIdx_cons,show (b == c)=false from by simpa using h]
 rfl
theorem at1_le (c:UInt8) (l:List UInt8):at1 c l≤l.length:=List.findIdx_le_length
theorem index_one (c:UInt8):∀ l:List UInt8,Lib.index l [c]=if at1 c l<l.length then (at1 c l:Int) else -1
 | []=>rfl
 | b :: l=>by
  have ih:=index_one c l
  by_cases h:b=c
  ·subst h
   rw[Lib.index,at1_hit]
   simp[List.isPrefixOf]
  ·have hp:[c].isPrefixOf (b :: l)=false:=by
    unfold List.isPrefixOf
    rw[show (c == b)=false from by simpa using fun e=>h e.symm]
    rfl
   rw[Lib.index,hp,at1_miss h,ih,List.length_cons]
   simp only[Bool.false_eq_true,if_false]
   by_cases hl:at1 c l<l.length
   ·have hq:¬((at1 c l:Int) == -1)=true:=fun e=>by have:=beq_iff_eq.1 e;omega
    simp only[hl,if_true,if_neg hq,show at1 c l+1<l.length+1 by omega]
    omega
   ·simp[hl]
def headB (c:UInt8) (s:ByteArray):ByteArray:=ofL (s.data.toList.take (at1 c s.data.toList))
def tailB (c:UInt8) (s:ByteArray):ByteArray:=ofL (s.data.toList.drop (at1 c s.data.toList+1))
def hasB (c:UInt8) (s:ByteArray):Bool:=decide (at1 c s.data.toList<s.data.toList.length)
theorem headB_size (c:UInt8) (s:ByteArray):(headB c s).size≤s.size:=by
 unfold headB
 rw[ofL_size,List.length_take]
 have:s.data.toList.length=s.size:=by simp
 omega
theorem tailB_size (c:UInt8) (s:ByteArray):(tailB c s).size≤s.size:=by
 unfold tailB
 rw[ofL_size,List.length_drop]
 have:s.data.toList.length=s.size:=by simp
 omega
theorem at1_get (c:UInt8):∀ l:List UInt8,at1 c l<l.length→l=l.take (at1 c l)++c :: l.drop (at1 c l+1)
 | [],h=>absurd h (by simp)
 | b :: l,h=>by
  by_cases e:b=c
  ·subst e
   rw[at1_hit]
   rfl
  ·rw[at1_miss e] at h ⊢
   have:=at1_get c l (by simpa using h)
   simp only[List.take_succ_cons,List.drop_succ_cons,List.cons_append]
   exact congrArg (b :: ·) this
theorem head_has {c:UInt8} {s:ByteArray} (h:hasB c s=true):headB c s++(⟨#[c]⟩++tailB c s)=s:=by
 have h1:=at1_get c s.data.toList (by simpa [hasB] using h)
 rw[← ofL_data (headB c s++(⟨#[c]⟩++tailB c s))]
 conv=>rhs;rw[← ofL_data s,h1]
 unfold headB tailB
 simp[ofL]
theorem head_not {c:UInt8} {s:ByteArray} (h:hasB c s=false):headB c s=s:=by
 have h1:¬at1 c s.data.toList<s.data.toList.length:=by simpa [hasB] using h
 unfold headB
 rw[List.take_of_length_le (by omega),ofL_data]
theorem cut_one (c:UInt8) (s:ByteArray):Lib.cut s.data.toList [c]=if hasB c s=true then ((headB c s).data.toList,(tailB c s).data.toList,true) else (s.data.toList,[],false):=by
 unfold Lib.cut headB tailB hasB
 rw[index_one,data_ofL,data_ofL]
 by_cases h:at1 c s.data.toList<s.data.toList.length
 ·simp only[h,if_true,decide_true,show (0:Int)≤(at1 c s.data.toList:Int) by omega,Int.toNat_natCast,List.length_cons,List.length_nil]
 ·simp only[h,if_false,decide_false,Bool.false_eq_true,show ¬(0:Int)≤-1 by omega]
theorem spec_split_l (s:ByteArray) (c:UInt8) (hs:s.size≤16777216) (d:Nat):∀ (i fr:Nat) (out:List ByteArray),i+d=s.size→fr≤i→out.length≤i →
  Ev (fun k=>spec_Split.l0 k s (c.toNat:Int) out (fr:Int) (i:Int)) (out++(glue ((s.data.toList.drop fr).take (i-fr)) (Lib.split (s.data.toList.drop i) [c])).map ofL):=by
 induction d with
 | zero=>
  intro i fr out hi hf ho
  obtain rfl:i=s.size:=by omega
  have h3:=wrap64_id (i:=(s.size:Int)+1) (by omega) (by omega)
  have hd:s.data.toList.drop s.size=[]:=List.drop_eq_nil_of_le (by simp)
  refine Ev.succ ?_
  simp only[spec_Split.l0,Int.le_refl,if_true,show (0:Int)≤(fr:Int) by omega,show (fr:Int)≤(s.size:Int) by omega,show out.length<8796093022208 by omega,h3]
  refine Ev.succ ?_
  simp only[spec_Split.l0,show ¬((s.size:Int)+1≤(s.size:Int)) by omega,if_false]
  refine Ev.cast Ev.some ?_
  rw[hd,split_nil (by simp)]
  simp only[glue,List.append_nil,List.map_cons,List.map_nil,Int.toNat_natCast,extract_ofL]
 | succ d ih=>
  intro i fr out hi hf ho
  have hlt:i<s.size:=by omega
  have h3:=next_i hlt (by omega)
  obtain⟨b,hb,hbt,hg⟩:=data_drop hlt
  refine Ev.succ ?_
  simp only[spec_Split.l0,show (i:Int)≤(s.size:Int) by omega,show ¬(i:Int)=(s.size:Int) by omega,show (0:Int)≤(i:Int) by omega,show (i:Int)<(s.size:Int) by omega,if_true,if_false,h3,hbt]
  by_cases h:b=c
  ·subst h
   simp only[show (0:Int)≤(fr:Int) by omega,show (fr:Int)≤(i:Int) by omega,show out.length<8796093022208 by omega,if_true]
   refine Ev.cast (ih (i+1) (i+1) _ (by omega) (by omega) (by simp;omega)) ?_
   rw[hb,split_one_at,Nat.sub_self,List.take_zero,glue_nil (split_ne _ _)]
   simp only[glue,List.append_nil,List.map_cons,List.append_assoc,List.singleton_append,Int.toNat_natCast,extract_ofL]
  ·have hne:¬((b.toNat:Int)=(c.toNat:Int)):=fun e=>h (UInt8.toNat_inj.1 (by omega))
   simp only[hne,if_false]
   refine Ev.cast (ih (i+1) fr out (by omega) (by omega) (by omega)) ?_
   rw[hb,split_one_by _ h,glue_glue _ _ _ (split_ne _ _)]
   congr 3
   have hx:(s.data.toList.drop fr)[i-fr]?=some b:=by rw[List.getElem?_drop,show fr+(i-fr)=i by omega,hg]
   rw[show i+1-fr=(i-fr)+1 by omega,List.take_add_one,hx]
   rfl
theorem spec_split (s:ByteArray) (c:UInt8) (hs:s.size≤16777216):Ev (fun k=>spec_Split.f k s (c.toNat:Int)) (piecesB s ⟨#[c]⟩):=by
 unfold spec_Split.f
 refine Ev.cast (spec_split_l s c hs s.size 0 0 [] (by omega) (by omega) (by simp)) ?_
 rw[List.nil_append,List.drop_zero,Nat.sub_self,List.take_zero,glue_nil (split_ne _ _)]
 rfl
theorem strings_split (s:ByteArray) (c:UInt8) (hs:s.size≤16777216):strings_Split.f s ⟨#[c]⟩=some (piecesB s ⟨#[c]⟩):=by
 unfold strings_Split.f
 rw[if_pos ⟨by omega,by show 1≤1;omega⟩,splitB_pieces]
def inB (x a b:Int):Bool:=decide (a≤x) && decide (x≤b)
def smallB (x:Int):Bool:=inB x 97 122
def digitB (x:Int):Bool:=inB x 48 57
def upperB (x:Int):Bool:=inB x 65 90
theorem in_f (a b c:Int):spec_l1In.f a b c=some (inB a b c):=by
 unfold spec_l1In.f inB
 by_cases h:b≤a <;> simp[h]
theorem inRange_f (a b c:Int):impl_inRange.f a b c=some (inB a b c):=by
 unfold impl_inRange.f inB
 by_cases h:b≤a <;> simp[h]
theorem small_spec {x:Int} (h:0≤x∧x≤255):spec_l1Small.f x=some (smallB x):=by
 unfold spec_l1Small.f
 rw[wrap64_id (by omega) (by omega),in_f]
 rfl
theorem digit_spec {x:Int} (h:0≤x∧x≤255):spec_l1Digit.f x=some (digitB x):=by
 unfold spec_l1Digit.f
 rw[wrap64_id (by omega) (by omega),in_f]
 rfl
theorem small_impl (x:Int):impl_isSmall.f x=some (smallB x):=by
 unfold impl_isSmall.f smallB inB
 by_cases h:97≤x <;> simp[h]
theorem digit_impl (x:Int):impl_isFigure.f x=some (digitB x):=by
 unfold impl_isFigure.f digitB inB
 by_cases h:48≤x <;> simp[h]
def numB (x:Int):ByteArray:=ofL (Lib.decDigits x.toNat)
theorem dig_one (x:Nat):strOfNums [wrap64 (48+Int.tmod (x:Int) 10) % 256]=ofL [UInt8.ofNat (48+x % 10)]:=by
 have h:wrap64 (48+Int.tmod (x:Int) 10) % 256=((48+x % 10:Nat):Int):=by
  rw[Int.tmod_eq_emod_of_nonneg (by omega),wrap64_id (by omega) (by omega)]
  omega
 rw[h]
 rfl
theorem ofL_append (a b:List UInt8):ofL a++ofL b=ofL (a++b):=by
 rw[← ofL_data (ofL a++ofL b)]
 simp[ofL]
theorem spec_num_l (m:Nat):∀ (x:Nat) (rest:List UInt8),x<10 ^ m→x≤9223372036854775807→m+rest.length≤100 →
  Ev (fun k=>spec_NumText.l0 k (x:Int) (ofL (UInt8.ofNat (48+x % 10) :: rest))) (ofL (Lib.decDigits x++rest)):=by
 induction m with
 | zero=>
  intro x rest hx _ hr
  obtain rfl:x=0:=by simp at hx;exact hx
  refine Ev.succ ?_
  simp only[spec_NumText.l0,show ¬((0:Nat):Int)>9 by omega,if_false]
  refine Ev.cast Ev.some ?_
  rw[Lib.decDigits,dif_pos (by omega)]
  rfl
 | succ m ih=>
  intro x rest hx hx2 hr
  by_cases h9:x<10
  ·refine Ev.succ ?_
   simp only[spec_NumText.l0,show ¬(x:Int)>9 by omega,if_false]
   refine Ev.cast Ev.some ?_
   rw[Lib.decDigits,dif_pos h9,Nat.mod_eq_of_lt h9]
   rfl
  ·have hd:wrap64 (Int.tdiv (x:Int) 10)=((x / 10:Nat):Int):=by
    rw[Int.tdiv_eq_ediv_of_nonneg (by omega),wrap64_id (by omega) (by omega)]
    omega
   have hw:∀ (y:Nat),(strOfNums [wrap64 (48+Int.tmod (y:Int) 10) % 256])=ofL [UInt8.ofNat (48+y % 10)]:=dig_one
   have:=ih (x / 10) (UInt8.ofNat (48+x % 10) :: rest) (by rw[Nat.pow_succ] at hx;omega) (by omega) (by simp only[List.length_cons];omega)
   refine Ev.succ ?_
   simp only[spec_NumText.l0,show (x:Int)>9 by omega,if_true,Option.bind_some,hd,hw,ofL_append,ofL_size,List.length_cons,List.length_nil,show 0+1+(rest.length+1)≤9223372036854775807 by omega]
   refine Ev.cast this ?_
   rw[show Lib.decDigits x=Lib.decDigits (x / 10)++[UInt8.ofNat (48+x % 10)] from by rw[Lib.decDigits,dif_neg h9]]
   simp
theorem spec_num (x:Int) (h:x≤9223372036854775807):Ev (fun k=>spec_NumText.f k x) (numB x):=by
 unfold spec_NumText.f numB
 by_cases h0:x<0
 ·simp only[h0,if_true]
  refine Ev.succ ?_
  simp only[spec_NumText.j0]
  have:=spec_num_l 1 0 [] (by omega) (by omega) (by simp)
  rw[show x.toNat=0 by omega]
  have hd:=dig_one 0
  rw[show ((0:Nat):Int)=0 from rfl] at hd this
  rw[hd]
  simpa using this
 ·simp only[h0,if_false]
  obtain⟨n,rfl⟩:∃ n:Nat,x=n:=⟨x.toNat,by omega⟩
  refine Ev.succ ?_
  simp only[spec_NumText.j0]
  have:=spec_num_l 19 n [] (by omega) (by omega) (by simp)
  rw[dig_one n]
  simpa using this
theorem impl_num (x:Int) (h:x≤9223372036854775807):impl_NumText.f x=some (numB x):=by
 unfold impl_NumText.f strconv_Itoa.f
 have hm:mx x 0=(x.toNat:Int):=by unfold mx;split <;> omega
 rw[hm,if_pos ⟨by omega,by omega⟩]
 simp only[Option.bind_some,numB,Lib.itoa,show ¬((x.toNat:Nat):Int)<0 by omega,if_false,Int.toNat_natCast]
 rfl
def valL (l:List UInt8):Nat:=l.foldl (fun a b=>a*10+(b.toNat-48)) 0
theorem valL_snoc (l:List UInt8) (b:UInt8):valL (l++[b])=valL l*10+(b.toNat-48):=by
 unfold valL
 rw[List.foldl_append]
 rfl
def digL (b:UInt8):Bool:=digitB (b.toNat:Int)
theorem digL_iff (b:UInt8):digL b=true↔48≤b.toNat∧b.toNat≤57:=by
 unfold digL digitB inB
 simp
 omega
theorem valL_lt:∀ (n:Nat) (l:List UInt8),l.length=n→(∀ b∈l,digL b=true)→valL l<10 ^ n
 | 0,l,hl,_=>by
  obtain rfl:=List.length_eq_zero_iff.1 hl
  decide
 | n+1,l,hl,hd=>by
  obtain⟨u,b,rfl⟩:∃ u b,l=u++[b]:=⟨l.dropLast,l.getLast (by intro e;simp[e] at hl),(List.dropLast_concat_getLast _).symm⟩
  have hb:=(digL_iff b).1 (hd b (by simp))
  have:=valL_lt n u (by simpa using hl) (fun c hc=>hd c (by simp[hc]))
  rw[valL_snoc,Nat.pow_succ]
  omega
theorem decDigits_head:∀ (n u:Nat),u≤n→1≤u→∃ h t,Lib.decDigits u=h :: t∧h≠48
 | 0,u,h,h1=>by omega
 | n+1,u,h,h1=>by
  by_cases h9:u<10
  ·refine⟨UInt8.ofNat (48+u),[],by rw[Lib.decDigits,dif_pos h9],fun e=>?_⟩
   have:=congrArg UInt8.toNat e
   simp at this
   omega
  ·obtain⟨a,t,e,ha⟩:=decDigits_head n (u / 10) (by omega) (by omega)
   exact⟨a,t++[UInt8.ofNat (48+u % 10)],by rw[Lib.decDigits,dif_neg h9,e];rfl,ha⟩
def noLead:List UInt8→Bool
 | []=>false
 | [_]=>true
 | b :: _ :: _=>b != 48
theorem decDigits_val:∀ (n:Nat) (l:List UInt8),l.length=n→(∀ b∈l,digL b=true)→noLead l=true→Lib.decDigits (valL l)=l
 | 0,l,hl,_,hn=>by
  obtain rfl:=List.length_eq_zero_iff.1 hl
  cases hn
 | n+1,l,hl,hd,hn=>by
  obtain⟨u,b,rfl⟩:∃ u b,l=u++[b]:=⟨l.dropLast,l.getLast (by intro e;simp[e] at hl),(List.dropLast_concat_getLast _).symm⟩
  have hb:=(digL_iff b).1 (hd b (by simp))
  rw[valL_snoc]
  cases u with
  | nil=>
   rw[show valL []=0 from rfl,Lib.decDigits,dif_pos (by omega)]
   have:UInt8.ofNat (48+(0*10+(b.toNat-48)))=b:=by
    apply UInt8.toNat_inj.1
    simp
    omega
   rw[this]
   rfl
  | cons a r=>
   have ha:a≠48:=by
    cases r with
    | nil=>simpa [noLead] using hn
    | cons c r=>simpa [noLead] using hn
   have had:=(digL_iff a).1 (hd a (by simp))
   have hnl:noLead (a :: r)=true:=by
    cases r with
    | nil=>rfl
    | cons c r=>simpa [noLead] using ha
   have ih:=decDigits_val n (a :: r) (by simpa using hl) (fun c hc=>hd c (by simp at hc ⊢;rcases hc with h|h <;> simp[h])) hnl
   have hpos:1≤valL (a :: r):=by
    apply Decidable.byContradiction
    intro hz
    have h0:valL (a :: r)=0:=by omega
    rw[h0,Lib.decDigits,dif_pos (by omega)] at ih
    have:(48:UInt8)=a:=(List.cons.inj ih).1
    exact ha this.symm
   rw[Lib.decDigits,dif_neg (by omega)]
   rw[show (valL (a :: r)*10+(b.toNat-48)) / 10=valL (a :: r) by omega,show (valL (a :: r)*10+(b.toNat-48)) % 10=b.toNat-48 by omega,ih]
   have:UInt8.ofNat (48+(b.toNat-48))=b:=by
    apply UInt8.toNat_inj.1
    simp
    omega
   rw[this]
theorem noLead_of_dec {l:List UInt8} (h:Lib.decDigits (valL l)=l):noLead l=true:=by
 match l,h with
 | [],h=>
  rw[show valL []=0 from rfl,Lib.decDigits,dif_pos (by omega)] at h
  cases h
 | [_],_=>rfl
 | a :: b :: r,h=>
  by_cases h0:valL (a :: b :: r)=0
  ·rw[h0,Lib.decDigits,dif_pos (by omega)] at h
   cases h
  ·obtain⟨c,t,e,hc⟩:=decDigits_head _ _ (Nat.le_refl _) (by omega:1≤valL (a :: b :: r))
   rw[h] at e
   obtain rfl:a=c:=(List.cons.inj e).1
   simpa [noLead] using hc
def valB (s:ByteArray):Int:=(valL s.data.toList:Int)
def parseOk (s:ByteArray):Bool:=inB s.size 1 7 && (s.data.toList.all digL && noLead s.data.toList)
def parseM (s:ByteArray) (most:Int):Int × Bool:=if parseOk s=true∧valB s≤most then (valB s,true) else (0,false)
theorem take_next {s:ByteArray} {i:Nat} {b:UInt8} (hg:s.data.toList[i]?=some b):s.data.toList.take (i+1)=s.data.toList.take i++[b]:=by
 rw[List.take_add_one,hg]
 rfl
theorem all_not {s:ByteArray} {i:Nat} {b:UInt8} (hg:s.data.toList[i]?=some b) (hb:digL b=false):s.data.toList.all digL=false:=by
 rw[List.all_eq_false]
 exact⟨b,List.mem_of_getElem? hg,by simp[hb]⟩
theorem step_val {s:ByteArray} {i:Nat} {b:UInt8} (hg:s.data.toList[i]?=some b) (hb:digL b=true) (hd:∀ c∈s.data.toList.take i,digL c=true) (hi:i<8) (hlt:i<s.size) :
  wrap64 (wrap64 ((valL (s.data.toList.take i):Int)*10)+(((b.toNat:Int)-48) % 256))=(valL (s.data.toList.take (i+1)):Int)∧∀ c∈s.data.toList.take (i+1),digL c=true:=by
 have hb':=(digL_iff b).1 hb
 have hl:(s.data.toList.take i).length=i:=by rw[List.length_take];simp;omega
 have hv:=valL_lt i _ hl hd
 have hp:10 ^ i≤10 ^ 7:=Nat.pow_le_pow_right (by omega) (by omega)
 have hp7:10 ^ 7=10000000:=by decide
 rw[take_next hg,valL_snoc]
 refine⟨?_,fun c hc=>?_⟩
 ·rw[wrap64_id (i:=(valL (s.data.toList.take i):Int)*10) (by omega) (by omega),wrap64_id (by omega) (by omega)]
  omega
 ·rcases List.mem_append.1 hc with h|h
  ·exact hd c h
  ·rw[List.mem_singleton.1 h];exact hb
theorem noLead_bytes {s:ByteArray} (h1:1≤s.size):noLead s.data.toList=(decide (¬(s.size:Int)>1) || decide (¬bt s 0=48)):=by
 obtain⟨b,hb,hbt,_⟩:=data_drop (s:=s) (i:=0) (by omega)
 rw[List.drop_zero] at hb
 have hl:s.data.toList.length=s.size:=by simp
 rw[show ((0:Nat):Int)=0 from rfl] at hbt
 rw[hbt]
 cases hr:s.data.toList.drop 1 with
 | nil=>
  rw[hb,hr] at hl ⊢
  simp only[List.length_cons,List.length_nil] at hl
  simp[noLead,show ¬(s.size:Int)>1 by omega]
 | cons c r=>
  rw[hb,hr] at hl ⊢
  simp only[List.length_cons] at hl
  simp only[noLead,show (s.size:Int)>1 by omega,not_true,decide_false,Bool.false_or]
  rw[Bool.eq_iff_iff]
  simp only[bne_iff_ne,ne_eq,decide_eq_true_eq]
  refine⟨fun h e=>h (UInt8.toNat_inj.1 (by simp;omega)),fun h e=>h (by rw[e];rfl)⟩
theorem spec_parse_big (s:ByteArray) (most:Int) (hs:7<s.size) (hs2:s.size≤9223372036854775807) (d:Nat):∀ (i:Nat) (n:Int),i+d=8→Ev (fun k=>spec_ParseNum.l0 k s most n (i:Int)) (0,false):=by
 have hin:inB (s.size:Int) 1 7=false:=by unfold inB;simp;omega
 induction d with
 | zero=>
  intro i n hi
  obtain rfl:i=8:=by omega
  refine Ev.succ ?_
  by_cases h:((8:Nat):Int)<(s.size:Int)
  ·simp only[spec_ParseNum.l0,h,if_true,show decide (((8:Nat):Int)<8)=false from rfl]
   refine Ev.succ ?_
   simp only[spec_ParseNum.j1,Bool.false_eq_true,if_false,in_f,hin,Option.bind_some]
   first|(refine Ev.succ (g:=fun k=>spec_ParseNum.j1 k _ _ _ _ _) ?_;simp only[spec_ParseNum.j1])|(refine Ev.succ (g:=fun k=>spec_ParseNum.j2 k _ _) ?_;simp only[spec_ParseNum.j2])|skip
   try simp only[if_true]
   exact Ev.some
  ·simp only[spec_ParseNum.l0,h,if_false]
   refine Ev.succ ?_
   simp only[spec_ParseNum.j1,Bool.false_eq_true,if_false,in_f,hin,Option.bind_some]
   first|(refine Ev.succ (g:=fun k=>spec_ParseNum.j1 k _ _ _ _ _) ?_;simp only[spec_ParseNum.j1])|(refine Ev.succ (g:=fun k=>spec_ParseNum.j2 k _ _) ?_;simp only[spec_ParseNum.j2])|skip
   try simp only[if_true]
   exact Ev.some
 | succ d ih=>
  intro i n hi
  have h1:(i:Int)<(s.size:Int):=by omega
  have h2:(0:Int)≤(i:Int):=by omega
  have h3:=next_i (show i<s.size by omega) hs2
  refine Ev.succ ?_
  simp only[spec_ParseNum.l0,h1,if_true,show decide ((i:Int)<8)=true by simp;omega]
  refine Ev.succ ?_
  simp only[spec_ParseNum.j1,if_true,h1,h2,h3,digit_spec (bt_range s i),Option.bind_some]
  cases hp:digitB (bt s (i:Int)) with
  | true=>simpa using ih (i+1) _ (by omega)
  | false=>simpa using Ev.some
theorem spec_parse_l (s:ByteArray) (most:Int) (hs:s.size≤7) (d:Nat):∀ (i:Nat),i+d=s.size→(∀ c∈s.data.toList.take i,digL c=true)→Ev (fun k=>spec_ParseNum.l0 k s most (valL (s.data.toList.take i):Int) (i:Int)) (parseM s most):=by
 induction d with
 | zero=>
  intro i hi hd
  obtain rfl:i=s.size:=by omega
  have ht:s.data.toList.take s.size=s.data.toList:=List.take_of_length_le (by simp)
  rw[ht] at hd ⊢
  have hall:s.data.toList.all digL=true:=List.all_eq_true.2 hd
  refine Ev.succ ?_
  simp only[spec_ParseNum.l0,show ¬(s.size:Int)<(s.size:Int) by omega,if_false]
  refine Ev.succ ?_
  simp only[spec_ParseNum.j1,Bool.false_eq_true,if_false,in_f,Option.bind_some]
  unfold parseM parseOk
  rw[hall,Bool.true_and]
  cases hb:inB (s.size:Int) 1 7 with
  | false=>
   simp only[Bool.false_eq_true,if_false,Bool.false_and,Bool.and_false]
   first|(refine Ev.succ (g:=fun k=>spec_ParseNum.j1 k _ _ _ _ _) ?_;simp only[spec_ParseNum.j1])|(refine Ev.succ (g:=fun k=>spec_ParseNum.j2 k _ _) ?_;simp only[spec_ParseNum.j2])|skip
   simpa using Ev.some
  | true=>
   have h1:1≤s.size:=by unfold inB at hb;simp at hb;omega
   rw[noLead_bytes h1]
   simp only[if_true,Bool.true_and]
   by_cases hg:(s.size:Int)>1
   ·simp only[hg,if_true,show (0:Int)<(s.size:Int) by omega,not_true,decide_false,Bool.false_or]
    by_cases hz:bt s 0=48
    ·simp only[hz,if_true,not_true,decide_false]
     first|(refine Ev.succ (g:=fun k=>spec_ParseNum.j1 k _ _ _ _ _) ?_;simp only[spec_ParseNum.j1])|(refine Ev.succ (g:=fun k=>spec_ParseNum.j2 k _ _) ?_;simp only[spec_ParseNum.j2])|skip
     simpa using Ev.some
    ·simp only[hz,if_false,not_false_eq_true,decide_true,true_and]
     by_cases hm:(valL s.data.toList:Int)>most
     ·simp only[hm,if_true]
      rw[if_neg (by unfold valB;omega)]
      first|(refine Ev.succ (g:=fun k=>spec_ParseNum.j1 k _ _ _ _ _) ?_;simp only[spec_ParseNum.j1])|(refine Ev.succ (g:=fun k=>spec_ParseNum.j2 k _ _) ?_;simp only[spec_ParseNum.j2])|skip
      try simp only[hm,if_true,if_false,decide_true,decide_false,Bool.false_eq_true]
      exact Ev.some
     ·simp only[hm,if_false]
      rw[if_pos (by unfold valB;omega)]
      first|(refine Ev.succ (g:=fun k=>spec_ParseNum.j1 k _ _ _ _ _) ?_;simp only[spec_ParseNum.j1])|(refine Ev.succ (g:=fun k=>spec_ParseNum.j2 k _ _) ?_;simp only[spec_ParseNum.j2])|skip
      try simp only[hm,if_true,if_false,decide_true,decide_false,Bool.false_eq_true]
      exact Ev.some
   ·simp only[hg,if_false,not_false_eq_true,decide_true,Bool.true_or,true_and]
    by_cases hm:(valL s.data.toList:Int)>most
    ·simp only[hm,if_true]
     rw[if_neg (by unfold valB;omega)]
     first|(refine Ev.succ (g:=fun k=>spec_ParseNum.j1 k _ _ _ _ _) ?_;simp only[spec_ParseNum.j1])|(refine Ev.succ (g:=fun k=>spec_ParseNum.j2 k _ _) ?_;simp only[spec_ParseNum.j2])|skip
     try simp only[hm,if_true,if_false,decide_true,decide_false,Bool.false_eq_true]
     exact Ev.some
    ·simp only[hm,if_false]
     rw[if_pos (by unfold valB;omega)]
     first|(refine Ev.succ (g:=fun k=>spec_ParseNum.j1 k _ _ _ _ _) ?_;simp only[spec_ParseNum.j1])|(refine Ev.succ (g:=fun k=>spec_ParseNum.j2 k _ _) ?_;simp only[spec_ParseNum.j2])|skip
     try simp only[hm,if_true,if_false,decide_true,decide_false,Bool.false_eq_true]
     exact Ev.some
 | succ d ih=>
  intro i hi hd
  have hlt:i<s.size:=by omega
  have h1:(i:Int)<(s.size:Int):=by omega
  have h2:(0:Int)≤(i:Int):=by omega
  have h3:=next_i hlt (by omega)
  obtain⟨b,_,hbt,hg⟩:=data_drop hlt
  refine Ev.succ ?_
  simp only[spec_ParseNum.l0,h1,if_true,show decide ((i:Int)<8)=true by simp;omega]
  refine Ev.succ ?_
  simp only[spec_ParseNum.j1,if_true,h1,h2,h3,digit_spec (bt_range s i),Option.bind_some]
  rw[hbt]
  show Ev (fun k=>if digL b=true then _ else _) _
  cases hp:digL b with
  | true=>
   have hst:=step_val hg hp hd (by omega) hlt
   simp only[if_true,hst.1]
   exact ih (i+1) (by omega) hst.2
  | false=>
   simp only[Bool.false_eq_true,if_false]
   unfold parseM parseOk
   rw[all_not hg hp]
   simpa using Ev.some
theorem spec_parse (s:ByteArray) (most:Int) (hs:s.size≤9223372036854775807):Ev (fun k=>spec_ParseNum.f k s most) (parseM s most):=by
 unfold spec_ParseNum.f
 by_cases h7:s.size≤7
 ·exact spec_parse_l s most h7 s.size 0 (by omega) (by simp)
 ·have:=spec_parse_big s most (by omega) hs 8 0 0 (by omega)
  have hin:inB (s.size:Int) 1 7=false:=by unfold inB;simp;omega
  unfold parseM parseOk
  rw[hin]
  simpa using this
theorem impl_parse_l (s:ByteArray) (most:Int) (hs1:1≤s.size) (hs:s.size≤7) (d:Nat):∀ (i:Nat),i+d=s.size→(∀ c∈s.data.toList.take i,digL c=true)→Ev (fun k=>impl_ParseNum.l0 k s most (valL (s.data.toList.take i):Int) (i:Int)) (parseM s most):=by
 have hin:inB (s.size:Int) 1 7=true:=by unfold inB;simp;omega
 induction d with
 | zero=>
  intro i hi hd
  obtain rfl:i=s.size:=by omega
  have ht:s.data.toList.take s.size=s.data.toList:=List.take_of_length_le (by simp)
  rw[ht] at hd ⊢
  have hall:s.data.toList.all digL=true:=List.all_eq_true.2 hd
  have hv:=valL_lt s.size s.data.toList (by simp) hd
  have hp:10 ^ s.size≤10 ^ 7:=Nat.pow_le_pow_right (by omega) (by omega)
  have hp7:10 ^ 7=10000000:=by decide
  refine Ev.succ ?_
  simp only[impl_ParseNum.l0,show ¬(s.size:Int)<(s.size:Int) by omega,if_false]
  simp only[impl_num (valL s.data.toList:Int) (by omega),Option.bind_some,toList_data]
  unfold numB parseM parseOk
  rw[data_ofL,Int.toNat_natCast,hall,hin]
  by_cases hn:noLead s.data.toList=true
  ·have he:=decDigits_val _ _ rfl hd hn
   simp only[he,if_true,hn,Bool.true_and,true_and]
   by_cases hm:(valL s.data.toList:Int)>most
   ·simp only[hm,if_true]
    rw[if_neg (by unfold valB;omega)]
    exact Ev.some
   ·simp only[hm,if_false]
    rw[if_pos (by unfold valB;omega)]
    exact Ev.some
  ·have he:¬Lib.decDigits (valL s.data.toList)=s.data.toList:=fun e=>hn (noLead_of_dec e)
   simp only[he,if_false,hn,Bool.true_and,false_and]
   exact Ev.some
 | succ d ih=>
  intro i hi hd
  have hlt:i<s.size:=by omega
  have h1:(i:Int)<(s.size:Int):=by omega
  have h2:(0:Int)≤(i:Int):=by omega
  have h3:=next_i hlt (by omega)
  obtain⟨b,_,hbt,hg⟩:=data_drop hlt
  refine Ev.succ ?_
  simp only[impl_ParseNum.l0,if_true,h1,h2,h3,digit_impl,Option.bind_some]
  rw[hbt]
  show Ev (fun k=>if digL b=true then _ else _) _
  cases hp:digL b with
  | true=>
   have hst:=step_val hg hp hd (by omega) hlt
   simp only[if_true,hst.1]
   exact ih (i+1) (by omega) hst.2
  | false=>
   simp only[Bool.false_eq_true,if_false]
   unfold parseM parseOk
   rw[all_not hg hp]
   simpa using Ev.some
theorem impl_parse (s:ByteArray) (most:Int):Ev (fun k=>impl_ParseNum.f k s most) (parseM s most):=by
 unfold impl_ParseNum.f
 simp only[inRange_f,Option.bind_some]
 cases hb:inB (s.size:Int) 1 7 with
 | false=>
  unfold parseM parseOk
  rw[hb]
  simpa using Ev.some
 | true=>
  have hb':=hb
  unfold inB at hb'
  simp at hb'
  simp only[if_true]
  refine Ev.succ ?_
  simp only[impl_ParseNum.j0]
  exact impl_parse_l s most (by omega) (by omega) s.size 0 (by omega) (by simp)
def digitsB (s:ByteArray):Bool:=(bs s).all digitB
theorem spec_digits_l (s:ByteArray) (hs:s.size≤9223372036854775807) (d:Nat):∀ i:Nat,i+d=s.size→Ev (fun k=>spec_l3Digits.l0 k s (i:Int)) (((bs s).drop i).all digitB):=by
 induction d with
 | zero=>
  intro i hi
  have h1:¬(i:Int)<(s.size:Int):=by omega
  refine Ev.succ ?_
  simp only[spec_l3Digits.l0,h1,if_false,bs_end (show s.size≤i by omega),List.all_nil]
  exact Ev.some
 | succ d ih=>
  intro i hi
  have h1:(i:Int)<(s.size:Int):=by omega
  have h2:(0:Int)≤(i:Int):=by omega
  have h3:=next_i (show i<s.size by omega) hs
  have ih':=ih (i+1) (by omega)
  refine Ev.succ ?_
  rw[bs_drop (by omega),List.all_cons]
  simp only[spec_l3Digits.l0,h1,h2,h3,if_true,digit_spec (bt_range s i),Option.bind_some]
  cases hp:digitB (bt s (i:Int)) with
  | true=>simpa using ih'
  | false=>simpa using Ev.some
theorem spec_digits (s:ByteArray) (hs:s.size≤9223372036854775807):Ev (fun k=>spec_l3Digits.f k s) (digitsB s):=spec_digits_l s hs s.size 0 (by omega)
theorem impl_figures_l (s:ByteArray) (hs:s.size≤9223372036854775807) (d:Nat):∀ i:Nat,i+d=s.size→Ev (fun k=>impl_isFigures.l0 k s (i:Int)) (((bs s).drop i).all digitB && decide (s.size≠0)):=by
 induction d with
 | zero=>
  intro i hi
  have h1:¬(i:Int)<(s.size:Int):=by omega
  refine Ev.succ ?_
  simp only[impl_isFigures.l0,h1,if_false,bs_end (show s.size≤i by omega),List.all_nil,Bool.true_and]
  refine Ev.cast Ev.some ?_
  rw[toList_data]
  by_cases h:s.size=0
  ·have:s.data.toList=[]:=by
    apply List.eq_nil_of_length_eq_zero
    simpa using h
   rw[this,h]
   rfl
  ·have:s.data.toList≠[]:=by
    intro e
    apply h
    have:=congrArg List.length e
    simpa using this
   simp[h,this]
 | succ d ih=>
  intro i hi
  have h1:(i:Int)<(s.size:Int):=by omega
  have h2:(0:Int)≤(i:Int):=by omega
  have h3:=next_i (show i<s.size by omega) hs
  have ih':=ih (i+1) (by omega)
  refine Ev.succ ?_
  rw[bs_drop (by omega),List.all_cons]
  simp only[impl_isFigures.l0,h1,h2,h3,if_true,digit_impl,Option.bind_some]
  cases hp:digitB (bt s (i:Int)) with
  | true=>simpa using ih'
  | false=>simpa using Ev.some
theorem impl_figures (s:ByteArray) (hs:s.size≤9223372036854775807):Ev (fun k=>impl_isFigures.f k s) (digitsB s && decide (s.size≠0)):=impl_figures_l s hs s.size 0 (by omega)
def preC (x:Int):Bool:=smallB x || upperB x || digitB x || decide (x=45)
def preEnd (s:ByteArray):Bool:=inB s.size 1 8 && (!digitsB s || decide (s.size=1) || decide (bt s 0≠48))
def preB (s:ByteArray):Bool:=(bs s).all preC && preEnd s
theorem spec_part_l (s:ByteArray) (hs:s.size≤9223372036854775807) (d:Nat):∀ i:Nat,i+d=s.size→Ev (fun k=>spec_l3Part.l0 k s (i:Int)) (((bs s).drop i).all preC && preEnd s):=by
 induction d with
 | zero=>
  intro i hi
  have h1:¬(i:Int)<(s.size:Int):=by omega
  refine Ev.succ ?_
  simp only[spec_l3Part.l0,h1,if_false,bs_end (show s.size≤i by omega),List.all_nil,Bool.true_and,in_f,Option.bind_some,preEnd]
  cases hb:inB (s.size:Int) 1 8 with
  | false=>simpa using Ev.some
  | true=>
   simp only[if_true,Bool.true_and]
   refine Ev.bind (spec_digits s hs) ?_
   cases hd:digitsB s with
   | false=>simpa using Ev.some
   | true=>
    have hpos:(0:Int)<(s.size:Int):=by simp[inB] at hb;omega
    simp only[if_true,hpos,Bool.not_true,Bool.false_or]
    by_cases he:(s.size:Int)=1
    ·simp only[he,if_true]
     refine Ev.cast Ev.some ?_
     simp[show s.size=1 by omega]
    ·simp only[he,if_false]
     refine Ev.cast Ev.some ?_
     simp only[show ¬s.size=1 by omega,decide_false,Bool.false_or]
     by_cases h0:bt s 0=48 <;> simp[h0]
 | succ d ih=>
  intro i hi
  have h1:(i:Int)<(s.size:Int):=by omega
  have h2:(0:Int)≤(i:Int):=by omega
  have h3:=next_i (show i<s.size by omega) hs
  have ih':=ih (i+1) (by omega)
  have hr:=bt_range s i
  refine Ev.succ ?_
  rw[bs_drop (by omega),List.all_cons]
  simp only[spec_l3Part.l0,h1,if_true]
  refine Ev.succ ?_
  simp only[spec_l3Part.j1,h1,h2,h3,if_true,digit_spec hr,small_spec hr,wrap64_id (show -9223372036854775808≤bt s (i:Int) by omega) (show bt s (i:Int)≤9223372036854775807 by omega),in_f,Option.bind_some,preC]
  cases hp:digitB (bt s (i:Int)) with
  | true=>
   simp only[if_true]
   first|(refine Ev.succ (g:=fun k=>spec_l3Part.j1 k _ _) ?_;simp only[spec_l3Part.j1])|(refine Ev.succ (g:=fun k=>spec_l3Part.j2 k _ _ _) ?_;simp only[spec_l3Part.j2])|skip
   simpa [h3] using ih'
  | false=>
   cases hq:smallB (bt s (i:Int)) with
   | true=>
    simp only[Bool.false_eq_true,if_true,if_false]
    first|(refine Ev.succ (g:=fun k=>spec_l3Part.j1 k _ _) ?_;simp only[spec_l3Part.j1])|(refine Ev.succ (g:=fun k=>spec_l3Part.j2 k _ _ _) ?_;simp only[spec_l3Part.j2])|skip
    simpa [h3] using ih'
   | false=>
    cases hu:inB (bt s (i:Int)) 65 90 with
    | true=>
     simp only[Bool.false_eq_true,if_true,if_false,hu]
     first|(refine Ev.succ (g:=fun k=>spec_l3Part.j1 k _ _) ?_;simp only[spec_l3Part.j1])|(refine Ev.succ (g:=fun k=>spec_l3Part.j2 k _ _ _) ?_;simp only[spec_l3Part.j2])|skip
     simpa [upperB,hu,h3] using ih'
    | false=>
     simp only[Bool.false_eq_true,if_false]
     first|(refine Ev.succ (g:=fun k=>spec_l3Part.j1 k _ _) ?_;simp only[spec_l3Part.j1])|(refine Ev.succ (g:=fun k=>spec_l3Part.j2 k _ _ _) ?_;simp only[spec_l3Part.j2])|skip
     by_cases he:bt s (i:Int)=45
     ·simpa [he,h3] using ih'
     ·simpa [upperB,hu,he] using Ev.some
theorem spec_part (s:ByteArray) (hs:s.size≤9223372036854775807):Ev (fun k=>spec_l3Part.f k s) (preB s):=spec_part_l s hs s.size 0 (by omega)
theorem one_zero (s:ByteArray):s.toList=([48]:List UInt8)↔(s.size=1∧bt s 0=48):=by
 rw[toList_data]
 constructor
 ·intro h
  have hl:s.size=1:=by
   have:=congrArg List.length h
   simpa using this
  refine⟨hl,?_⟩
  rw[bt_bs]
  unfold bs
  rw[h]
  rfl
 ·rintro⟨h1,h2⟩
  rw[bt_bs] at h2
  have hb:bs s=[48]:=by
   have hl:=bs_length s
   rw[h1] at hl
   match hq:bs s,hl with
   | [x],_=>
    rw[hq] at h2
    simp at h2
    rw[h2]
  unfold bs at hb
  match hq:s.data.toList with
  | []=>rw[hq] at hb;cases hb
  | [x]=>
   rw[hq] at hb
   simp at hb
   have:x=48:=by
    apply UInt8.toNat_inj.1
    simp
    omega
   rw[this]
  | x :: y :: r=>rw[hq] at hb;simp at hb
theorem impl_pre_l (s:ByteArray) (hs:s.size≤9223372036854775807) (d:Nat):∀ i:Nat,i+d=s.size→Ev (fun k=>impl_preOk.l0 k s (i:Int)) (((bs s).drop i).all preC && preEnd s):=by
 induction d with
 | zero=>
  intro i hi
  have h1:¬(i:Int)<(s.size:Int):=by omega
  refine Ev.succ ?_
  simp only[impl_preOk.l0,h1,if_false,bs_end (show s.size≤i by omega),List.all_nil,Bool.true_and,inRange_f,Option.bind_some,preEnd]
  cases hb:inB (s.size:Int) 1 8 with
  | false=>simpa using Ev.some
  | true=>
   simp only[if_true,Bool.true_and]
   have hpos:(0:Int)<(s.size:Int):=by simp[inB] at hb;omega
   refine Ev.bind (impl_figures s hs) ?_
   simp only[show s.size≠0 by omega,ne_eq,not_false_eq_true,decide_true,Bool.and_true]
   cases hd:digitsB s with
   | false=>simpa using Ev.some
   | true=>
    simp only[if_true,hpos,Bool.not_true,Bool.false_or,one_zero]
    by_cases he:s.size=1
    ·by_cases h0:bt s 0=48
     ·simp only[he,h0,and_self,if_true]
      exact Ev.some
     ·simp only[he,h0,and_false,if_false]
      refine Ev.cast Ev.some ?_
      simp[h0]
    ·simp only[he,false_and,if_false]
     refine Ev.cast Ev.some ?_
     simp only[decide_false,Bool.false_or]
     by_cases h0:bt s 0=48 <;> simp[h0]
 | succ d ih=>
  intro i hi
  have h1:(i:Int)<(s.size:Int):=by omega
  have h2:(0:Int)≤(i:Int):=by omega
  have h3:=next_i (show i<s.size by omega) hs
  have ih':=ih (i+1) (by omega)
  have hr:=bt_range s i
  refine Ev.succ ?_
  rw[bs_drop (by omega),List.all_cons]
  simp only[impl_preOk.l0,h1,if_true]
  refine Ev.succ ?_
  simp only[impl_preOk.j1,h1,h2,h3,if_true,digit_impl,small_impl,Option.bind_some,preC,upperB,inB,ge_iff_le]
  cases hq:smallB (bt s (i:Int)) with
  | true=>
   try simp only[Bool.false_eq_true,if_true,if_false]
   first|(refine Ev.succ (g:=fun k=>impl_preOk.j1 k _ _) ?_;simp only[impl_preOk.j1])|(refine Ev.succ (g:=fun k=>impl_preOk.j2 k _ _ _) ?_;simp only[impl_preOk.j2])|skip
   simpa [h3] using ih'
  | false=>
   by_cases ha:65≤bt s (i:Int)
   ·by_cases hb:bt s (i:Int)≤90
    ·try simp only[Bool.false_eq_true,if_true,if_false,ha,hb]
     first|(refine Ev.succ (g:=fun k=>impl_preOk.j1 k _ _) ?_;simp only[impl_preOk.j1])|(refine Ev.succ (g:=fun k=>impl_preOk.j2 k _ _ _) ?_;simp only[impl_preOk.j2])|skip
     simpa [h3,ha,hb] using ih'
    ·cases hp:digitB (bt s (i:Int)) with
     | true=>
      try simp only[Bool.false_eq_true,if_true,if_false,ha,hb]
      first|(refine Ev.succ (g:=fun k=>impl_preOk.j1 k _ _) ?_;simp only[impl_preOk.j1])|(refine Ev.succ (g:=fun k=>impl_preOk.j2 k _ _ _) ?_;simp only[impl_preOk.j2])|skip
      simpa [h3,ha,hb] using ih'
     | false=>
      by_cases he:bt s (i:Int)=45
      ·simp[he] at ha
      ·try simp only[Bool.false_eq_true,if_true,if_false,ha,hb,he]
       first|(refine Ev.succ (g:=fun k=>impl_preOk.j1 k _ _) ?_;simp only[impl_preOk.j1])|(refine Ev.succ (g:=fun k=>impl_preOk.j2 k _ _ _) ?_;simp only[impl_preOk.j2])|skip
       simpa [h3,ha,hb,he] using Ev.some
   ·cases hp:digitB (bt s (i:Int)) with
    | true=>
     try simp only[Bool.false_eq_true,if_true,if_false,ha]
     first|(refine Ev.succ (g:=fun k=>impl_preOk.j1 k _ _) ?_;simp only[impl_preOk.j1])|(refine Ev.succ (g:=fun k=>impl_preOk.j2 k _ _ _) ?_;simp only[impl_preOk.j2])|skip
     simpa [h3,ha] using ih'
    | false=>
     by_cases he:bt s (i:Int)=45
     ·try simp only[Bool.false_eq_true,if_true,if_false,he]
      first|(refine Ev.succ (g:=fun k=>impl_preOk.j1 k _ _) ?_;simp only[impl_preOk.j1])|(refine Ev.succ (g:=fun k=>impl_preOk.j2 k _ _ _) ?_;simp only[impl_preOk.j2])|skip
      simpa [h3,he] using ih'
     ·try simp only[Bool.false_eq_true,if_true,if_false,ha,he]
      first|(refine Ev.succ (g:=fun k=>impl_preOk.j1 k _ _) ?_;simp only[impl_preOk.j1])|(refine Ev.succ (g:=fun k=>impl_preOk.j2 k _ _ _) ?_;simp only[impl_preOk.j2])|skip
      simpa [h3,ha,he] using Ev.some
theorem impl_pre (s:ByteArray) (hs:s.size≤9223372036854775807):Ev (fun k=>impl_preOk.f k s) (preB s):=impl_pre_l s hs s.size 0 (by omega)
def verEnd (a b c:Int) (l:List ByteArray):Bool:=inB a 0 9999 && (inB b 0 9999 && (inB c 0 9999 && decide ((l.length:Int)≤3)))
def verB (a b c:Int) (l:List ByteArray):Bool:=l.all preB && verEnd a b c l
theorem spec_ver_l (a b c:Int) (l:List ByteArray) (hl:l.length≤9223372036854775807) (hs:∀ x∈l,x.size≤9223372036854775807) (d:Nat):∀ i:Nat,i+d=l.length→Ev (fun k=>spec_VerOk.l0 k (i:Int) a b c l) ((l.drop i).all preB && verEnd a b c l):=by
 induction d with
 | zero=>
  intro i hi
  have h1:¬(i:Int)<(l.length:Int):=by omega
  refine Ev.succ ?_
  rw[List.drop_eq_nil_of_le (by omega)]
  simp only[spec_VerOk.l0,h1,if_false,List.all_nil,Bool.true_and,in_f,Option.bind_some,verEnd]
  cases inB a 0 9999 <;> cases inB b 0 9999 <;> cases inB c 0 9999 <;> simpa using Ev.some
 | succ d ih=>
  intro i hi
  have hlt:i<l.length:=by omega
  have h1:(i:Int)<(l.length:Int):=by omega
  have h2:(0:Int)≤(i:Int):=by omega
  have h3:=next_i hlt hl
  have ih':=ih (i+1) (by omega)
  refine Ev.succ ?_
  rw[drop_get hlt,List.all_cons]
  simp only[spec_VerOk.l0,h1,h2,h3,if_true,rdOf_cast _ hlt]
  refine Ev.bind (spec_part l[i] (hs _ (List.getElem_mem hlt))) ?_
  cases hp:preB l[i] with
  | true=>simpa using ih'
  | false=>simpa using Ev.some
theorem spec_ver (a b c:Int) (l:List ByteArray) (hl:l.length≤9223372036854775807) (hs:∀ x∈l,x.size≤9223372036854775807):Ev (fun k=>spec_VerOk.f k a b c l) (verB a b c l):=spec_ver_l a b c l hl hs l.length 0 (by omega)
theorem impl_ver_l (a b c:Int) (l:List ByteArray) (hl:l.length≤9223372036854775807) (hs:∀ x∈l,x.size≤9223372036854775807) (d:Nat):∀ i:Nat,i+d=l.length→Ev (fun k=>impl_VerOk.l0 k l (l.length:Int) (i:Int) a b c l) ((l.drop i).all preB && verEnd a b c l):=by
 induction d with
 | zero=>
  intro i hi
  have h1:¬(i:Int)<(l.length:Int):=by omega
  refine Ev.succ ?_
  rw[List.drop_eq_nil_of_le (by omega)]
  simp only[impl_VerOk.l0,h1,if_false,List.all_nil,Bool.true_and,inRange_f,Option.bind_some,verEnd]
  cases inB a 0 9999 <;> cases inB b 0 9999 <;> cases inB c 0 9999 <;> simpa using Ev.some
 | succ d ih=>
  intro i hi
  have hlt:i<l.length:=by omega
  have h1:(i:Int)<(l.length:Int):=by omega
  have h2:(0:Int)≤(i:Int):=by omega
  have h3:=next_i hlt hl
  have ih':=ih (i+1) (by omega)
  refine Ev.succ ?_
  rw[drop_get hlt,List.all_cons]
  simp only[impl_VerOk.l0,h1,h2,h3,if_true,rdOf_cast _ hlt]
  refine Ev.bind (impl_pre l[i] (hs _ (List.getElem_mem hlt))) ?_
  cases hp:preB l[i] with
  | true=>simpa using ih'
  | false=>simpa using Ev.some
theorem impl_ver (a b c:Int) (l:List ByteArray) (hl:l.length≤9223372036854775807) (hs:∀ x∈l,x.size≤9223372036854775807):Ev (fun k=>impl_VerOk.f k a b c l) (verB a b c l):=impl_ver_l a b c l hl hs l.length 0 (by omega)
theorem decDigits_length:∀ (m u:Nat),u<10 ^ (m+1)→(Lib.decDigits u).length≤m+1
 | 0,u,h=>by
  rw[Lib.decDigits,dif_pos (by simpa using h)]
  simp
 | m+1,u,h=>by
  by_cases h9:u<10
  ·rw[Lib.decDigits,dif_pos h9]
   simp
  ·have:=decDigits_length m (u / 10) (by rw[Nat.pow_succ] at h;omega)
   rw[Lib.decDigits,dif_neg h9,List.length_append]
   simp only[List.length_cons,List.length_nil]
   omega
theorem numB_size {x:Int} (h:x≤9223372036854775807):(numB x).size≤19:=by
 unfold numB
 rw[ofL_size]
 exact decDigits_length 18 _ (by omega)
def dot:ByteArray:=⟨#[46]⟩
def dash:ByteArray:=⟨#[45]⟩
theorem dot_size:(⟨#[46]⟩:ByteArray).size=1:=rfl
theorem dash_size:(⟨#[45]⟩:ByteArray).size=1:=rfl
theorem app_assoc (a b c:ByteArray):a++b++c=a++(b++c):=by
 rw[← ofL_data (a++b++c),← ofL_data (a++(b++c))]
 simp
def verCore (a b c:Int):ByteArray:=numB a++dot++numB b++dot++numB c
def verT (a b c:Int) (l:List ByteArray):ByteArray:=if verB a b c l=true then (if (l.length:Int)>0 then verCore a b c++(dash++joinB l dot) else verCore a b c) else ⟨#[]⟩
theorem ver_parts {a b c:Int} {l:List ByteArray} (h:verB a b c l=true):0≤a∧a≤9999∧0≤b∧b≤9999∧0≤c∧c≤9999∧l.length≤3:=by
 unfold verB verEnd inB at h
 simp at h
 omega
theorem spec_vertext (a b c:Int) (l:List ByteArray) (hl:l.length≤9223372036854775807) (hs:∀ x∈l,x.size≤9223372036854775807) (hN:joinN l dot≤2199023255552):Ev (fun k=>spec_VerText.f k a b c l) (verT a b c l):=by
 unfold spec_VerText.f verT
 refine Ev.bind (spec_ver a b c l hl hs) ?_
 cases hv:verB a b c l with
 | false=>simpa using Ev.some
 | true=>
  obtain⟨a0,a1,b0,b1,c0,c1,l3⟩:=ver_parts hv
  have na:=numB_size (x:=a) (by omega)
  have nb:=numB_size (x:=b) (by omega)
  have nc:=numB_size (x:=c) (by omega)
  have hj:=joinB_size l dot
  simp only[if_true]
  refine Ev.succ ?_
  simp only[spec_VerText.j0]
  refine Ev.bind (spec_num a (by omega)) ?_
  refine Ev.yes (by omega) ?_
  refine Ev.bind (spec_num b (by omega)) ?_
  refine Ev.yes (by simp only[ByteArray.size_append,dot_size];omega) ?_
  refine Ev.yes (by simp only[ByteArray.size_append,dot_size];omega) ?_
  refine Ev.bind (spec_num c (by omega)) ?_
  refine Ev.yes (by simp only[ByteArray.size_append,dot_size];omega) ?_
  by_cases hp:(l.length:Int)>0
  ·simp only[hp,if_true]
   refine Ev.yes (by simp only[ByteArray.size_append,dot_size];omega) ?_
   refine Ev.bind (spec_join l dot (by omega) (by omega)) ?_
   refine Ev.yes (by simp only[ByteArray.size_append,dot_size,dash_size];omega) ?_
   exact Ev.cast Ev.some (by rw[app_assoc];rfl)
  ·simp only[hp,if_false]
   exact Ev.some
theorem impl_vertext (a b c:Int) (l:List ByteArray) (hl:l.length≤9223372036854775807) (hs:∀ x∈l,x.size≤9223372036854775807) (hN:joinN l dot≤2199023255552):Ev (fun k=>impl_VerText.f k a b c l) (verT a b c l):=by
 unfold impl_VerText.f verT
 refine Ev.bind (impl_ver a b c l hl hs) ?_
 cases hv:verB a b c l with
 | false=>simpa using Ev.some
 | true=>
  obtain⟨a0,a1,b0,b1,c0,c1,l3⟩:=ver_parts hv
  have na:=numB_size (x:=a) (by omega)
  have nb:=numB_size (x:=b) (by omega)
  have nc:=numB_size (x:=c) (by omega)
  have hj:=joinB_size l dot
  simp only[if_true]
  refine Ev.succ ?_
  simp only[impl_VerText.j0,impl_num a (show a≤9223372036854775807 by omega),impl_num b (show b≤9223372036854775807 by omega),impl_num c (show c≤9223372036854775807 by omega),Option.bind_some]
  refine Ev.yes (by omega) ?_
  refine Ev.yes (by simp only[ByteArray.size_append,dot_size];omega) ?_
  refine Ev.yes (by simp only[ByteArray.size_append,dot_size];omega) ?_
  refine Ev.yes (by simp only[ByteArray.size_append,dot_size];omega) ?_
  by_cases hp:(l.length:Int)>0
  ·have hsj:strings_Join.f l (⟨#[46]⟩:ByteArray)=some (joinB l dot):=strings_join l dot (by omega) (by omega)
   simp only[hp,if_true,hsj,Option.bind_some]
   refine Ev.yes (by omega) ?_
   refine Ev.yes (by simp only[ByteArray.size_append,dot_size,dash_size];omega) ?_
   exact Ev.some
  ·simp only[hp,if_false]
   exact Ev.some
abbrev VerR:=Int × Int × Int × List ByteArray × Bool
def noVer:VerR:=(0,0,0,[],false)
def readV (p0 p1 p2:ByteArray) (q:List ByteArray):VerR:=
 if (parseM p0 9999).2=true∧(parseM p1 9999).2=true∧(parseM p2 9999).2=true∧verB (parseM p0 9999).1 (parseM p1 9999).1 (parseM p2 9999).1 q=true
 then ((parseM p0 9999).1,(parseM p1 9999).1,(parseM p2 9999).1,q,true) else noVer
def preQ (s:ByteArray):List ByteArray:=if hasB 45 s=true then piecesB (tailB 45 s) dot else []
def numQ (s:ByteArray):List ByteArray:=piecesB (headB 45 s) dot
def parseV (s:ByteArray):VerR:=if (numQ s).length=3 then readV (rdOf ByteArray.empty (numQ s) 0) (rdOf ByteArray.empty (numQ s) 1) (rdOf ByteArray.empty (numQ s) 2) (preQ s) else noVer
theorem preQ_length (s:ByteArray):(preQ s).length≤s.size+1:=by
 unfold preQ
 split
 ·have h1:=pieces_length (s:=tailB 45 s) (sep:=dot) (by decide)
  have h2:=tailB_size 45 s
  omega
 ·simp
theorem preQ_mem (s:ByteArray):∀ x∈preQ s,x.size≤s.size:=by
 unfold preQ
 split
 ·intro x hx
  have h1:=pieces_mem (s:=tailB 45 s) (sep:=dot) (by simp[dot]) x hx
  have h2:=tailB_size 45 s
  omega
 ·intro x hx
  cases hx
theorem numQ_mem (s:ByteArray):∀ x∈numQ s,x.size≤s.size:=by
 intro x hx
 have h1:=pieces_mem (s:=headB 45 s) (sep:=dot) (by simp[dot]) x hx
 have h2:=headB_size 45 s
 omega
theorem rd_mem {l:List ByteArray} {i:Nat} (h:i<l.length):rdOf ByteArray.empty l (i:Int)∈l:=by
 rw[rdOf_cast _ h]
 exact List.getElem_mem h
theorem spec_pv_nums (k0:Nat) (p0 p1 p2:ByteArray) (q:List ByteArray) (h0:p0.size≤16777216) (h1:p1.size≤16777216) (h2:p2.size≤16777216) (hq:q.length≤16777217) (hqs:∀ x∈q,x.size≤16777216) (a b c:Int) :
  Ev (fun k=>spec_ParseVer.j3 k [p0,p1,p2] a b c q) (readV p0 p1 p2 q):=by
 refine Ev.succ ?_
 simp only[spec_ParseVer.j3,List.length_cons,List.length_nil,show (0:Int)<((0+1+1+1:Nat):Int) by omega,show (1:Int)<((0+1+1+1:Nat):Int) by omega,show (2:Int)<((0+1+1+1:Nat):Int) by omega,if_true,
  show rdOf ByteArray.empty [p0,p1,p2] 0=p0 from rfl,show rdOf ByteArray.empty [p0,p1,p2] 1=p1 from rfl,show rdOf ByteArray.empty [p0,p1,p2] 2=p2 from rfl]
 refine Ev.bind (spec_parse p0 9999 (by omega)) (Ev.bind (spec_parse p1 9999 (by omega)) (Ev.bind (spec_parse p2 9999 (by omega)) ?_))
 unfold readV
 by_cases e0:(parseM p0 9999).2=true
 ·by_cases e1:(parseM p1 9999).2=true
  ·by_cases e2:(parseM p2 9999).2=true
   ·simp only[e0,e1,e2,if_true,true_and]
    refine Ev.bind (spec_ver _ _ _ q (by omega) (fun x hx=>by have:=hqs x hx;omega)) ?_
    cases hv:verB (parseM p0 9999).1 (parseM p1 9999).1 (parseM p2 9999).1 q with
    | true=>
     simp only[if_true]
     first|(refine Ev.succ (g:=fun k=>spec_ParseVer.j1 k _ _ _ _ _) ?_;simp only[spec_ParseVer.j1])|(refine Ev.succ (g:=fun k=>spec_ParseVer.j2 k _ _ _ _ _ _) ?_;simp only[spec_ParseVer.j2])|(refine Ev.succ (g:=fun k=>spec_ParseVer.j3 k _ _ _ _ _) ?_;simp only[spec_ParseVer.j3])|(refine Ev.succ (g:=fun k=>spec_ParseVer.j4 k _ _ _ _ _) ?_;simp only[spec_ParseVer.j4])|skip
     try simp only[Bool.not_true,Bool.not_false,if_true,if_false,Bool.false_eq_true]
     exact Ev.some
    | false=>
     simp only[Bool.false_eq_true,if_false]
     first|(refine Ev.succ (g:=fun k=>spec_ParseVer.j1 k _ _ _ _ _) ?_;simp only[spec_ParseVer.j1])|(refine Ev.succ (g:=fun k=>spec_ParseVer.j2 k _ _ _ _ _ _) ?_;simp only[spec_ParseVer.j2])|(refine Ev.succ (g:=fun k=>spec_ParseVer.j3 k _ _ _ _ _) ?_;simp only[spec_ParseVer.j3])|(refine Ev.succ (g:=fun k=>spec_ParseVer.j4 k _ _ _ _ _) ?_;simp only[spec_ParseVer.j4])|skip
     try simp only[Bool.not_true,Bool.not_false,if_true,if_false,Bool.false_eq_true]
     exact Ev.some
   ·simp only[e0,e1,e2,if_true,if_false,true_and,false_and,Bool.false_eq_true]
    first|(refine Ev.succ (g:=fun k=>spec_ParseVer.j1 k _ _ _ _ _) ?_;simp only[spec_ParseVer.j1])|(refine Ev.succ (g:=fun k=>spec_ParseVer.j2 k _ _ _ _ _ _) ?_;simp only[spec_ParseVer.j2])|(refine Ev.succ (g:=fun k=>spec_ParseVer.j3 k _ _ _ _ _) ?_;simp only[spec_ParseVer.j3])|(refine Ev.succ (g:=fun k=>spec_ParseVer.j4 k _ _ _ _ _) ?_;simp only[spec_ParseVer.j4])|skip
    try simp only[Bool.not_true,Bool.not_false,if_true,if_false,Bool.false_eq_true]
    exact Ev.some
  ·simp only[e0,e1,if_true,if_false,true_and,false_and,Bool.false_eq_true]
   first|(refine Ev.succ (g:=fun k=>spec_ParseVer.j1 k _ _ _ _ _) ?_;simp only[spec_ParseVer.j1])|(refine Ev.succ (g:=fun k=>spec_ParseVer.j2 k _ _ _ _ _ _) ?_;simp only[spec_ParseVer.j2])|(refine Ev.succ (g:=fun k=>spec_ParseVer.j3 k _ _ _ _ _) ?_;simp only[spec_ParseVer.j3])|(refine Ev.succ (g:=fun k=>spec_ParseVer.j4 k _ _ _ _ _) ?_;simp only[spec_ParseVer.j4])|skip
   try simp only[Bool.not_true,Bool.not_false,if_true,if_false,Bool.false_eq_true]
   exact Ev.some
 ·simp only[e0,if_false,false_and,Bool.false_eq_true]
  first|(refine Ev.succ (g:=fun k=>spec_ParseVer.j1 k _ _ _ _ _) ?_;simp only[spec_ParseVer.j1])|(refine Ev.succ (g:=fun k=>spec_ParseVer.j2 k _ _ _ _ _ _) ?_;simp only[spec_ParseVer.j2])|(refine Ev.succ (g:=fun k=>spec_ParseVer.j3 k _ _ _ _ _) ?_;simp only[spec_ParseVer.j3])|(refine Ev.succ (g:=fun k=>spec_ParseVer.j4 k _ _ _ _ _) ?_;simp only[spec_ParseVer.j4])|skip
  try simp only[Bool.not_true,Bool.not_false,if_true,if_false,Bool.false_eq_true]
  exact Ev.some
theorem three {l:List ByteArray} (h:l.length=3):l=[rdOf ByteArray.empty l 0,rdOf ByteArray.empty l 1,rdOf ByteArray.empty l 2]:=by
 match l,h with
 | [a,b,c],_=>rfl
theorem spec_pv_j2 (s:ByteArray) (hs:s.size≤16777216) (a b c:Int) (q:List ByteArray) (hq:q=preQ s):Ev (fun k=>spec_ParseVer.j2 k s (at1 45 s.data.toList:Int) a b c q) (parseV s):=by
 have hle:=at1_le 45 s.data.toList
 have hsl:s.data.toList.length=s.size:=by simp
 have hx:s.extract 0 (at1 45 s.data.toList)=headB 45 s:=by rw[extract_ofL,List.drop_zero,Nat.sub_zero];rfl
 have hh:=headB_size 45 s
 refine Ev.succ ?_
 simp only[spec_ParseVer.j2,show (0:Int)≤(at1 45 s.data.toList:Int) by omega,show (at1 45 s.data.toList:Int)≤(s.size:Int) by omega,if_true,Int.toNat_natCast,hx]
 refine Ev.bind (spec_split (headB 45 s) 46 (by omega)) ?_
 show Ev (fun k=>if ((numQ s).length:Int)=3 then _ else _) _
 unfold parseV
 by_cases h3:(numQ s).length=3
 ·refine Ev.yes (by omega) ?_
  rw[if_pos h3,hq]
  have hm:∀ i:Nat,i<3→(rdOf ByteArray.empty (numQ s) (i:Int)).size≤16777216:=fun i hi=>by
   have:=numQ_mem s _ (rd_mem (l:=numQ s) (i:=i) (by omega))
   omega
  have:=spec_pv_nums 0 (rdOf ByteArray.empty (numQ s) 0) (rdOf ByteArray.empty (numQ s) 1) (rdOf ByteArray.empty (numQ s) 2) (preQ s) (hm 0 (by omega)) (hm 1 (by omega)) (hm 2 (by omega))
   (by have:=preQ_length s;omega) (fun x hx=>by have:=preQ_mem s x hx;omega) a b c
  rw[← three h3] at this
  exact this
 ·refine Ev.no (by omega) ?_
  rw[if_neg h3]
  exact Ev.some
theorem spec_pv_j1 (s:ByteArray) (hs:s.size≤16777216) (a b c:Int):Ev (fun k=>spec_ParseVer.j1 k s (at1 45 s.data.toList:Int) a b c) (parseV s):=by
 have hsl:s.data.toList.length=s.size:=by simp
 have ht:=tailB_size 45 s
 refine Ev.succ ?_
 simp only[spec_ParseVer.j1]
 by_cases h:at1 45 s.data.toList<s.data.toList.length
 ·have hx:s.extract (at1 45 s.data.toList+1) s.size=tailB 45 s:=by
   rw[extract_ofL,List.take_of_length_le (by rw[List.length_drop];omega)]
   rfl
  rw[next_i (show at1 45 s.data.toList<s.size by omega) (by omega)]
  refine Ev.yes (by omega) (Ev.yes (by omega) (Ev.yes (by omega) ?_))
  rw[Int.toNat_natCast,hx]
  refine Ev.bind (spec_split (tailB 45 s) 46 (by omega)) ?_
  refine spec_pv_j2 s hs a b c _ ?_
  unfold preQ
  rw[if_pos (by simpa [hasB] using h)]
  rfl
 ·refine Ev.no (by omega) ?_
  refine spec_pv_j2 s hs a b c _ ?_
  unfold preQ
  rw[if_neg (by simpa [hasB] using h)]
theorem spec_pv_l (s:ByteArray) (hs:s.size≤16777216) (a b c:Int) (d:Nat):∀ i:Nat,i+d=s.size→at1 45 s.data.toList=i+at1 45 (s.data.toList.drop i)→Ev (fun k=>spec_ParseVer.l0 k s (i:Int) a b c) (parseV s):=by
 have hj:=spec_pv_j1 s hs a b c
 induction d with
 | zero=>
  intro i hi he
  obtain rfl:i=s.size:=by omega
  have hd:s.data.toList.drop s.size=[]:=List.drop_eq_nil_of_le (by simp)
  rw[hd,at1_nil] at he
  rw[he] at hj
  refine Ev.succ ?_
  simp only[spec_ParseVer.l0,show ¬(s.size:Int)<(s.size:Int) by omega,if_false]
  simpa using hj
 | succ d ih=>
  intro i hi he
  have hlt:i<s.size:=by omega
  have h3:=next_i hlt (by omega)
  obtain⟨b,hb,hbt,_⟩:=data_drop hlt
  refine Ev.succ ?_
  simp only[spec_ParseVer.l0,show (i:Int)<(s.size:Int) by omega,show (0:Int)≤(i:Int) by omega,if_true,h3,hbt]
  rw[hb] at he
  by_cases e:b=45
  ·subst e
   rw[at1_hit,Nat.add_zero] at he
   rw[he] at hj
   refine Ev.yes rfl ?_
   exact hj
  ·rw[at1_miss e] at he
   refine Ev.no (fun h=>e (UInt8.toNat_inj.1 (by rw[show (45:UInt8).toNat=45 from rfl];omega))) ?_
   exact ih (i+1) (by omega) (by omega)
theorem spec_pv (s:ByteArray) (hs:s.size≤16777216):Ev (fun k=>spec_ParseVer.f k s) (parseV s):=by
 unfold spec_ParseVer.f
 exact spec_pv_l s hs 0 0 0 s.size 0 (by omega) (by simp)
theorem numB_val {p:ByteArray} (h:(parseM p 9999).2=true):numB (parseM p 9999).1=p:=by
 unfold parseM at h ⊢
 split at h
 next hc=>
  rw[if_pos hc]
  have hp:=hc.1
  unfold parseOk at hp
  simp only[Bool.and_eq_true,List.all_eq_true] at hp
  show numB (valB p)=p
  unfold numB valB
  rw[Int.toNat_natCast,decDigits_val _ _ rfl hp.2.1 hp.2.2,ofL_data]
 next=>cases h
theorem join_three (p0 p1 p2:ByteArray):joinB [p0,p1,p2] dot=p0++dot++p1++dot++p2:=by
 rw[← ofL_data (p0++dot++p1++dot++p2)]
 unfold joinB dats dot
 simp[Lib.join_cons,Lib.joinTail]
theorem vert_back (s:ByteArray) (h3:(numQ s).length=3)
  (e0:(parseM (rdOf ByteArray.empty (numQ s) 0) 9999).2=true) (e1:(parseM (rdOf ByteArray.empty (numQ s) 1) 9999).2=true) (e2:(parseM (rdOf ByteArray.empty (numQ s) 2) 9999).2=true) (b:Bool)
  (hv:verB (parseM (rdOf ByteArray.empty (numQ s) 0) 9999).1 (parseM (rdOf ByteArray.empty (numQ s) 1) 9999).1 (parseM (rdOf ByteArray.empty (numQ s) 2) 9999).1 (preQ s)=b) :
  verT (parseM (rdOf ByteArray.empty (numQ s) 0) 9999).1 (parseM (rdOf ByteArray.empty (numQ s) 1) 9999).1 (parseM (rdOf ByteArray.empty (numQ s) 2) 9999).1 (preQ s)=if b=true then s else ⟨#[]⟩:=by
 unfold verT
 rw[hv]
 cases b with
 | false=>rfl
 | true=>
  rw[if_pos rfl,if_pos rfl]
  have hc:verCore (parseM (rdOf ByteArray.empty (numQ s) 0) 9999).1 (parseM (rdOf ByteArray.empty (numQ s) 1) 9999).1 (parseM (rdOf ByteArray.empty (numQ s) 2) 9999).1=headB 45 s:=by
   unfold verCore
   rw[numB_val e0,numB_val e1,numB_val e2,← join_three,← three h3]
   exact joinB_pieces _ 46
  rw[hc]
  unfold preQ
  cases hb:hasB 45 s with
  | true=>
   rw[if_pos rfl,if_pos (by have:=List.length_pos_iff.2 (pieces_ne (tailB 45 s) dot);omega)]
   rw[show joinB (piecesB (tailB 45 s) dot) dot=tailB 45 s from joinB_pieces _ 46]
   exact head_has hb
  | false=>
   rw[if_neg (by simp)]
   exact head_not hb
theorem joinN_preQ (s:ByteArray):joinN (preQ s) dot≤s.size+1:=by
 unfold preQ
 split
 ·rw[show joinN (piecesB (tailB 45 s) dot) dot=(tailB 45 s).size+1 from joinN_pieces _ 46]
  have:=tailB_size 45 s
  omega
 ·unfold joinN
  simp[dats,Lib.lens]
theorem impl_pv_fin (s:ByteArray) (hs:s.size≤16777216) (h3:(numQ s).length=3)
  (e0:(parseM (rdOf ByteArray.empty (numQ s) 0) 9999).2=true) (e1:(parseM (rdOf ByteArray.empty (numQ s) 1) 9999).2=true) (e2:(parseM (rdOf ByteArray.empty (numQ s) 2) 9999).2=true)
  (pre:ByteArray) (hp:hasB 45 s=true→pre=tailB 45 s) :
  Ev (fun k=>impl_ParseVer.fin k s pre (hasB 45 s) (parseM (rdOf ByteArray.empty (numQ s) 0) 9999).1 (parseM (rdOf ByteArray.empty (numQ s) 1) 9999).1 (parseM (rdOf ByteArray.empty (numQ s) 2) 9999).1)
   (readV (rdOf ByteArray.empty (numQ s) 0) (rdOf ByteArray.empty (numQ s) 1) (rdOf ByteArray.empty (numQ s) 2) (preQ s)):=by
 have hl:=preQ_length s
 have hm:=preQ_mem s
 have hN:=joinN_preQ s
 have hne:¬(ByteArray.mk #[]).toList=s.toList:=by
  intro e
  have h1:=pieces_length (s:=headB 45 s) (sep:=dot) (by decide)
  have h2:=headB_size 45 s
  have h4:(piecesB (headB 45 s) dot).length=3:=h3
  rw[toList_data,toList_data] at e
  have h5:s.data.toList.length=s.size:=by simp
  rw[← e] at h5
  simp at h5
  omega
 have main:Ev (fun k=>(impl_VerText.f k (parseM (rdOf ByteArray.empty (numQ s) 0) 9999).1 (parseM (rdOf ByteArray.empty (numQ s) 1) 9999).1 (parseM (rdOf ByteArray.empty (numQ s) 2) 9999).1 (preQ s)).bind fun t=>
   if t.toList=s.toList then some ((parseM (rdOf ByteArray.empty (numQ s) 0) 9999).1,(parseM (rdOf ByteArray.empty (numQ s) 1) 9999).1,(parseM (rdOf ByteArray.empty (numQ s) 2) 9999).1,preQ s,true) else some impl_ParseVer.no)
   (readV (rdOf ByteArray.empty (numQ s) 0) (rdOf ByteArray.empty (numQ s) 1) (rdOf ByteArray.empty (numQ s) 2) (preQ s)):=by
  refine Ev.bind (impl_vertext _ _ _ _ (by omega) (fun x hx=>by have:=hm x hx;omega) (by omega)) ?_
  unfold readV
  rw[vert_back s h3 e0 e1 e2 _ rfl]
  simp only[e0,e1,e2,true_and]
  cases hv:verB (parseM (rdOf ByteArray.empty (numQ s) 0) 9999).1 (parseM (rdOf ByteArray.empty (numQ s) 1) 9999).1 (parseM (rdOf ByteArray.empty (numQ s) 2) 9999).1 (preQ s) with
  | true=>
   simp only[if_true]
   exact Ev.some
  | false=>
   simp only[Bool.false_eq_true,if_false,hne]
   exact Ev.some
 unfold impl_ParseVer.fin
 cases hb:hasB 45 s with
 | true=>
  have hq:strings_Split.f pre (⟨#[46]⟩:ByteArray)=some (preQ s):=by
   rw[hp hb,strings_split _ 46 (by have:=tailB_size 45 s;omega)]
   unfold preQ
   rw[if_pos hb]
   rfl
  simp only[if_true,hq,Option.bind_some]
  exact main
 | false=>
  have hq:preQ s=[]:=by unfold preQ;rw[hb];rfl
  rw[hq] at main
  simp only[Bool.false_eq_true,if_false]
  rw[hq]
  exact main
theorem impl_pv (s:ByteArray) (hs:s.size≤16777216):Ev (fun k=>impl_ParseVer.f k s) (parseV s):=by
 have hcut:∃ pre:ByteArray,strings_Cut.f s (⟨#[45]⟩:ByteArray)=some (headB 45 s,pre,hasB 45 s)∧(hasB 45 s=true→pre=tailB 45 s):=by
  unfold strings_Cut.f
  rw[if_pos (by omega),show (⟨#[45]⟩:ByteArray).data.toList=[45] from rfl,cut_one]
  cases hb:hasB 45 s with
  | true=>
   refine⟨tailB 45 s,?_,fun _=>rfl⟩
   rw[if_pos rfl]
   try exact congrArg some (Prod.ext (ofL_data _) (Prod.ext (ofL_data _) rfl))
  | false=>
   refine⟨ByteArray.mk #[],?_,fun h=>by cases h⟩
   rw[if_neg (by simp),head_not hb]
   try exact congrArg some (Prod.ext (ofL_data _) (Prod.ext rfl rfl))
 obtain⟨pre,hcut,hp⟩:=hcut
 have hsp:strings_Split.f (headB 45 s) (⟨#[46]⟩:ByteArray)=some (numQ s):=strings_split _ 46 (by have:=headB_size 45 s;omega)
 unfold impl_ParseVer.f parseV
 simp only[hcut,hsp,Option.bind_some]
 by_cases h3:(numQ s).length=3
 ·simp only[h3,if_true]
  unfold impl_ParseVer.n3
  refine Ev.bind (impl_parse _ _) ?_
  by_cases e0:(parseM (rdOf ByteArray.empty (numQ s) 0) 9999).2=true
  ·simp only[e0,if_true]
   unfold impl_ParseVer.n2
   refine Ev.bind (impl_parse _ _) ?_
   by_cases e1:(parseM (rdOf ByteArray.empty (numQ s) 1) 9999).2=true
   ·simp only[e1,if_true]
    unfold impl_ParseVer.n1
    refine Ev.bind (impl_parse _ _) ?_
    by_cases e2:(parseM (rdOf ByteArray.empty (numQ s) 2) 9999).2=true
    ·simp only[e2,if_true]
     exact impl_pv_fin s hs h3 e0 e1 e2 pre hp
    ·unfold readV
     simp only[e2,if_false,false_and,and_false,Bool.false_eq_true] <;> exact Ev.some
   ·unfold readV
    simp only[e1,if_false,false_and,and_false,Bool.false_eq_true] <;> exact Ev.some
  ·unfold readV
   simp only[e0,if_false,false_and,Bool.false_eq_true] <;> exact Ev.some
 ·simp only[h3,if_false]
  exact Ev.some
theorem readV_length (p0 p1 p2:ByteArray) (q:List ByteArray):(readV p0 p1 p2 q).2.2.2.1.length≤3:=by
 unfold readV
 split
 next h=>have:=ver_parts h.2.2.2;show q.length≤3;omega
 next=>exact Nat.zero_le _
theorem parseV_length (s:ByteArray):(parseV s).2.2.2.1.length≤3:=by
 unfold parseV
 split
 ·exact readV_length _ _ _ _
 ·exact Nat.zero_le _
theorem dropWhile_snoc {α:Type} (p:α→Bool) (a:α):∀ l:List α,(l++[a]).dropWhile p=if (l.dropWhile p)=[] then [a].dropWhile p else l.dropWhile p++[a]
 | []=>by simp
 | b :: l=>by
  have ih:=dropWhile_snoc p a l
  by_cases h:p b=true
  ·rw[List.cons_append,List.dropWhile_cons_of_pos h,List.dropWhile_cons_of_pos h,ih]
  ·rw[List.cons_append,List.dropWhile_cons_of_neg h,List.dropWhile_cons_of_neg h,if_neg (by simp)]
   rfl
theorem dropWhile_turn {α:Type} (p:α→Bool):∀ l:List α,(l.reverse.dropWhile p).reverse.dropWhile p=((l.dropWhile p).reverse.dropWhile p).reverse
 | []=>rfl
 | a :: l=>by
  have ih:=dropWhile_turn p l
  by_cases h:p a=true
  ·rw[List.dropWhile_cons_of_pos h,← ih,List.reverse_cons,dropWhile_snoc]
   by_cases h0:l.reverse.dropWhile p=[]
   ·rw[if_pos h0,h0,List.dropWhile_cons_of_pos h]
    rfl
   ·rw[if_neg h0,List.reverse_append,List.reverse_singleton,List.singleton_append,List.dropWhile_cons_of_pos h]
  ·rw[List.dropWhile_cons_of_neg h,List.reverse_cons,dropWhile_snoc]
   by_cases h0:l.reverse.dropWhile p=[]
   ·rw[if_pos h0,List.dropWhile_cons_of_neg h,List.reverse_singleton,List.dropWhile_cons_of_neg h]
   ·rw[if_neg h0,List.reverse_append,List.reverse_singleton,List.singleton_append,List.dropWhile_cons_of_neg h]
theorem trim_turn (l:List UInt8) (c:UInt8):Lib.trimRightB (Lib.trimLeftB l c) c=Lib.trimB l c:=by
 unfold Lib.trimB Lib.trimLeftB Lib.trimRightB
 exact(dropWhile_turn _ l).symm
def trimQ (s:ByteArray):ByteArray:=ofL (Lib.trimB s.data.toList 32)
theorem trimQ_size (s:ByteArray):(trimQ s).size≤s.size:=by
 unfold trimQ Lib.trimB Lib.trimLeftB Lib.trimRightB
 rw[ofL_size]
 have h1:=(List.dropWhile_suffix (fun x:UInt8=>x == 32) (l:=(s.data.toList.reverse.dropWhile (fun x:UInt8=>x == 32)).reverse)).length_le
 have h2:=(List.dropWhile_suffix (fun x:UInt8=>x == 32) (l:=s.data.toList.reverse)).length_le
 rw[List.length_reverse] at h1 h2
 have h3:s.data.toList.length=s.size:=by simp
 omega
theorem strings_trim (s:ByteArray) (hs:s.size≤9223372036854775807):strings_Trim.f s ⟨#[32]⟩=some (trimQ s):=by
 unfold strings_Trim.f trimQ
 rw[if_pos ⟨rfl,by decide,hs⟩]
 rfl
theorem bt_ofL {l:List UInt8} {i:Nat} {b:UInt8} (h:l[i]?=some b):bt (ofL l) (i:Int)=(b.toNat:Int):=by
 rw[bt_bs]
 unfold bs
 rw[data_ofL,List.getD_eq_getElem?_getD,Int.toNat_natCast,List.getElem?_map,h]
 rfl
theorem trim_r:∀ (n:Nat) (l:List UInt8),l.length=n→n≤9223372036854775807→Ev (fun k=>spec_l4Trim.l1 k (ofL l)) (ofL (Lib.trimRightB l 32))
 | 0,l,hl,hn=>by
  obtain rfl:=List.length_eq_zero_iff.1 hl
  refine Ev.succ ?_
  simp only[spec_l4Trim.l1]
  exact Ev.some
 | n+1,l,hl,hn=>by
  obtain⟨u,b,rfl⟩:∃ u b,l=u++[b]:=⟨l.dropLast,l.getLast (by intro e;simp[e] at hl),(List.dropLast_concat_getLast _).symm⟩
  have hu:u.length=n:=by simpa using hl
  have hsz:(ofL (u++[b])).size=n+1:=by rw[ofL_size,hl]
  have hw:wrap64 (((n+1:Nat):Int)-1)=(n:Int):=by rw[wrap64_id (by omega) (by omega)];omega
  have hb:bt (ofL (u++[b])) (n:Int)=(b.toNat:Int):=bt_ofL (by rw[← hu];simp)
  have ih:=trim_r n u hu (by omega)
  refine Ev.succ ?_
  simp only[spec_l4Trim.l1,hsz,hw,hb,show ((n+1:Nat):Int)>0 by omega,show (0:Int)≤(n:Int) by omega,show (n:Int)<((n+1:Nat):Int) by omega,show (n:Int)≤((n+1:Nat):Int) by omega,if_true]
  by_cases h:b=32
  ·subst h
   have he:(ofL (u++[32])).extract 0 ((n:Int)).toNat=ofL u:=by
    rw[extract_ofL,data_ofL,List.drop_zero,Int.toNat_natCast,Nat.sub_zero,← hu,List.take_left]
   simp only[show (((32:UInt8).toNat:Nat):Int)=32 from rfl,if_true,he]
   refine Ev.cast ih ?_
   unfold Lib.trimRightB
   rw[List.reverse_append,List.reverse_singleton,List.singleton_append,List.dropWhile_cons_of_pos (by simp)]
  ·have hne:¬((b.toNat:Int)=32):=fun e=>h (UInt8.toNat_inj.1 (by rw[show (32:UInt8).toNat=32 from rfl];omega))
   simp only[hne,if_false]
   refine Ev.cast Ev.some ?_
   unfold Lib.trimRightB
   rw[List.reverse_append,List.reverse_singleton,List.singleton_append,List.dropWhile_cons_of_neg (by simpa using h)]
   simp
theorem trim_l:∀ (n:Nat) (l:List UInt8),l.length=n→n≤9223372036854775807→Ev (fun k=>spec_l4Trim.l0 k (ofL l)) (ofL (Lib.trimRightB (Lib.trimLeftB l 32) 32))
 | 0,l,hl,hn=>by
  obtain rfl:=List.length_eq_zero_iff.1 hl
  refine Ev.succ ?_
  have h0:¬(((ofL []).size:Nat):Int)>0:=by rw[ofL_size];simp
  simp only[spec_l4Trim.l0,h0,if_false]
  refine Ev.succ ?_
  simp only[spec_l4Trim.j1]
  exact trim_r 0 [] rfl (by omega)
 | n+1,l,hl,hn=>by
  obtain⟨b,u,rfl⟩:∃ b u,l=b :: u:=by cases l with|nil=>cases hl|cons b u=>exact⟨b,u,rfl⟩
  have hu:u.length=n:=by simpa using hl
  have hsz:(ofL (b :: u)).size=n+1:=by rw[ofL_size,hl]
  have hb:bt (ofL (b :: u)) ((0:Nat):Int)=(b.toNat:Int):=bt_ofL rfl
  have ih:=trim_l n u hu (by omega)
  refine Ev.succ ?_
  rw[show ((0:Nat):Int)=0 from rfl] at hb
  simp only[spec_l4Trim.l0,hsz,hb,show ((n+1:Nat):Int)>0 by omega,show (0:Int)<((n+1:Nat):Int) by omega,show (1:Int)≤((n+1:Nat):Int) by omega,Int.le_refl,if_true]
  by_cases h:b=32
  ·subst h
   have he:(ofL (32 :: u)).extract 1 (n+1)=ofL u:=by
    rw[extract_ofL,data_ofL,List.drop_one,List.tail_cons,List.take_of_length_le (by omega)]
   simp only[show (((32:UInt8).toNat:Nat):Int)=32 from rfl,if_true,he]
   refine Ev.cast ih ?_
   unfold Lib.trimLeftB
   rw[List.dropWhile_cons_of_pos (by simp)]
  ·have hne:¬((b.toNat:Int)=32):=fun e=>h (UInt8.toNat_inj.1 (by rw[show (32:UInt8).toNat=32 from rfl];omega))
   simp only[hne,if_false]
   refine Ev.succ ?_
   simp only[spec_l4Trim.j1]
   refine Ev.cast (trim_r (n+1) (b :: u) hl hn) ?_
   unfold Lib.trimLeftB
   rw[List.dropWhile_cons_of_neg (by simpa using h)]
theorem spec_trim (s:ByteArray) (hs:s.size≤9223372036854775807):Ev (fun k=>spec_l4Trim.f k s) (trimQ s):=by
 unfold spec_l4Trim.f trimQ
 have h:=trim_l s.size s.data.toList (by simp) hs
 rw[ofL_data,trim_turn] at h
 exact h
def bar2:ByteArray:=⟨#[124,124]⟩
theorem split_short {l:List UInt8} (h:l.length≤1):Lib.split l [124,124]=[l]:=by
 match l,h with
 | [],_=>exact split_nil (by simp)
 | [b],_=>
  rw[split_by (by simp) (by unfold List.isPrefixOf;simp[List.isPrefixOf]),split_nil (by simp)]
  rfl
theorem split_bars (l:List UInt8):Lib.split (124 :: 124 :: l) [124,124]=[] :: Lib.split l [124,124]:=by
 rw[split_at (sep:=[124,124]) (by simp) (by simp[List.isPrefixOf])]
 rfl
theorem split_nobar {b c:UInt8} (l:List UInt8) (h:¬(b=124∧c=124)):Lib.split (b :: c :: l) [124,124]=glue [b] (Lib.split (c :: l) [124,124]):=
 split_by (by simp) (by
  simp only[List.isPrefixOf,Bool.and_true,Bool.and_eq_false_imp,beq_iff_eq]
  intro e
  rw[beq_eq_false_iff_ne]
  exact fun e2=>h ⟨e.symm,e2.symm⟩)
theorem strings_sides (s:ByteArray) (hs:s.size≤16777216):strings_Split.f s ⟨#[124,124]⟩=some (piecesB s bar2):=by
 unfold strings_Split.f
 rw[if_pos ⟨by omega,by show 1≤2;omega⟩,splitB_pieces]
 rfl
theorem spec_sides_l (s:ByteArray) (hs:s.size≤16777216):∀ (d i fr:Nat) (out:List ByteArray),s.size-i≤d→i≤s.size→fr≤i→out.length≤i →
  Ev (fun k=>spec_l4Sides.l0 k s out (fr:Int) (i:Int)) (out++(glue ((s.data.toList.drop fr).take (i-fr)) (Lib.split (s.data.toList.drop i) [124,124])).map ofL):=by
 intro d
 induction d using Nat.strongRecOn with
 | _ d ih=>
  intro i fr out hd hi hf ho
  have h3:wrap64 ((i:Int)+1)=((i+1:Nat):Int):=by rw[wrap64_id (by omega) (by omega)];rfl
  refine Ev.succ ?_
  by_cases hlt:i+1<s.size
  ·have h4:wrap64 ((i:Int)+2)=((i+2:Nat):Int):=(wrap64_id (by omega) (by omega)).trans (by omega)
   have h5:wrap64 (((i+1:Nat):Int)+1)=((i+2:Nat):Int):=(wrap64_id (by omega) (by omega)).trans (by omega)
   have f1:((i+1:Nat):Int)<(s.size:Int):=by omega
   have f2:(0:Int)≤(i:Int):=by omega
   have f3:(0:Int)≤((i+1:Nat):Int):=by omega
   have f4:(i:Int)<(s.size:Int):=by omega
   have f5:(0:Int)≤(fr:Int):=by omega
   have f6:(fr:Int)≤(i:Int):=by omega
   have f7:(i:Int)≤(s.size:Int):=by omega
   have f8:out.length<8796093022208:=by omega
   have f9:fr+(i-fr)=i:=by omega
   have f10:i+1-fr=(i-fr)+1:=by omega
   have ihA:=fun(o:List ByteArray) (ho':o.length≤i+2)=>ih (s.size-(i+2)) (by omega) (i+2) (i+2) o (by omega) (by omega) (by omega) ho'
   have ihB:=ih (s.size-(i+1)) (by omega) (i+1) fr out (by omega) (by omega) (by omega) (by omega)
   have hol:∀ z:ByteArray,(out++[z]).length≤i+2:=fun z=>by simp;omega
   obtain⟨b,hb,hbt,hg⟩:=data_drop (s:=s) (i:=i) (by omega)
   obtain⟨c,hc,hct,hg2⟩:=data_drop (s:=s) (i:=i+1) hlt
   simp only[spec_l4Sides.l0,h3,h4,h5,hbt,hct,f1,f2,f3,f4,if_true]
   by_cases h:b=124∧c=124
   ·obtain⟨rfl,rfl⟩:=h
    simp only[show (((124:UInt8).toNat:Nat):Int)=124 from rfl,if_true,f5,f6,f7,f8]
    refine Ev.cast (ihA _ (hol _)) ?_
    rw[hb,hc,split_bars,Nat.sub_self,List.take_zero,glue_nil (split_ne _ _)]
    simp only[glue,List.append_nil,List.map_cons,List.append_assoc,List.singleton_append,Int.toNat_natCast,extract_ofL]
   ·have hx:(s.data.toList.drop fr)[i-fr]?=some b:=by rw[List.getElem?_drop,f9,hg]
    have step:Ev (fun k=>spec_l4Sides.l0 k s out (fr:Int) ((i+1:Nat):Int)) (out++(glue ((s.data.toList.drop fr).take (i-fr)) (Lib.split (s.data.toList.drop i) [124,124])).map ofL):=by
     refine Ev.cast ihB ?_
     rw[hb,hc,split_nobar _ h,← hc,glue_glue _ _ _ (split_ne _ _),f10,List.take_add_one,hx]
     rfl
    by_cases hb1:b=124
    ·have hc1:¬((c.toNat:Int)=124):=fun e=>h ⟨hb1,UInt8.toNat_inj.1 (Int.ofNat.inj e)⟩
     have hb2:((b.toNat:Int)=124):=by rw[hb1];rfl
     simp only[hb2,hc1,if_true,if_false]
     exact step
    ·have hb2:¬((b.toNat:Int)=124):=fun e=>hb1 (UInt8.toNat_inj.1 (Int.ofNat.inj e))
     simp only[hb2,if_false]
     exact step
  ·simp only[spec_l4Sides.l0,h3,show ¬((i+1:Nat):Int)<(s.size:Int) by omega,if_false,show (0:Int)≤(fr:Int) by omega,show (fr:Int)≤(s.size:Int) by omega,if_true,show out.length<8796093022208 by omega]
   refine Ev.cast Ev.some ?_
   have hl:(s.data.toList.drop i).length≤1:=by
    have hz:s.data.toList.length=s.size:=by simp
    rw[List.length_drop]
    omega
   rw[split_short hl]
   simp only[glue,List.map_cons,List.map_nil,Int.toNat_natCast,extract_ofL]
   congr 3
   have e:s.data.toList.drop i=(s.data.toList.drop fr).drop (i-fr):=by rw[List.drop_drop];congr 1;omega
   rw[e,List.take_append_drop,List.take_of_length_le]
   rw[List.length_drop]
   have:s.data.toList.length=s.size:=by simp
   omega
theorem spec_sides (s:ByteArray) (hs:s.size≤16777216):Ev (fun k=>spec_l4Sides.f k s) (piecesB s bar2):=by
 unfold spec_l4Sides.f
 refine Ev.cast (spec_sides_l s hs s.size 0 0 [] (by omega) (by omega) (by omega) (by simp)) ?_
 rw[List.nil_append,List.drop_zero,Nat.sub_self,List.take_zero,glue_nil (split_ne _ _)]
 rfl
abbrev CmpT:=S34
def mkC (op a b c:Int) (l:List ByteArray):CmpT:=⟨op,⟨a,b,c,l⟩⟩
def exB:ByteArray:=⟨#[120]⟩
def oneP (a:ByteArray):Int × Int × Int:=if (parseM a 9999).2=true then ((parseM a 9999).1,0,1) else (0,0,0)
def twoP (a b:ByteArray):Int × Int × Int:=if b=exB then oneP a else if (parseM a 9999).2=true∧(parseM b 9999).2=true then ((parseM a 9999).1,(parseM b 9999).1,2) else (0,0,0)
def partL:List ByteArray→Int × Int × Int
 | [a]=>oneP a
 | [a,b]=>twoP a b
 | [a,b,c]=>if c=exB then twoP a b else (0,0,0)
 | _=>(0,0,0)
abbrev PartR:=Int × Int × Int × List ByteArray × Int × Bool
def partB (s:ByteArray):PartR:=
 if (parseV s).2.2.2.2=true then ((parseV s).1,(parseV s).2.1,(parseV s).2.2.1,(parseV s).2.2.2.1,3,true)
 else if (partL (piecesB s dot)).2.2=0 then (0,0,0,[],0,false) else ((partL (piecesB s dot)).1,(partL (piecesB s dot)).2.1,0,[],(partL (piecesB s dot)).2.2,true)
def lowC (a b c:Int):CmpT:=mkC 1 a b c [⟨#[48]⟩]
def fromC (p:PartR):CmpT:=mkC 4 p.1 p.2.1 p.2.2.1 p.2.2.2.1
def nextC (p:PartR):Int × Int:=if p.2.2.2.2.1=1 then (p.1+1,0) else (p.1,p.2.1+1)
def caretC (p:PartR):CmpT:=if p.1≠0∨p.2.2.2.2.1=1 then lowC (p.1+1) 0 0 else if p.2.1≠0∨p.2.2.2.2.1=2 then lowC 0 (p.2.1+1) 0 else lowC 0 0 (p.2.2.1+1)
def makeC (sg:List UInt8) (p:PartR):List CmpT:=
 if sg=[94] then [fromC p,caretC p]
 else if sg=[126] then [fromC p,lowC (nextC p).1 (nextC p).2 0]
 else if sg=[62,61] then [fromC p]
 else if sg=[60] then [mkC 1 p.1 p.2.1 p.2.2.1 p.2.2.2.1]
 else if sg=[62] then (if p.2.2.2.2.1=3 then [mkC 3 p.1 p.2.1 p.2.2.1 p.2.2.2.1] else [mkC 4 (nextC p).1 (nextC p).2 0 []])
 else if sg=[60,61] then (if p.2.2.2.2.1=3 then [mkC 2 p.1 p.2.1 p.2.2.1 p.2.2.2.1] else [lowC (nextC p).1 (nextC p).2 0])
 else if p.2.2.2.2.1=3 then [mkC 0 p.1 p.2.1 p.2.2.1 p.2.2.2.1] else [fromC p,lowC (nextC p).1 (nextC p).2 0]
def signsL:List (List UInt8):=[[94],[126],[62,61],[62],[60,61],[60],[61],[]]
def wordGo (w:List UInt8):List (List UInt8)→List CmpT × Bool
 | []=>([],false)
 | g :: r=>if g.isPrefixOf w=true then (if (partB (ofL (w.drop g.length))).2.2.2.2.2=true then (makeC g (partB (ofL (w.drop g.length))),true) else ([],false)) else wordGo w r
def wordC (w:ByteArray):List CmpT × Bool:=if w.data.toList=[42] then ([mkC 4 0 0 0 []],true) else wordGo w.data.toList signsL
def wordsC:List ByteArray→Option (List CmpT)
 | []=>some []
 | w :: r=>if (wordC w).2=true then (wordsC r).map ((wordC w).1 ++ ·) else none
def okV (x:CmpT):Bool:=verB x.f1.f0 x.f1.f1 x.f1.f2 x.f1.f3
def verC (op:Int) (v:VerR):CmpT:=mkC op v.1 v.2.1 v.2.2.1 v.2.2.2.1
def dashB:ByteArray:=⟨#[45]⟩
def listC (ws:List ByteArray):Option (List CmpT):=
 match ws with
 | [a,m,b]=>if m=dashB then (if (parseV a).2.2.2.2=true∧(parseV b).2.2.2.2=true then some [verC 4 (parseV a),verC 2 (parseV b)] else none)
   else (wordsC [a,m,b]).bind fun out=>if out.all okV=true∧out.length≤4 then some out else none
 | ws=>(wordsC ws).bind fun out=>if out.all okV=true∧out.length≤4 then some out else none
def blank1:ByteArray:=⟨#[32]⟩
def sideC (p:ByteArray):Option (List CmpT):=listC (piecesB (trimQ p) blank1)
def sidesC:List ByteArray→Option (List (List CmpT))
 | []=>some []
 | p :: r=>(sideC p).bind fun x=>(sidesC r).map (x :: ·)
def rangeC (s:ByteArray):Option (List (List CmpT)):=if (piecesB s bar2).length≤4 then sidesC (piecesB s bar2) else none
def rangeR (s:ByteArray):List (List CmpT) × Bool:=match rangeC s with|some r=>(r,true)|none=>([],false)
theorem readV_ok {p0 p1 p2:ByteArray} {q:List ByteArray} (h:(readV p0 p1 p2 q).2.2.2.2=true):verB (readV p0 p1 p2 q).1 (readV p0 p1 p2 q).2.1 (readV p0 p1 p2 q).2.2.1 (readV p0 p1 p2 q).2.2.2.1=true:=by
 unfold readV at h ⊢
 split at h
 next hc=>rw[if_pos hc];exact hc.2.2.2
 next=>cases h
theorem parseV_ok {s:ByteArray} (h:(parseV s).2.2.2.2=true):verB (parseV s).1 (parseV s).2.1 (parseV s).2.2.1 (parseV s).2.2.2.1=true:=by
 unfold parseV at h ⊢
 split at h
 next hc=>rw[if_pos hc];exact readV_ok h
 next=>cases h
theorem makeC_length (sg:List UInt8) (p:PartR):1≤(makeC sg p).length∧(makeC sg p).length≤2:=by
 unfold makeC
 split
 ·simp
 split
 ·simp
 split
 ·simp
 split
 ·simp
 split
 ·split <;> simp
 split
 ·split <;> simp
 split <;> simp
theorem wordGo_length (w:List UInt8):∀ l,(wordGo w l).1.length≤2
 | []=>by simp[wordGo]
 | g :: r=>by
  unfold wordGo
  split
  ·split
   ·exact(makeC_length _ _).2
   ·simp
  ·exact wordGo_length w r
theorem wordC_length (w:ByteArray):(wordC w).1.length≤2:=by
 unfold wordC
 split
 ·simp
 ·exact wordGo_length _ _
def Got {α:Type} (g:Nat→Option α) (p:α→Prop):Prop:=∃ r,Ev g r∧p r
theorem Got.bind {α β:Type} {g:Nat→Option α} {f:Nat→α→Option β} {p:α→Prop} {q:β→Prop} (h:Got g p) (h':∀ r,p r→Got (fun k=>f k r) q):Got (fun k=>(g k).bind (f k)) q:=by
 obtain⟨r,hr,hp⟩:=h
 obtain⟨s,hs,hq⟩:=h' r hp
 exact⟨s,Ev.bind hr hs,hq⟩
theorem Got.some {α:Type} {r:α} {p:α→Prop} (h:p r):Got (fun _=>Option.some r) p:=⟨r,Ev.some,h⟩
theorem Got.succ {α:Type} {g:Nat→Option α} {p:α→Prop} (h:Got (fun k=>g (k+1)) p):Got g p:=by
 obtain⟨r,hr,hp⟩:=h
 exact⟨r,Ev.succ hr,hp⟩
theorem Got.const {α:Type} {o:Option α} {p:α→Prop} (h:∃ r,o=Option.some r∧p r):Got (fun _=>o) p:=by
 obtain⟨r,e,hp⟩:=h
 exact⟨r,Ev.const e,hp⟩
theorem Got.of {α:Type} {g:Nat→Option α} {r:α} {p:α→Prop} (h:Ev g r) (hp:p r):Got g p:=⟨r,h,hp⟩
theorem Got.mono {α:Type} {g:Nat→Option α} {p q:α→Prop} (h:Got g p) (hpq:∀ r,p r→q r):Got g q:=by
 obtain⟨r,hr,hp⟩:=h
 exact⟨r,hr,hpq r hp⟩
theorem Got.cond {α:Type} {c:Prop} [Decidable c] {g f:Nat→Option α} {p:α→Prop} (h:c→Got g p) (h':¬c→Got f p):Got (fun k=>if c then g k else f k) p:=by
 by_cases hc:c
 ·simpa only[hc,if_true] using h hc
 ·simpa only[hc,if_false] using h' hc
def Cur (b:List Int) (i:Int):Prop:=0≤i∧i≤(b.length:Int)∧b.length≤140737488355328
theorem and255 (x:Int):0≤Go.bits .and .i64 x 255∧Go.bits .and .i64 x 255≤255:=by
 have h:(BitVec.ofInt 64 x &&& BitVec.ofInt 64 255).toNat≤255:=by
  rw[BitVec.toNat_and]
  exact Nat.and_le_right
 have e:Go.bits .and .i64 x 255=IntKind.wrap .i64 ((BitVec.ofInt 64 x &&& BitVec.ofInt 64 255).toNat:Int):=rfl
 rw[e,IntKind.wrap_i64]
 omega
theorem draw_byte (b:List Int) (i h:Int) (hc:Cur b i):∃ r,spec_l1Byte.f b i h=some r∧(0≤r.1∧r.1≤255)∧Cur b r.2.1:=by
 obtain⟨c0,c1,c2⟩:=hc
 unfold spec_l1Byte.f
 by_cases h1:i<(b.length:Int)
 ·simp only[h1,c0,if_true]
  refine⟨_,rfl,and255 _,?_⟩
  show Cur b (wrap64 (i+1))
  rw[wrap64_id (by omega) (by omega)]
  exact⟨by omega,by omega,c2⟩
 ·simp only[h1,if_false]
  exact⟨_,rfl,and255 _,c0,c1,c2⟩
theorem draw_below (b:List Int) (i h n:Int) (hn:0<n) (hn':n≤9223372036854775807) (hc:Cur b i):Got (fun k=>spec_l1Below.f k b i h n) fun r=>(0≤r.1∧r.1<n)∧Cur b r.2.1:=by
 have tm:∀ x:Int,0≤x→0≤Int.tmod x n∧Int.tmod x n<n:=by
  intro x hx
  rw[Int.tmod_eq_emod_of_nonneg hx]
  exact⟨Int.emod_nonneg _ (by omega),Int.emod_lt_of_pos _ hn⟩
 unfold spec_l1Below.f
 simp only[show ¬n≤0 by omega,if_false]
 refine Got.succ ?_
 simp only[spec_l1Below.j0,show ¬n=0 by omega,if_false]
 refine Got.cond (fun _=>?_) (fun _=>?_)
 ·refine Got.bind (Got.const (draw_byte b i h hc)) fun r hr=>Got.some ?_
  exact⟨tm _ hr.1.1,hr.2⟩
 ·refine Got.bind (Got.const (draw_byte b i h hc)) fun r hr=>?_
  refine Got.bind (Got.const (draw_byte b _ _ hr.2)) fun r2 hr2=>?_
  refine Got.bind (Got.const (draw_byte b _ _ hr2.2)) fun r3 hr3=>Got.some ?_
  obtain⟨a1,a2⟩:=hr.1
  obtain⟨b1,b2⟩:=hr2.1
  obtain⟨c1,c2⟩:=hr3.1
  refine⟨tm _ ?_,hr3.2⟩
  rw[wrap64_id (i:=r.1*65536) (by omega) (by omega),wrap64_id (i:=r2.1*256) (by omega) (by omega),wrap64_id (i:=r.1*65536+r2.1*256) (by omega) (by omega),wrap64_id (by omega) (by omega)]
  omega
theorem draw_once (b:List Int) (i h n:Int) (hn:0<n) (hn':n≤9223372036854775807) (hc:Cur b i):Got (fun k=>spec_l1Once.f k b i h n) fun r=>Cur b r.2.1:=by
 unfold spec_l1Once.f
 exact Got.bind (draw_below b i h n hn hn' hc) fun r hr=>Got.some hr.2
theorem draw_str (b:List Int) (i h:Int) (l:List ByteArray) (hl:0<l.length) (hl':l.length≤1000000) (hc:Cur b i):Got (fun k=>spec_l1Str.f k b i h l) fun r=>r.1∈l∧Cur b r.2.1:=by
 unfold spec_l1Str.f
 refine Got.bind (draw_below b i h _ (by omega) (by omega) hc) fun r hr=>?_
 obtain⟨⟨h0,h1⟩,h2⟩:=hr
 simp only[h0,h1,if_true]
 refine Got.some ⟨?_,h2⟩
 obtain⟨j,hj⟩:=Int.eq_ofNat_of_zero_le h0
 rw[hj]
 have hlt:j<l.length:=by omega
 show rdOf ByteArray.empty l (j:Int)∈l
 rw[rdOf_cast _ hlt]
 exact List.getElem_mem hlt
theorem draw_int (b:List Int) (i h:Int) (l:List Int) (hl:0<l.length) (hl':l.length≤1000000) (hc:Cur b i):Got (fun k=>spec_l1Int.f k b i h l) fun r=>r.1∈l∧Cur b r.2.1:=by
 unfold spec_l1Int.f
 refine Got.bind (draw_below b i h _ (by omega) (by omega) hc) fun r hr=>?_
 obtain⟨⟨h0,h1⟩,h2⟩:=hr
 simp only[h0,h1,if_true]
 refine Got.some ⟨?_,h2⟩
 obtain⟨j,hj⟩:=Int.eq_ofNat_of_zero_le h0
 rw[hj]
 have hlt:j<l.length:=by omega
 show rd l (j:Int)∈l
 rw[rd_cast hlt]
 exact List.getElem_mem hlt
theorem draw_new_l (l:List Int) (hl:l.length≤1000000000) (d:Nat):∀ (j:Nat) (x:Int),j+d=l.length→Got (fun k=>spec_l1New.l0 k l x (j:Int)) fun r=>r.1=l∧r.2.1=0:=by
 induction d with
 | zero=>
  intro j x hj
  refine Got.succ ?_
  simp only[spec_l1New.l0,show ¬(j:Int)<(l.length:Int) by omega,if_false]
  exact Got.some ⟨rfl,rfl⟩
 | succ d ih=>
  intro j x hj
  refine Got.succ ?_
  simp only[spec_l1New.l0,show (j:Int)<(l.length:Int) by omega,if_true,show (0:Int)≤(j:Int) by omega,next_i (show j<l.length by omega) (by omega)]
  exact Got.cond (fun _=>ih (j+1) _ (by omega)) (fun _=>Got.some ⟨rfl,rfl⟩)
theorem draw_new (l:List Int) (hl:l.length≤1000000000):Got (fun k=>spec_l1New.f k l) fun r=>r.1=l∧r.2.1=0:=draw_new_l l hl l.length 0 _ (by omega)
theorem cur_new {l:List Int} (hl:l.length≤1000000000) {r:List Int × Int × Int} (h:r.1=l∧r.2.1=0):Cur r.1 r.2.1:=by
 obtain⟨h1,h2⟩:=h
 rw[h1,h2]
 exact⟨by omega,by omega,by omega⟩
theorem ex_iff (p:ByteArray):p.toList=([120]:List UInt8)↔p=exB:=by
 rw[show ([120]:List UInt8)=exB.toList from by rw[toList_data];rfl]
 exact toList_inj
theorem ex_not:(parseM exB 9999).2=false:=by
 unfold parseM
 rw[if_neg (by
  intro h
  have:=h.1
  unfold parseOk at this
  simp only[Bool.and_eq_true,List.all_eq_true] at this
  exact absurd (this.2.1 120 (by simp[exB])) (by decide))]
def finP (nums:List Int) (t:Nat):PartR:=(rd nums 0,rd nums 1,rd nums 2,[],(t:Int),inB (t:Int) 1 2)
def noP:PartR:=(0,0,0,[],0,false)
def allX (l:List ByteArray):Bool:=l.all fun p=>decide (p=exB)
def readGo:List ByteArray→List Int→Nat→PartR
 | [],nums,t=>finP nums t
 | p :: r,nums,t=>if p=exB then (if allX r=true then finP nums t else noP) else if (parseM p 9999).2=true then readGo r (nums.set t (parseM p 9999).1) (t+1) else noP
theorem spec_read_x (l:List ByteArray) (hl:l.length≤3) (nums:List Int) (hn:nums.length=3) (t:Nat) (d:Nat):∀ i:Nat,i+d=l.length →
  Ev (fun k=>spec_l4Read.l1 k l nums (i:Int) 0 0 0 (t:Int) false) (if allX (l.drop i)=true then finP nums t else noP):=by
 induction d with
 | zero=>
  intro i hi
  refine Ev.succ ?_
  rw[List.drop_eq_nil_of_le (by omega)]
  simp only[spec_l4Read.l1,show ¬(i:Int)<(l.length:Int) by omega,if_false,hn,show (0:Int)<((3:Nat):Int) by omega,show (1:Int)<((3:Nat):Int) by omega,show (2:Int)<((3:Nat):Int) by omega,if_true,in_f,Option.bind_some]
  exact Ev.some
 | succ d ih=>
  intro i hi
  have hlt:i<l.length:=by omega
  refine Ev.succ ?_
  rw[drop_get hlt]
  have ha:allX (l[i] :: l.drop (i+1))=(decide (l[i]=exB) && allX (l.drop (i+1))):=rfl
  rw[ha]
  simp only[spec_l4Read.l1,show (i:Int)<(l.length:Int) by omega,show (0:Int)≤(i:Int) by omega,if_true,rdOf_cast _ hlt,ex_iff,next_i hlt (by omega)]
  by_cases h:l[i]=exB
  ·simp only[h,if_true,decide_true,Bool.true_and]
   exact ih (i+1) (by omega)
  ·simp only[h,if_false,decide_false,Bool.false_and,Bool.false_eq_true]
   exact Ev.some
theorem spec_read_l (l:List ByteArray) (hl:l.length≤3) (hs:∀ x∈l,x.size≤9223372036854775807) (d:Nat):∀ (t:Nat) (nums:List Int),t+d=l.length→nums.length=3 →
  Ev (fun k=>spec_l4Read.l0 k l nums 0 0 0 (t:Int) false) (readGo (l.drop t) nums t):=by
 induction d with
 | zero=>
  intro t nums ht hn
  have hx:=spec_read_x l hl nums hn t 0 t (by omega)
  rw[List.drop_eq_nil_of_le (by omega)] at hx ⊢
  refine Ev.succ ?_
  simp only[spec_l4Read.l0,show ¬(t:Int)<(l.length:Int) by omega,if_false]
  refine Ev.succ ?_
  simp only[spec_l4Read.j3,Bool.false_eq_true,if_false]
  exact hx
 | succ d ih=>
  intro t nums ht hn
  have hlt:t<l.length:=by omega
  refine Ev.succ ?_
  simp only[spec_l4Read.l0,show (t:Int)<(l.length:Int) by omega,show (0:Int)≤(t:Int) by omega,if_true,rdOf_cast _ hlt]
  refine Ev.succ ?_
  by_cases h:l[t]=exB
  ·have hx:=spec_read_x l hl nums hn t (d+1) t (by omega)
   rw[show (l[t].toList != ([120]:List UInt8))=false from by rw[bne_eq_false_iff_eq];exact(ex_iff _).2 h]
   simp only[spec_l4Read.j3,Bool.false_eq_true,if_false]
   refine Ev.cast hx ?_
   rw[drop_get hlt]
   unfold readGo
   rw[if_pos h,show allX (l[t] :: l.drop (t+1))=(decide (l[t]=exB) && allX (l.drop (t+1))) from rfl,h]
   simp
  ·rw[show (l[t].toList != ([120]:List UInt8))=true from by rw[bne_iff_ne];exact fun e=>h ((ex_iff _).1 e),drop_get hlt]
   unfold readGo
   rw[if_neg h]
   simp only[spec_l4Read.j3,if_true,show (t:Int)<(l.length:Int) by omega,show (0:Int)≤(t:Int) by omega,rdOf_cast _ hlt]
   refine Ev.bind (spec_parse l[t] 9999 (hs _ (List.getElem_mem hlt))) ?_
   by_cases hp:(parseM l[t] 9999).2=true
   ·simp only[hp,if_true,hn,show (t:Int)<((3:Nat):Int) by omega,Int.toNat_natCast,next_i hlt (by omega)]
    exact ih (t+1) _ (by omega) (by rw[List.length_set];exact hn)
   ·simp only[hp,if_false,Bool.false_eq_true]
    exact Ev.some
theorem read_part (s:ByteArray) (hv:¬(parseV s).2.2.2.2=true) (h3:(piecesB s dot).length≤3):(readGo (piecesB s dot) [0,0,0] 0).2.2.2.2.2=(partB s).2.2.2.2.2∧((partB s).2.2.2.2.2=true→readGo (piecesB s dot) [0,0,0] 0=partB s):=by
 unfold partB
 rw[if_neg hv]
 have hne:=pieces_ne s dot
 have key:∀ l:List ByteArray,l≠[]→l.length≤3→(readGo l [0,0,0] 0).2.2.2.2.2=decide ((partL l).2.2≠0)∧((partL l).2.2≠0→readGo l [0,0,0] 0=((partL l).1,(partL l).2.1,0,[],(partL l).2.2,true)):=by
  intro l hl hl3
  have hx:=ex_not
  match l,hl,hl3 with
  | [a],_,_=>
   by_cases ha:a=exB
   ·subst ha
    simp[readGo,partL,oneP,hx,allX,finP,inB]
   ·by_cases pa:(parseM a 9999).2=true
    ·simp[readGo,partL,oneP,ha,pa,finP,inB,rd]
    ·simp[readGo,partL,oneP,ha,pa,noP]
  | [a,b],_,_=>
   by_cases ha:a=exB
   ·subst ha
    by_cases hb:b=exB
    ·subst hb
     simp[readGo,partL,twoP,oneP,hx,allX,finP,inB]
    ·simp[readGo,partL,twoP,oneP,hx,hb,allX,finP,inB,noP]
   ·by_cases pa:(parseM a 9999).2=true
    ·by_cases hb:b=exB
     ·subst hb
      simp[readGo,partL,twoP,oneP,ha,pa,allX,finP,inB,rd]
     ·by_cases pb:(parseM b 9999).2=true
      ·simp[readGo,partL,twoP,oneP,ha,pa,hb,pb,finP,inB,rd]
      ·simp[readGo,partL,twoP,oneP,ha,pa,hb,pb,noP]
    ·by_cases hb:b=exB
     ·simp[readGo,partL,twoP,oneP,ha,pa,hb,noP]
     ·simp[readGo,partL,twoP,oneP,ha,pa,hb,noP]
  | [a,b,c],_,_=>
   by_cases ha:a=exB
   ·subst ha
    by_cases hb:b=exB
    ·subst hb
     by_cases hc:c=exB
     ·subst hc
      simp[readGo,partL,twoP,oneP,hx,allX,finP,inB]
     ·simp[readGo,partL,twoP,oneP,hx,hc,allX,noP]
    ·by_cases hc:c=exB
     ·subst hc
      simp[readGo,partL,twoP,oneP,hx,hb,allX,noP]
     ·simp[readGo,partL,twoP,oneP,hx,hb,hc,allX,noP]
   ·by_cases pa:(parseM a 9999).2=true
    ·by_cases hb:b=exB
     ·subst hb
      by_cases hc:c=exB
      ·subst hc
       simp[readGo,partL,twoP,oneP,ha,pa,allX,finP,inB,rd]
      ·simp[readGo,partL,twoP,oneP,ha,pa,hc,allX,noP]
     ·by_cases pb:(parseM b 9999).2=true
      ·by_cases hc:c=exB
       ·subst hc
        simp[readGo,partL,twoP,oneP,ha,pa,hb,pb,allX,finP,inB,rd]
       ·by_cases pc:(parseM c 9999).2=true
        ·simp[readGo,partL,twoP,oneP,ha,pa,hb,pb,hc,pc,finP,inB,noP]
        ·simp[readGo,partL,twoP,oneP,ha,pa,hb,pb,hc,pc,noP]
      ·by_cases hc:c=exB
       ·simp[readGo,partL,twoP,oneP,ha,pa,hb,pb,hc,noP]
       ·simp[readGo,partL,twoP,oneP,ha,pa,hb,pb,hc,noP]
    ·by_cases hb:b=exB
     ·by_cases hc:c=exB
      ·simp[readGo,partL,twoP,oneP,ha,pa,hb,hc,noP]
      ·simp[readGo,partL,twoP,oneP,ha,pa,hb,hc,noP]
     ·by_cases hc:c=exB
      ·simp[readGo,partL,twoP,oneP,ha,pa,hb,hc,noP]
      ·simp[readGo,partL,twoP,oneP,ha,pa,hb,hc,noP]
 obtain⟨k1,k2⟩:=key _ hne h3
 by_cases h0:(partL (piecesB s dot)).2.2=0
 ·rw[if_pos h0]
  refine⟨by rw[k1];simp[h0],fun h=>by cases h⟩
 ·rw[if_neg h0]
  exact⟨by rw[k1];simp[h0],fun _=>k2 h0⟩
theorem spec_read (s:ByteArray) (hs:s.size≤16777216):Got (fun k=>spec_l4Read.f k s) fun r=>r.2.2.2.2.2=(partB s).2.2.2.2.2∧((partB s).2.2.2.2.2=true→r=partB s):=by
 unfold spec_l4Read.f
 refine Got.bind (Got.of (spec_pv s hs) rfl:Got _ fun r=>r=parseV s) fun v hv=>?_
 subst hv
 refine Got.cond (fun h=>Got.some ?_) fun h=>?_
 ·have e:partB s=((parseV s).1,(parseV s).2.1,(parseV s).2.2.1,(parseV s).2.2.2.1,3,true):=by unfold partB;rw[if_pos h]
  rw[e]
  exact⟨rfl,fun _=>rfl⟩
 ·refine Got.succ ?_
  simp only[spec_l4Read.j0]
  refine Got.bind (Got.of (spec_split s 46 hs) rfl:Got _ fun r=>r=piecesB s ⟨#[46]⟩) fun l hl=>?_
  subst hl
  refine Got.cond (fun h3=>Got.some ?_) fun h3=>?_
  ·have e:partB s=(0,0,0,[],0,false):=by
    unfold partB
    rw[if_neg h]
    have:(partL (piecesB s dot)).2.2=0:=by
     have h4:3<(piecesB s dot).length:=by have:((piecesB s ⟨#[46]⟩).length:Int)>3:=h3;show 3<(piecesB s ⟨#[46]⟩).length;omega
     match hp:piecesB s dot with
     | []=>rfl
     | [a]=>rw[hp] at h4;simp at h4
     | [a,b]=>rw[hp] at h4;simp at h4
     | [a,b,c]=>rw[hp] at h4;simp at h4
     | a :: b :: c :: d :: r=>rfl
    rw[if_pos this]
   rw[e]
   exact⟨rfl,fun h=>by cases h⟩
  ·have h3':(piecesB s dot).length≤3:=by have:¬((piecesB s ⟨#[46]⟩).length:Int)>3:=h3;show (piecesB s ⟨#[46]⟩).length≤3;omega
   refine Got.succ ?_
   simp only[spec_l4Read.j1]
   refine Got.of (spec_read_l (piecesB s dot) h3' (fun x hx=>by have:=pieces_mem (s:=s) (sep:=dot) (by simp[dot]) x hx;omega) (piecesB s dot).length 0 [0,0,0] (by omega) rfl) ?_
   rw[List.drop_zero]
   exact read_part s h h3'
theorem impl_part (s:ByteArray) (hs:s.size≤16777216):Ev (fun k=>impl_partOf.f k s) (partB s):=by
 unfold impl_partOf.f
 refine Ev.bind (impl_pv s hs) ?_
 unfold partB
 by_cases h:(parseV s).2.2.2.2=true
 ·simp only[h,if_true]
  exact Ev.some
 ·have hsp:strings_Split.f s (⟨#[46]⟩:ByteArray)=some (piecesB s dot):=strings_split s 46 hs
  have hne:¬(piecesB s dot).length=0:=by have:=List.length_pos_iff.2 (pieces_ne s dot);omega
  simp only[h,if_false,Bool.false_eq_true,hsp,Option.bind_some,hne]
  have hz:∀ x∈piecesB s dot,x.size≤9223372036854775807:=fun x hx=>by have:=pieces_mem (s:=s) (sep:=dot) (by simp[dot]) x hx;omega
  match hp:piecesB s dot with
  | []=>exact absurd (by rw[hp];rfl) hne
  | [a]=>
   simp only[List.length_cons,List.length_nil,show ¬3<0+1 by omega,if_false]
   show Ev (fun k=>impl_partOf.nums k [a] 1) _
   unfold impl_partOf.nums
   simp only[show 1≤2 by omega,if_true]
   show Ev (fun k=>(impl_ParseNum.f k a 9999).bind _) _
   refine Ev.bind (impl_parse a 9999) ?_
   by_cases pa:(parseM a 9999).2=true
   ·simp only[pa,if_true,Nat.sub_self,impl_partOf.rest,partL,oneP]
    exact Ev.some
   ·simp only[pa,if_false,Bool.false_eq_true,partL,oneP,if_true]
    exact Ev.some
  | [a,b]=>
   simp only[List.length_cons,List.length_nil,show ¬3<0+1+1 by omega,if_false]
   show Ev (fun k=>impl_partOf.nums k [a,b] (if b.toList=([120]:List UInt8) then 1 else 2)) _
   by_cases hb:b=exB
   ·simp only[(ex_iff b).2 hb,if_true]
    unfold impl_partOf.nums
    simp only[show 1≤2 by omega,if_true]
    show Ev (fun k=>(impl_ParseNum.f k a 9999).bind _) _
    refine Ev.bind (impl_parse a 9999) ?_
    by_cases pa:(parseM a 9999).2=true
    ·simp only[pa,if_true,Nat.sub_self,impl_partOf.rest,partL,twoP,oneP,hb]
     exact Ev.some
    ·simp only[pa,if_false,Bool.false_eq_true,partL,twoP,oneP,if_true,hb]
     exact Ev.some
   ·simp only[show ¬b.toList=([120]:List UInt8) from fun e=>hb ((ex_iff b).1 e),if_false]
    unfold impl_partOf.nums
    simp only[Nat.le_refl,if_true]
    show Ev (fun k=>(impl_ParseNum.f k a 9999).bind _) _
    refine Ev.bind (impl_parse a 9999) ?_
    by_cases pa:(parseM a 9999).2=true
    ·simp only[pa,if_true,Nat.sub_self]
     show Ev (fun k=>(impl_ParseNum.f k b 9999).bind _) _
     refine Ev.bind (impl_parse b 9999) ?_
     by_cases pb:(parseM b 9999).2=true
     ·simp only[pb,pa,if_true,impl_partOf.rest,partL,twoP,hb,if_false,and_self,show ¬2-(0+1)=0 by omega]
      exact Ev.some
     ·simp only[pb,pa,if_true,if_false,Bool.false_eq_true,partL,twoP,hb,and_false]
      exact Ev.some
    ·simp only[pa,if_false,Bool.false_eq_true,partL,twoP,hb,false_and,if_true]
     exact Ev.some
  | [a,b,c]=>
   simp only[List.length_cons,List.length_nil,show ¬3<0+1+1+1 by omega,if_false]
   show Ev (fun k=>impl_partOf.nums k [a,b,c] (if c.toList=([120]:List UInt8) then (if b.toList=([120]:List UInt8) then 1 else 2) else 3)) _
   by_cases hc:c=exB
   ·simp only[(ex_iff c).2 hc,if_true]
    by_cases hb:b=exB
    ·simp only[(ex_iff b).2 hb,if_true]
     unfold impl_partOf.nums
     simp only[show 1≤2 by omega,if_true]
     show Ev (fun k=>(impl_ParseNum.f k a 9999).bind _) _
     refine Ev.bind (impl_parse a 9999) ?_
     by_cases pa:(parseM a 9999).2=true
     ·simp only[pa,if_true,Nat.sub_self,impl_partOf.rest,partL,twoP,oneP,hb,hc]
      exact Ev.some
     ·simp only[pa,if_false,Bool.false_eq_true,partL,twoP,oneP,if_true,hb,hc]
      exact Ev.some
    ·simp only[show ¬b.toList=([120]:List UInt8) from fun e=>hb ((ex_iff b).1 e),if_false]
     unfold impl_partOf.nums
     simp only[Nat.le_refl,if_true]
     show Ev (fun k=>(impl_ParseNum.f k a 9999).bind _) _
     refine Ev.bind (impl_parse a 9999) ?_
     by_cases pa:(parseM a 9999).2=true
     ·simp only[pa,if_true,Nat.sub_self]
      show Ev (fun k=>(impl_ParseNum.f k b 9999).bind _) _
      refine Ev.bind (impl_parse b 9999) ?_
      by_cases pb:(parseM b 9999).2=true
      ·simp only[pb,pa,if_true,impl_partOf.rest,partL,twoP,hb,hc,if_false,and_self,show ¬2-(0+1)=0 by omega]
       exact Ev.some
      ·simp only[pb,pa,if_true,if_false,Bool.false_eq_true,partL,twoP,hb,hc,and_false]
       exact Ev.some
     ·simp only[pa,if_false,Bool.false_eq_true,partL,twoP,hb,hc,false_and,if_true]
      exact Ev.some
   ·simp only[show ¬c.toList=([120]:List UInt8) from fun e=>hc ((ex_iff c).1 e),if_false]
    unfold impl_partOf.nums
    simp only[show ¬3≤2 by omega,if_false,partL,hc,if_true]
    exact Ev.some
  | a :: b :: c :: d :: r=>
   simp only[List.length_cons,show 3<r.length+1+1+1+1 by omega,if_true,partL]
   exact Ev.some
def okP (p:PartR):Prop:=(-1≤p.1∧p.1≤1000000000)∧(-1≤p.2.1∧p.2.1≤1000000000)∧(-1≤p.2.2.1∧p.2.2.1≤1000000000)∧(1≤p.2.2.2.2.1∧p.2.2.2.2.1≤3)
theorem parseM_le {p:ByteArray} (h:(parseM p 9999).2=true):0≤(parseM p 9999).1∧(parseM p 9999).1≤9999:=by
 unfold parseM at h ⊢
 split at h
 next hc=>rw[if_pos hc];exact⟨by unfold valB;omega,hc.2⟩
 next=>cases h
theorem partL_ok:∀ (l:List ByteArray),(partL l).2.2≠0→(0≤(partL l).1∧(partL l).1≤9999)∧(0≤(partL l).2.1∧(partL l).2.1≤9999)∧1≤(partL l).2.2∧(partL l).2.2≤2:=by
 have one:∀ a,(oneP a).2.2≠0→(0≤(oneP a).1∧(oneP a).1≤9999)∧(0≤(oneP a).2.1∧(oneP a).2.1≤9999)∧1≤(oneP a).2.2∧(oneP a).2.2≤2:=by
  intro a h
  unfold oneP at h ⊢
  split at h
  next hc=>rw[if_pos hc];have:=parseM_le hc;exact⟨this,⟨by simp,by simp⟩,by simp,by simp⟩
  next=>exact absurd rfl h
 have two:∀ a b,(twoP a b).2.2≠0→(0≤(twoP a b).1∧(twoP a b).1≤9999)∧(0≤(twoP a b).2.1∧(twoP a b).2.1≤9999)∧1≤(twoP a b).2.2∧(twoP a b).2.2≤2:=by
  intro a b h
  unfold twoP at h ⊢
  split at h
  next hc=>rw[if_pos hc];exact one a h
  next hc=>
   rw[if_neg hc]
   split at h
   next hd=>rw[if_pos hd];exact⟨parseM_le hd.1,parseM_le hd.2,by simp,by simp⟩
   next=>exact absurd rfl h
 intro l h
 match l,h with
 | [],h=>exact absurd rfl h
 | [a],h=>exact one a h
 | [a,b],h=>exact two a b h
 | [a,b,c],h=>
  have e:partL [a,b,c]=if c=exB then twoP a b else (0,0,0):=rfl
  rw[e] at h ⊢
  by_cases hc:c=exB
  ·rw[if_pos hc] at h ⊢
   exact two a b h
  ·rw[if_neg hc] at h
   exact absurd rfl h
 | a :: b :: c :: d :: r,h=>exact absurd rfl h
theorem partB_ok {s:ByteArray} (h:(partB s).2.2.2.2.2=true):okP (partB s):=by
 unfold partB at h ⊢
 split at h
 next hv=>
  rw[if_pos hv]
  obtain⟨a0,a1,b0,b1,c0,c1,_⟩:=ver_parts (parseV_ok hv)
  exact⟨⟨by show -1≤(parseV s).1;omega,by show (parseV s).1≤_;omega⟩,⟨by show -1≤(parseV s).2.1;omega,by show (parseV s).2.1≤_;omega⟩,⟨by show -1≤(parseV s).2.2.1;omega,by show (parseV s).2.2.1≤_;omega⟩,by show (1:Int)≤3;omega,by show (3:Int)≤3;omega⟩
 next hv=>
  rw[if_neg hv]
  split at h
  next=>cases h
  next h0=>
   rw[if_neg h0]
   obtain⟨⟨x0,x1⟩,⟨y0,y1⟩,z0,z1⟩:=partL_ok _ h0
   exact⟨⟨by show -1≤(partL _).1;omega,by show (partL _).1≤_;omega⟩,⟨by show -1≤(partL _).2.1;omega,by show (partL _).2.1≤_;omega⟩,⟨by show (-1:Int)≤0;omega,by show (0:Int)≤_;omega⟩,z0,by show (partL _).2.2≤3;omega⟩
theorem partB_pre (s:ByteArray):(partB s).2.2.2.1.length≤3∧∀ x∈(partB s).2.2.2.1,x.size≤s.size:=by
 unfold partB
 split
 ·refine⟨parseV_length s,?_⟩
  show ∀ x∈(parseV s).2.2.2.1,x.size≤s.size
  unfold parseV
  split
  ·unfold readV
   split
   ·exact preQ_mem s
   ·exact fun x hx=>by simp[noVer] at hx
  ·exact fun x hx=>by simp[noVer] at hx
 ·split
  ·exact⟨Nat.zero_le _,fun x hx=>by cases hx⟩
  ·exact⟨Nat.zero_le _,fun x hx=>by cases hx⟩
theorem impl_caret_ev (a b c:Int) (l:List ByteArray) (t:Int) (ha : -1≤a∧a≤1000000000) (hb : -1≤b∧b≤1000000000) (hc : -1≤c∧c≤1000000000) (l2:List ByteArray) :
  Ev (fun k=>impl_caret.f k a b c l t) ((caretC (a,b,c,l2,t,true)).f1.f0,(caretC (a,b,c,l2,t,true)).f1.f1,(caretC (a,b,c,l2,t,true)).f1.f2,[]):=by
 have w1:wrap64 (a+1)=a+1:=wrap64_id (by omega) (by omega)
 have w2:wrap64 (b+1)=b+1:=wrap64_id (by omega) (by omega)
 have w3:wrap64 (c+1)=c+1:=wrap64_id (by omega) (by omega)
 unfold impl_caret.f
 by_cases h0:a=0
 ·subst h0
  simp only[if_true]
  refine Ev.succ ?_
  by_cases h1:t=1
  ·subst h1
   simp only[impl_caret.j0,beq_self_eq_true,if_true,w1]
   refine Ev.cast Ev.some ?_
   simp[caretC,lowC,mkC]
  ·simp only[impl_caret.j0,show (t == 1)=false by simpa using h1,Bool.false_eq_true,if_false,w2,w3]
   by_cases h2:b=0
   ·subst h2
    by_cases h3:t=2
    ·subst h3
     simp only[if_true]
     refine Ev.cast Ev.some ?_
     simp[caretC,lowC,mkC]
    ·simp only[if_true,h3,if_false]
     refine Ev.cast Ev.some ?_
     simp[caretC,lowC,mkC,h1,h3]
   ·simp only[h2,if_false]
    refine Ev.cast Ev.some ?_
    simp[caretC,lowC,mkC,h1,h2]
 ·simp only[h0,if_false]
  refine Ev.succ ?_
  simp only[impl_caret.j0,if_true,w1]
  refine Ev.cast Ev.some ?_
  simp[caretC,lowC,mkC,h0]
theorem spec_caret_ev (a b c:Int) (l:List ByteArray) (t:Int) (o:Bool) (ha : -1≤a∧a≤1000000000) (hb : -1≤b∧b≤1000000000) (hc : -1≤c∧c≤1000000000) (l2:List ByteArray) :
  Ev (fun k=>spec_l4Caret.f k a b c l t o) ((caretC (a,b,c,l2,t,true)).f1.f0,(caretC (a,b,c,l2,t,true)).f1.f1,(caretC (a,b,c,l2,t,true)).f1.f2,[]):=by
 have w1:wrap64 (a+1)=a+1:=wrap64_id (by omega) (by omega)
 have w2:wrap64 (b+1)=b+1:=wrap64_id (by omega) (by omega)
 have w3:wrap64 (c+1)=c+1:=wrap64_id (by omega) (by omega)
 unfold spec_l4Caret.f
 by_cases h0:a=0
 ·subst h0
  simp only[if_true]
  refine Ev.succ ?_
  by_cases h1:t=1
  ·subst h1
   simp only[spec_l4Caret.j0,beq_self_eq_true,if_true,w1]
   refine Ev.cast Ev.some ?_
   simp[caretC,lowC,mkC]
  ·simp only[spec_l4Caret.j0,show (t == 1)=false by simpa using h1,Bool.false_eq_true,if_false,w2,w3]
   by_cases h2:b=0
   ·subst h2
    by_cases h3:t=2
    ·subst h3
     simp only[if_true]
     refine Ev.cast Ev.some ?_
     simp[caretC,lowC,mkC]
    ·simp only[if_true,h3,if_false]
     refine Ev.cast Ev.some ?_
     simp[caretC,lowC,mkC,h1,h3]
   ·simp only[h2,if_false]
    refine Ev.cast Ev.some ?_
    simp[caretC,lowC,mkC,h1,h2]
 ·simp only[h0,if_false]
  refine Ev.succ ?_
  simp only[spec_l4Caret.j0,if_true,w1]
  refine Ev.cast Ev.some ?_
  simp[caretC,lowC,mkC,h0]
theorem caret_low (p:PartR):caretC p=lowC (caretC p).f1.f0 (caretC p).f1.f1 (caretC p).f1.f2:=by
 unfold caretC
 split
 ·rfl
 split
 ·rfl
 ·rfl
def signsOk (g:List UInt8):Prop:=g=[94]∨g=[126]∨g=[62,61]∨g=[62]∨g=[60,61]∨g=[60]∨g=[61]∨g=[]
theorem impl_make (g:ByteArray) (hg:signsOk g.toList) (p:PartR) (hp:okP p):Ev (fun k=>impl_wordCmps.f k g p.1 p.2.1 p.2.2.1 p.2.2.2.1 p.2.2.2.2.1) (makeC g.toList p):=by
  obtain⟨a,b,c,l,t,o⟩:=p
  obtain⟨ha,hb,hc,ht⟩:=hp
  simp only at ha hb hc ht
  have w1:wrap64 (a+1)=a+1:=wrap64_id (by omega) (by omega)
  have w2:wrap64 (b+1)=b+1:=wrap64_id (by omega) (by omega)
  have w3:wrap64 (c+1)=c+1:=wrap64_id (by omega) (by omega)
  have hcar:=impl_caret_ev a b c l t ha hb hc l
  have hlow:=caret_low (a,b,c,l,t,true)
  have hm:mn t 2=if t=1 then 1 else 2:=by unfold mn;split <;> omega
  unfold impl_wordCmps.f impl_nextOf.f impl_below.f
  rcases (show t=1∨t=2∨t=3 by omega) with rfl|rfl|rfl <;> rcases hg with e|e|e|e|e|e|e|e <;> rw[e] <;>
    first
    | (refine Ev.cast (Ev.const (by simp[w1,w2,w3,hm];rfl)) ?_;simp[makeC,fromC,lowC,mkC,nextC];done)
    | (simp only[Option.bind_some,if_true,if_false,w1,w2,w3,show ¬(2:Int)=1 by decide,show ¬(3:Int)=1 by decide,show ¬(3:Int)=2 by decide,show ¬([94]:List UInt8)=[62,61] by decide,show ¬([94]:List UInt8)=[60] by decide,show ¬([94]:List UInt8)=[62] by decide,show ¬([94]:List UInt8)=[60,61] by decide,show ¬([94]:List UInt8)=[126] by decide]
       refine Ev.bind hcar (Ev.cast Ev.some ?_)
       show [mkC 4 a b c l,lowC _ _ _]=_
       unfold makeC
       rw[if_pos rfl]
       show _=[fromC (a,b,c,l,_,o),caretC (a,b,c,l,_,true)]
       rw[hlow]
       rfl)
theorem spec_make (g:ByteArray) (hg:signsOk g.toList) (p:PartR) (hp:okP p):Ev (fun k=>spec_l4Make.f k g p.1 p.2.1 p.2.2.1 p.2.2.2.1 p.2.2.2.2.1 p.2.2.2.2.2) (makeC g.toList p):=by
  obtain⟨a,b,c,l,t,o⟩:=p
  obtain⟨ha,hb,hc,ht⟩:=hp
  simp only at ha hb hc ht
  have w1:wrap64 (a+1)=a+1:=wrap64_id (by omega) (by omega)
  have w2:wrap64 (b+1)=b+1:=wrap64_id (by omega) (by omega)
  have hcar:=spec_caret_ev a b c l t o ha hb hc l
  have hlow:=caret_low (a,b,c,l,t,true)
  by_cases h94:g.toList=[94]
  · unfold spec_l4Make.f spec_l4From.f spec_l4Below.f
    rw[h94]
    simp only[if_true,Option.bind_some]
    refine Ev.bind hcar (Ev.cast Ev.some ?_)
    show [mkC 4 a b c l,lowC _ _ _]=_
    unfold makeC
    rw[if_pos rfl]
    show _=[fromC (a,b,c,l,_,o),caretC (a,b,c,l,_,true)]
    rw[hlow]
    rfl
  · have hg':signsOk g.toList:=hg
    unfold spec_l4Make.f spec_l4From.f spec_l4Below.f spec_l4Tilde.f
    rcases hg with e|e|e|e|e|e|e|e
    · exact absurd e h94
    all_goals rw[e]
    all_goals rcases (show t=1∨t=2∨t=3 by omega) with rfl|rfl|rfl
    all_goals first
      | (refine Ev.cast (Ev.const (by simp[w1,w2];rfl)) ?_;simp[makeC,fromC,lowC,mkC,nextC];done)
      | (simp
         refine Ev.succ ?_
         simp only[spec_l4Make.j0,e]
         first
         | (refine Ev.cast (Ev.const (by simp[w1,w2,spec_l4Next.f];rfl)) ?_;simp[makeC,fromC,lowC,mkC,nextC];done)
         | (simp
            refine Ev.succ ?_
            simp only[spec_l4Make.j1,e]
            refine Ev.cast (Ev.const (by simp[w1,w2,spec_l4Next.f,spec_l4From.f,spec_l4Below.f];rfl)) ?_
            simp[makeC,fromC,lowC,mkC,nextC]))
def ltB (a b:ByteArray):Bool:=Op.bytesLess a.toList b.toList
theorem ltB_turned (a b:ByteArray):ltB b a = !(ltB a b || decide (a=b)):=by
 unfold ltB
 rw[Mine.less_turned]
 congr 2
 by_cases h:a=b
 ·subst h;simp
 ·have:¬a.toList=b.toList:=fun e=>h (toList_inj.1 e)
  simp[h,this]
theorem ltB_self (a:ByteArray):ltB a a=false:=by
 have h:=ltB_turned a a
 cases hq:ltB a a with
 | false=>rfl
 | true=>rw[hq] at h;simp at h
def cmpI (a b:Int):Int:=if a<b then -1 else if a>b then 1 else 0
def cmpS (a b:ByteArray):Int:=if ltB a b=true then -1 else if ltB b a=true then 1 else 0
theorem cmpS_zero (a b:ByteArray):cmpS a b=0↔a=b:=by
 unfold cmpS
 rw[ltB_turned a b]
 constructor
 ·intro h
  cases hq:ltB a b with
  | true=>rw[hq] at h;simp at h
  | false=>
   rw[hq] at h
   by_cases e:a=b
   ·exact e
   ·simp[e] at h
 ·rintro rfl
  simp[ltB_self]
theorem cmpS_neg (a b:ByteArray):decide (cmpS a b<0)=ltB a b:=by
 unfold cmpS
 cases ltB a b with
 | true=>simp
 | false=>cases ltB b a <;> simp
theorem cmpInt (a b:Int):Ev (fun k=>cmp_Compare_int.f k a b) (cmpI a b):=by
 unfold cmp_Compare_int.f
 simp only[cmp_isNaN_int.f,Option.bind_some,bne_self_eq_false,Bool.false_eq_true,if_false]
 refine Ev.succ ?_
 simp only[cmp_Compare_int.j0,Bool.false_eq_true,if_false]
 refine Ev.succ ?_
 simp only[cmp_Compare_int.j1]
 unfold cmpI
 by_cases h:a<b
 ·simp only[h,if_true]
  exact Ev.some
 ·by_cases h':a>b
  ·simp only[h,h',if_true,if_false]
   exact Ev.some
  ·simp only[h,h',if_false]
   exact Ev.some
theorem cmpStr (a b:ByteArray):Ev (fun k=>cmp_Compare_string.f k a b) (cmpS a b):=by
 unfold cmp_Compare_string.f
 simp only[cmp_isNaN_string.f,Option.bind_some,bne_self_eq_false,Bool.false_eq_true,if_false]
 refine Ev.succ ?_
 simp only[cmp_Compare_string.j0,Bool.false_eq_true,if_false]
 refine Ev.succ ?_
 simp only[cmp_Compare_string.j1]
 unfold cmpS ltB
 cases h:Op.bytesLess a.toList b.toList with
 | true=>
  simp only[if_true]
  exact Ev.some
 | false=>
  cases h':Op.bytesLess b.toList a.toList with
  | true=>
   simp only[Bool.false_eq_true,if_true,if_false]
   exact Ev.some
  | false=>
   simp only[Bool.false_eq_true,if_false]
   exact Ev.some
def orI:List Int→Int
 | []=>0
 | x :: r=>if x=0 then orI r else x
theorem cmpOr_l (l:List Int) (hl:l.length≤9223372036854775807) (d:Nat):∀ i:Nat,i+d=l.length→Ev (fun k=>cmp_Or_int.l0 k 0 l (l.length:Int) (i:Int)) (orI (l.drop i)):=by
 induction d with
 | zero=>
  intro i hi
  have h1:¬(i:Int)<(l.length:Int):=by omega
  refine Ev.succ ?_
  simp only[cmp_Or_int.l0,h1,if_false,List.drop_eq_nil_of_le (show l.length≤i by omega),orI]
  exact Ev.some
 | succ d ih=>
  intro i hi
  have hlt:i<l.length:=by omega
  have h1:(i:Int)<(l.length:Int):=by omega
  have h2:(0:Int)≤(i:Int):=by omega
  have h3:=next_i hlt hl
  refine Ev.succ ?_
  rw[drop_get hlt]
  simp only[cmp_Or_int.l0,h1,h2,h3,if_true,rd_cast hlt,orI]
  by_cases h:l[i]=0
  ·simp only[h,if_true]
   exact ih (i+1) (by omega)
  ·simp only[h,if_false]
   exact Ev.some
theorem cmpOr (l:List Int) (hl:l.length≤9223372036854775807):Ev (fun k=>cmp_Or_int.f k l) (orI l):=cmpOr_l l hl l.length 0 (by omega)
def cmpW (a b:ByteArray):Int:=
 if digitsB a=true then if digitsB b=true then orI [cmpI (a.size:Int) (b.size:Int),cmpS a b] else -1
 else if digitsB b=true then 1 else cmpS a b
theorem nil_size (s:ByteArray):s.toList=([]:List UInt8)↔s.size=0:=by
 rw[toList_data]
 constructor
 ·intro h
  have:=congrArg List.length h
  simpa using this
 ·intro h
  apply List.eq_nil_of_length_eq_zero
  simpa using h
theorem digits_nil (s:ByteArray) (h:s.size=0):digitsB s=true:=by
 unfold digitsB bs
 have:s.data.toList=[]:=by
  apply List.eq_nil_of_length_eq_zero
  simpa using h
 rw[this]
 rfl
theorem words_j (a b:ByteArray):Ev (fun k=>impl_compareWords.j0 k a b (digitsB a) (digitsB b)) (cmpW a b):=by
 refine Ev.succ ?_
 unfold cmpW
 cases ha:digitsB a with
 | true=>
  simp only[impl_compareWords.j0,if_true]
  refine Ev.succ ?_
  cases hb:digitsB b with
  | true=>
   simp only[impl_compareWords.j1,if_true]
   exact Ev.bind (cmpInt _ _) (Ev.bind (cmpStr _ _) (Ev.bind (cmpOr _ (by simp)) Ev.some))
  | false=>
   simp only[impl_compareWords.j1,if_true,Bool.false_eq_true,if_false]
   exact Ev.some
 | false=>
  simp only[impl_compareWords.j0,Bool.false_eq_true,if_false]
  refine Ev.succ ?_
  cases hb:digitsB b with
  | true=>
   simp only[impl_compareWords.j1,if_true,Bool.false_eq_true,if_false]
   exact Ev.some
  | false=>
   simp only[impl_compareWords.j1,Bool.false_eq_true,if_false]
   exact Ev.bind (cmpStr _ _) Ev.some
theorem words (a b:ByteArray) (ha:a.size≤9223372036854775807) (hb:b.size≤9223372036854775807):Ev (fun k=>impl_compareWords.f k a b) (cmpW a b):=by
 unfold impl_compareWords.f
 have fa:=impl_figures a ha
 have fb:=impl_figures b hb
 have hj:=words_j a b
 simp only[nil_size]
 by_cases ea:a.size=0
 ·simp only[ea,if_true]
  rw[digits_nil a ea] at hj
  by_cases eb:b.size=0
  ·simp only[eb,if_true]
   rw[digits_nil b eb] at hj
   exact hj
  ·simp only[eb,if_false]
   refine Ev.bind fb ?_
   simpa [eb] using hj
 ·simp only[ea,if_false]
  refine Ev.bind fa ?_
  by_cases eb:b.size=0
  ·simp only[eb,if_true]
   rw[digits_nil b eb] at hj
   simpa [ea] using hj
  ·simp only[eb,if_false]
   refine Ev.bind fb ?_
   simpa [ea,eb] using hj
def cmpWs:List ByteArray→List ByteArray→Int
 | [],[]=>0
 | [],_ :: _=>-1
 | _ :: _,[]=>1
 | x :: a,y :: b=>if cmpW x y=0 then cmpWs a b else cmpW x y
theorem compareFunc_l (a b:List ByteArray) (hl:a.length≤9223372036854775807) (hs:∀ x∈a,x.size≤9223372036854775807) (hs':∀ x∈b,x.size≤9223372036854775807) (d:Nat):∀ i:Nat,i+d=a.length→i≤b.length →
  Ev (fun k=>slices_CompareFunc_string_string_string_string.l0 k a b a (a.length:Int) (i:Int)) (cmpWs (a.drop i) (b.drop i)):=by
 induction d with
 | zero=>
  intro i hi hb
  have h1:¬(i:Int)<(a.length:Int):=by omega
  refine Ev.succ ?_
  simp only[slices_CompareFunc_string_string_string_string.l0,h1,if_false,List.drop_eq_nil_of_le (show a.length≤i by omega)]
  by_cases h:a.length<b.length
  ·rw[drop_get (show i<b.length by omega)]
   simp only[show (a.length:Int)<(b.length:Int) by omega,if_true,cmpWs]
   exact Ev.some
  ·rw[List.drop_eq_nil_of_le (show b.length≤i by omega)]
   simp only[show ¬(a.length:Int)<(b.length:Int) by omega,if_false,cmpWs]
   exact Ev.some
 | succ d ih=>
  intro i hi hb
  have hlt:i<a.length:=by omega
  have h1:(i:Int)<(a.length:Int):=by omega
  have h2:(0:Int)≤(i:Int):=by omega
  have h3:=next_i hlt hl
  refine Ev.succ ?_
  simp only[slices_CompareFunc_string_string_string_string.l0,h1,if_true]
  refine Ev.succ ?_
  rw[drop_get hlt]
  by_cases h:i<b.length
  ·rw[drop_get h]
   simp only[slices_CompareFunc_string_string_string_string.j1,h1,h2,h3,if_true,show ¬(i:Int)≥(b.length:Int) by omega,if_false,show (i:Int)<(b.length:Int) by omega,rdOf_cast _ hlt,rdOf_cast _ h,cmpWs]
   refine Ev.bind (words _ _ (hs _ (List.getElem_mem hlt)) (hs' _ (List.getElem_mem h))) ?_
   by_cases hc:cmpW a[i] b[i]=0
   ·simp only[hc,if_true]
    exact ih (i+1) (by omega) (by omega)
   ·simp only[hc,if_false]
    exact Ev.some
  ·rw[List.drop_eq_nil_of_le (show b.length≤i by omega)]
   simp only[slices_CompareFunc_string_string_string_string.j1,h1,h2,if_true,show (i:Int)≥(b.length:Int) by omega,cmpWs]
   exact Ev.some
theorem compareFunc (a b:List ByteArray) (hl:a.length≤9223372036854775807) (hs:∀ x∈a,x.size≤9223372036854775807) (hs':∀ x∈b,x.size≤9223372036854775807) :
  Ev (fun k=>slices_CompareFunc_string_string_string_string.f k a b) (cmpWs a b):=compareFunc_l a b hl hs hs' a.length 0 (by omega) (by omega)
def cmpP (a b:List ByteArray):Int:=
 if ((a.length:Int) == 0) != ((b.length:Int) == 0) then if (a.length:Int)>0 then -1 else 1 else cmpWs a b
def cmpV (a b c:Int) (l:List ByteArray) (a' b' c':Int) (l':List ByteArray):Int:=
 if orI [cmpI a a',cmpI b b',cmpI c c']=0 then cmpP l l' else orI [cmpI a a',cmpI b b',cmpI c c']
theorem compareVer (a b c:Int) (l:List ByteArray) (a' b' c':Int) (l':List ByteArray) (hl:l.length≤9223372036854775807) (hs:∀ x∈l,x.size≤9223372036854775807) (hs':∀ x∈l',x.size≤9223372036854775807) :
  Ev (fun k=>impl_compareVer.f k a b c l a' b' c' l') (cmpV a b c l a' b' c' l'):=by
 unfold impl_compareVer.f cmpV
 refine Ev.bind (cmpInt _ _) (Ev.bind (cmpInt _ _) (Ev.bind (cmpInt _ _) (Ev.bind (cmpOr _ (by simp)) ?_)))
 by_cases h:orI [cmpI a a',cmpI b b',cmpI c c']=0
 ·simp only[h,if_true]
  refine Ev.succ ?_
  simp only[impl_compareVer.j0]
  unfold cmpP
  cases hq:(((l.length:Int) == 0) != ((l'.length:Int) == 0)) with
  | true=>
   simp only[if_true]
   by_cases h0:(l.length:Int)>0
   ·simp only[h0,if_true]
    exact Ev.some
   ·simp only[h0,if_false]
    exact Ev.some
  | false=>
   simp only[Bool.false_eq_true,if_false]
   exact Ev.bind (compareFunc _ _ hl hs hs') Ev.some
 ·simp only[h,if_false]
  exact Ev.some
/-! The reference's. -/
def lessW (a b:ByteArray):Bool:=
 if digitsB a=true∧digitsB b=true then if a.size=b.size then ltB a b else decide (a.size<b.size)
 else if (digitsB a != digitsB b)=true then digitsB a else ltB a b
theorem spec_lessPart (a b:ByteArray) (ha:a.size≤9223372036854775807) (hb:b.size≤9223372036854775807):Ev (fun k=>spec_l3LessPart.f k a b) (lessW a b):=by
 unfold spec_l3LessPart.f
 refine Ev.bind (spec_digits a ha) (Ev.bind (spec_digits b hb) ?_)
 unfold lessW
 cases da:digitsB a with
 | true=>
  simp only[if_true]
  refine Ev.succ ?_
  cases db:digitsB b with
  | true=>
   simp only[spec_l3LessPart.j0,if_true,and_self]
   by_cases h:a.size=b.size
   ·simp only[h,if_true]
    exact Ev.some
   ·simp only[show ¬(a.size:Int)=(b.size:Int) by omega,h,if_false]
    refine Ev.cast Ev.some ?_
    rw[decide_eq_decide]
    omega
  | false=>
   simp only[spec_l3LessPart.j0,Bool.false_eq_true,if_false,and_false]
   exact Ev.some
 | false=>
  simp only[Bool.false_eq_true,if_false,false_and]
  refine Ev.succ ?_
  cases db:digitsB b with
  | true=>
   simp only[spec_l3LessPart.j0,Bool.false_eq_true,if_false]
   exact Ev.some
  | false=>
   simp only[spec_l3LessPart.j0,Bool.false_eq_true,if_false]
   exact Ev.some
def lessWs:List ByteArray→List ByteArray→Bool
 | [],[]=>false
 | [],_ :: _=>true
 | _ :: _,[]=>false
 | x :: a,y :: b=>if x=y then lessWs a b else lessW x y
theorem spec_lessPre_l (a b:List ByteArray) (hl:a.length≤9223372036854775807) (hs:∀ x∈a,x.size≤9223372036854775807) (hs':∀ x∈b,x.size≤9223372036854775807) (d:Nat):∀ i:Nat,i+d=a.length→i≤b.length →
  Ev (fun k=>spec_l3LessPre.l0 k a b (i:Int)) (lessWs (a.drop i) (b.drop i)):=by
 induction d with
 | zero=>
  intro i hi hb
  have h1:¬(i:Int)<(a.length:Int):=by omega
  refine Ev.succ ?_
  simp only[spec_l3LessPre.l0,h1,if_false,List.drop_eq_nil_of_le (show a.length≤i by omega)]
  refine Ev.succ ?_
  simp only[spec_l3LessPre.j3,Bool.false_eq_true,if_false]
  refine Ev.cast Ev.some ?_
  by_cases h:a.length<b.length
  ·rw[drop_get (show i<b.length by omega)]
   simp[lessWs,h]
  ·rw[List.drop_eq_nil_of_le (show b.length≤i by omega)]
   simp[lessWs,h]
 | succ d ih=>
  intro i hi hb
  have hlt:i<a.length:=by omega
  have h1:(i:Int)<(a.length:Int):=by omega
  have h2:(0:Int)≤(i:Int):=by omega
  have h3:=next_i hlt hl
  refine Ev.succ ?_
  simp only[spec_l3LessPre.l0,h1,if_true]
  refine Ev.succ ?_
  rw[drop_get hlt]
  by_cases h:i<b.length
  ·rw[drop_get h]
   have h1':(i:Int)<(b.length:Int):=by omega
   simp only[spec_l3LessPre.j3,h1,h1',h2,h3,decide_true,if_true,rdOf_cast _ hlt,rdOf_cast _ h,toList_inj,lessWs]
   by_cases hc:a[i]=b[i]
   ·simp only[hc,if_true]
    exact ih (i+1) (by omega) (by omega)
   ·simp only[hc,if_false]
    exact Ev.bind (spec_lessPart _ _ (hs _ (List.getElem_mem hlt)) (hs' _ (List.getElem_mem h))) Ev.some
  ·rw[List.drop_eq_nil_of_le (show b.length≤i by omega)]
   have h1':¬(i:Int)<(b.length:Int):=by omega
   simp only[spec_l3LessPre.j3,h1',decide_false,Bool.false_eq_true,if_false,lessWs]
   refine Ev.cast Ev.some ?_
   simp
   omega
def lessP (a b:List ByteArray):Bool:=
 if (a.length=0∨b.length=0) then decide (a.length>0∧b.length=0) else lessWs a b
theorem spec_lessPre (a b:List ByteArray) (hl:a.length≤9223372036854775807) (hs:∀ x∈a,x.size≤9223372036854775807) (hs':∀ x∈b,x.size≤9223372036854775807) :
  Ev (fun k=>spec_l3LessPre.f k a b) (lessP a b):=by
 unfold spec_l3LessPre.f lessP
 by_cases h:a.length=0
 ·simp only[show (a.length:Int)=0 by omega,if_true,h,true_or]
  refine Ev.succ ?_
  simp only[spec_l3LessPre.j0,if_true,h]
  refine Ev.cast Ev.some ?_
  simp
 ·simp only[show ¬(a.length:Int)=0 by omega,if_false,h,false_or]
  refine Ev.succ ?_
  by_cases hb:b.length=0
  ·simp only[hb,if_true]
   simp only[spec_l3LessPre.j0,Int.ofNat_zero,beq_self_eq_true,if_true,show (a.length:Int)>0 by omega,hb]
   refine Ev.cast Ev.some ?_
   simp
   omega
  ·simp only[hb,if_false,show ((b.length:Int) == 0)=false by simpa using hb]
   simp only[spec_l3LessPre.j0,Bool.false_eq_true,if_false]
   refine Ev.succ ?_
   simp only[spec_l3LessPre.j1]
   exact spec_lessPre_l a b hl hs hs' a.length 0 (by omega) (by omega)
def lessV (a b c:Int) (l:List ByteArray) (a' b' c':Int) (l':List ByteArray):Bool:=
 if a=a' then if b=b' then if c=c' then lessP l l' else decide (c<c') else decide (b<b') else decide (a<a')
theorem spec_less (a b c:Int) (l:List ByteArray) (a' b' c':Int) (l':List ByteArray) (hl:l.length≤9223372036854775807) (hs:∀ x∈l,x.size≤9223372036854775807) (hs':∀ x∈l',x.size≤9223372036854775807) :
  Ev (fun k=>spec_LessVer.f k a b c l a' b' c' l') (lessV a b c l a' b' c' l'):=by
 unfold spec_LessVer.f lessV
 by_cases h1:a=a'
 ·by_cases h2:b=b'
  ·by_cases h3:c=c'
   ·simp only[h1,h2,h3,if_true]
    exact Ev.bind (spec_lessPre _ _ hl hs hs') Ev.some
   ·simp only[h1,h2,h3,if_true,if_false]
    exact Ev.some
  ·simp only[h1,h2,if_true,if_false]
   exact Ev.some
 ·simp only[h1,if_false]
  exact Ev.some
/-! Both are one. -/
theorem cmpW_zero (a b:ByteArray):cmpW a b=0↔a=b:=by
 unfold cmpW
 constructor
 ·intro h
  cases ha:digitsB a <;> cases hb:digitsB b <;> simp only[ha,hb,if_true,Bool.false_eq_true,if_false] at h
  ·exact(cmpS_zero a b).1 h
  ·omega
  ·omega
  ·simp only[orI] at h
   by_cases hc:cmpI (a.size:Int) (b.size:Int)=0
   ·by_cases hs:cmpS a b=0
    ·exact(cmpS_zero a b).1 hs
    ·simp[hc,hs] at h
   ·simp[hc] at h
 ·rintro rfl
  have h0:cmpS a a=0:=(cmpS_zero a a).2 rfl
  cases ha:digitsB a <;> simp[h0,orI,cmpI]
theorem cmpW_neg (a b:ByteArray):decide (cmpW a b<0)=lessW a b:=by
 unfold cmpW lessW
 cases ha:digitsB a <;> cases hb:digitsB b <;> simp only[if_true,Bool.false_eq_true,if_false,and_self,and_false,false_and]
 ·simpa using cmpS_neg a b
 ·simp
 ·simp
 ·simp only[orI]
  by_cases hs:a.size=b.size
  ·simp only[hs,if_true]
   have:cmpI (b.size:Int) (b.size:Int)=0:=by simp[cmpI]
   simp only[this,if_true]
   by_cases h0:cmpS a b=0
   ·simp only[h0,if_true]
    rw[(cmpS_zero a b).1 h0,ltB_self]
    rfl
   ·simp only[h0,if_false]
    exact cmpS_neg a b
  ·simp only[hs,if_false]
   unfold cmpI
   by_cases hlt:a.size<b.size
   ·simp[hlt]
   ·have:(b.size:Int)<(a.size:Int):=by omega
    have h2:¬(a.size:Int)<(b.size:Int):=by omega
    simp[hlt,this]
theorem cmpWs_neg:∀ (a b:List ByteArray),decide (cmpWs a b<0)=lessWs a b
 | [],[]=>by simp[cmpWs,lessWs]
 | [],_ :: _=>by simp[cmpWs,lessWs]
 | _ :: _,[]=>by simp[cmpWs,lessWs]
 | x :: a,y :: b=>by
  simp only[cmpWs,lessWs]
  by_cases h:x=y
  ·subst h
   simp only[(cmpW_zero x x).2 rfl,if_true]
   exact cmpWs_neg a b
  ·simp only[show ¬cmpW x y=0 from fun e=>h ((cmpW_zero x y).1 e),h,if_false]
   exact cmpW_neg x y
theorem cmpP_neg (a b:List ByteArray):decide (cmpP a b<0)=lessP a b:=by
 unfold cmpP lessP
 cases a with
 | nil=>
  cases b with
  | nil=>simp[cmpWs]
  | cons y b=>simp;omega
 | cons x a=>
  cases b with
  | nil=>simp;omega
  | cons y b=>
   have e1:(((x :: a).length:Int) == 0)=false:=by rw[beq_eq_false_iff_ne,List.length_cons];omega
   have e2:(((y :: b).length:Int) == 0)=false:=by rw[beq_eq_false_iff_ne,List.length_cons];omega
   rw[e1,e2]
   simpa using cmpWs_neg (x :: a) (y :: b)
theorem cmpI_zero (a b:Int):cmpI a b=0↔a=b:=by unfold cmpI;split <;> (try split) <;> omega
theorem cmpI_neg (a b:Int):cmpI a b<0↔a<b:=by unfold cmpI;split <;> (try split) <;> omega
theorem cmpV_neg (a b c:Int) (l:List ByteArray) (a' b' c':Int) (l':List ByteArray):decide (cmpV a b c l a' b' c' l'<0)=lessV a b c l a' b' c' l':=by
 unfold cmpV lessV
 simp only[orI]
 by_cases h1:a=a'
 ·subst h1
  have ea:=(cmpI_zero a a).2 rfl
  by_cases h2:b=b'
  ·subst h2
   have eb:=(cmpI_zero b b).2 rfl
   by_cases h3:c=c'
   ·subst h3
    have ec:=(cmpI_zero c c).2 rfl
    simp only[ea,eb,ec,if_true]
    exact cmpP_neg l l'
   ·simp only[ea,eb,show ¬cmpI c c'=0 from fun e=>h3 ((cmpI_zero c c').1 e),if_true,if_false,h3,cmpI_neg]
  ·simp only[ea,show ¬cmpI b b'=0 from fun e=>h2 ((cmpI_zero b b').1 e),if_true,if_false,h2,cmpI_neg]
 ·simp only[show ¬cmpI a a'=0 from fun e=>h1 ((cmpI_zero a a').1 e),if_false,h1,cmpI_neg]
theorem sameTexts_l (a b:List ByteArray) (hl:a.length≤9223372036854775807) (hab:a.length=b.length) (d:Nat):∀ i:Nat,i+d=a.length →
  Ev (fun k=>spec_l2SameTexts.l0 k a b (i:Int)) (decide (a.drop i=b.drop i)):=by
 induction d with
 | zero=>
  intro i hi
  have h1:¬(i:Int)<(a.length:Int):=by omega
  refine Ev.succ ?_
  rw[List.drop_eq_nil_of_le (by omega),List.drop_eq_nil_of_le (by omega)]
  simp only[spec_l2SameTexts.l0,h1,if_false,decide_true]
  exact Ev.some
 | succ d ih=>
  intro i hi
  have hlt:i<a.length:=by omega
  have hlb:i<b.length:=by omega
  have h1:(i:Int)<(a.length:Int):=by omega
  have h1b:(i:Int)<(b.length:Int):=by omega
  have h2:(0:Int)≤(i:Int):=by omega
  have h3:=next_i hlt hl
  refine Ev.succ ?_
  rw[drop_get hlt,drop_get hlb]
  simp only[spec_l2SameTexts.l0,h1,h1b,h2,h3,if_true,rdOf_cast _ hlt,rdOf_cast _ hlb,toList_inj]
  by_cases h:a[i]=b[i]
  ·simp only[h,if_true,List.cons.injEq,true_and]
   exact ih (i+1) (by omega)
  ·simp only[h,if_false,List.cons.injEq,false_and,decide_false]
   exact Ev.some
theorem sameTexts (a b:List ByteArray) (hl:a.length≤9223372036854775807):Ev (fun k=>spec_l2SameTexts.f k a b) (decide (a=b)):=by
 unfold spec_l2SameTexts.f
 by_cases h:(a.length:Int)=(b.length:Int)
 ·simp only[h,if_true]
  refine Ev.succ ?_
  simp only[spec_l2SameTexts.j0]
  exact sameTexts_l a b hl (by omega) a.length 0 (by omega)
 ·simp only[h,if_false]
  have:¬a=b:=fun e=>h (by rw[e])
  simp only[this,decide_false]
  exact Ev.some
def sameV (a b c:Int) (l:List ByteArray) (a' b' c':Int) (l':List ByteArray):Bool:=decide (a=a') && (decide (b=b') && (decide (c=c') && decide (l=l')))
theorem spec_same (a b c:Int) (l:List ByteArray) (a' b' c':Int) (l':List ByteArray) (hl:l.length≤9223372036854775807) :
  Ev (fun k=>spec_SameVer.f k a b c l a' b' c' l') (sameV a b c l a' b' c' l'):=by
 unfold spec_SameVer.f spec_l3SameCore.f sameV
 have hs:=sameTexts l l' hl
 rw[show (c == c')=decide (c=c') from rfl]
 by_cases h1:a=a' <;> by_cases h2:b=b' <;> by_cases h3:c=c' <;> simp only[h1,h2,h3,if_true,if_false,Option.bind_some,decide_true,decide_false,Bool.true_and,Bool.false_and,Bool.false_eq_true]
 all_goals first|exact Ev.some|exact Ev.bind hs Ev.some
theorem cmpI_anti (a b:Int):cmpI b a = -cmpI a b:=by unfold cmpI;split <;> split <;> (try split) <;> (try split) <;> omega
theorem cmpS_anti (a b:ByteArray):cmpS b a = -cmpS a b:=by
 by_cases e:a=b
 ·subst e;rw[(cmpS_zero a a).2 rfl];rfl
 ·unfold cmpS
  rw[ltB_turned a b]
  cases ltB a b <;> simp[e]
theorem orI2_anti (x y:Int):orI [-x,-y] = -orI [x,y]:=by
 simp only[orI];split <;> split <;> (try split) <;> (try split) <;> omega
theorem cmpW_anti (a b:ByteArray):cmpW b a = -cmpW a b:=by
 unfold cmpW
 rw[cmpI_anti (a.size:Int) (b.size:Int),cmpS_anti a b,orI2_anti]
 cases digitsB a <;> cases digitsB b <;> simp
theorem cmpWs_anti:∀ (a b:List ByteArray),cmpWs b a = -cmpWs a b
 | [],[]=>by simp[cmpWs]
 | [],_ :: _=>by simp[cmpWs]
 | _ :: _,[]=>by simp[cmpWs]
 | x :: a,y :: b=>by
  simp only[cmpWs,cmpW_anti x y,cmpWs_anti a b]
  by_cases h:cmpW x y=0
  ·simp[h]
  ·simp[h]
theorem cmpP_anti (a b:List ByteArray):cmpP b a = -cmpP a b:=by
 unfold cmpP
 rw[cmpWs_anti a b]
 cases a with
 | nil=>
  cases b with
  | nil=>simp
  | cons y b=>
   have e2:(((y :: b).length:Int) == 0)=false:=by rw[beq_eq_false_iff_ne,List.length_cons];omega
   have e3:((y :: b).length:Int)>0:=by rw[List.length_cons];omega
   rw[e2]
   simp[e3]
 | cons x a=>
  have e1:(((x :: a).length:Int) == 0)=false:=by rw[beq_eq_false_iff_ne,List.length_cons];omega
  have e4:((x :: a).length:Int)>0:=by rw[List.length_cons];omega
  rw[e1]
  cases b with
  | nil=>simp
  | cons y b=>
   have e2:(((y :: b).length:Int) == 0)=false:=by rw[beq_eq_false_iff_ne,List.length_cons];omega
   rw[e2]
   simp
theorem cmpV_anti (a b c:Int) (l:List ByteArray) (a' b' c':Int) (l':List ByteArray):cmpV a' b' c' l' a b c l = -cmpV a b c l a' b' c' l':=by
 unfold cmpV
 rw[cmpI_anti a a',cmpI_anti b b',cmpI_anti c c',cmpP_anti l l']
 simp only[orI]
 by_cases h1:cmpI a a'=0 <;> by_cases h2:cmpI b b'=0 <;> by_cases h3:cmpI c c'=0 <;> simp[h1,h2,h3]
theorem cmpWs_zero:∀ (a b:List ByteArray),cmpWs a b=0↔a=b
 | [],[]=>by simp[cmpWs]
 | [],_ :: _=>by simp[cmpWs]
 | _ :: _,[]=>by simp[cmpWs]
 | x :: a,y :: b=>by
  simp only[cmpWs,List.cons.injEq]
  by_cases h:cmpW x y=0
  ·have e:=(cmpW_zero x y).1 h
   subst e
   simp only[h,if_true,cmpWs_zero a b,true_and]
  ·have:¬x=y:=fun e=>h ((cmpW_zero x y).2 e)
   simp only[h,if_false,this,false_and]
theorem cmpP_zero (a b:List ByteArray):cmpP a b=0↔a=b:=by
 unfold cmpP
 by_cases h:(((a.length:Int) == 0) != ((b.length:Int) == 0))=true
 ·simp only[h,if_true]
  constructor
  ·intro h';split at h' <;> omega
  ·rintro rfl;simp at h
 ·simp only[h,if_false,Bool.false_eq_true]
  exact cmpWs_zero a b
theorem cmpV_zero (a b c:Int) (l:List ByteArray) (a' b' c':Int) (l':List ByteArray):cmpV a b c l a' b' c' l'=0↔(a=a'∧b=b'∧c=c'∧l=l'):=by
 unfold cmpV
 rw[← cmpP_zero l l',← cmpI_zero a a',← cmpI_zero b b',← cmpI_zero c c']
 simp only[orI]
 by_cases h1:cmpI a a'=0 <;> by_cases h2:cmpI b b'=0 <;> by_cases h3:cmpI c c'=0 <;> simp[h1,h2,h3]
def cmpOkB (o a b c:Int) (l:List ByteArray) (a' b' c':Int) (l':List ByteArray):Bool:=
 if o=0 then decide (a=a'∧b=b'∧c=c'∧l=l') else if o=1 then lessV a' b' c' l' a b c l else if o=2 then !lessV a b c l a' b' c' l'
 else if o=3 then lessV a b c l a' b' c' l' else if o=4 then !lessV a' b' c' l' a b c l else false
theorem spec_cmpOk (o a b c:Int) (l:List ByteArray) (a' b' c':Int) (l':List ByteArray) (hl:l.length≤9223372036854775807) (hl':l'.length≤9223372036854775807) (hs:∀ x∈l,x.size≤9223372036854775807) (hs':∀ x∈l',x.size≤9223372036854775807) :
  Ev (fun k=>spec_CmpOk.f k o a b c l a' b' c' l') (cmpOkB o a b c l a' b' c' l'):=by
 unfold spec_CmpOk.f cmpOkB
 by_cases h0:o=0
 ·simp only[h0,if_true]
  refine Ev.bind (spec_same _ _ _ _ _ _ _ _ (by omega)) (Ev.cast Ev.some ?_)
  unfold sameV
  simp only[Bool.decide_and]
 simp only[h0,if_false]
 by_cases h1:o=1
 ·simp only[h1,if_true]
  exact Ev.bind (spec_less _ _ _ _ _ _ _ _ hl' hs' hs) Ev.some
 simp only[h1,if_false]
 by_cases h2:o=2
 ·simp only[h2,if_true]
  exact Ev.bind (spec_less _ _ _ _ _ _ _ _ hl hs hs') Ev.some
 simp only[h2,if_false]
 by_cases h3:o=3
 ·simp only[h3,if_true]
  exact Ev.bind (spec_less _ _ _ _ _ _ _ _ hl hs hs') Ev.some
 simp only[h3,if_false]
 by_cases h4:o=4
 ·simp only[h4,if_true]
  exact Ev.bind (spec_less _ _ _ _ _ _ _ _ hl' hs' hs) Ev.some
 simp only[h4,if_false]
 exact Ev.some
theorem impl_cmpOk (o a b c:Int) (l:List ByteArray) (a' b' c':Int) (l':List ByteArray) (hl:l.length≤9223372036854775807) (hl':l'.length≤9223372036854775807) (hs:∀ x∈l,x.size≤9223372036854775807) (hs':∀ x∈l',x.size≤9223372036854775807) :
  Ev (fun k=>impl_CmpOk.f k o a b c l a' b' c' l') (cmpOkB o a b c l a' b' c' l'):=by
 unfold impl_CmpOk.f cmpOkB
 refine Ev.bind (compareVer _ _ _ _ _ _ _ _ hl' hs' hs) ?_
 have e1:=cmpV_neg a' b' c' l' a b c l
 have e2:=cmpV_neg a b c l a' b' c' l'
 have e3:=cmpV_anti a' b' c' l' a b c l
 have e4:=cmpV_zero a' b' c' l' a b c l
 rw[← e1,← e2,e3]
 by_cases h0:o=0
 ·simp only[h0,if_true]
  refine Ev.cast Ev.some ?_
  rw[Bool.eq_iff_iff,beq_iff_eq,decide_eq_true_iff,e4]
  constructor <;> (rintro⟨p1,p2,p3,p4⟩;exact⟨p1.symm,p2.symm,p3.symm,p4.symm⟩)
 simp only[h0,if_false]
 by_cases h1:o=1
 ·simp only[h1,if_true]
  exact Ev.some
 simp only[h1,if_false]
 by_cases h2:o=2
 ·simp only[h2,if_true]
  refine Ev.cast Ev.some ?_
  rw[← decide_not,decide_eq_decide]
  omega
 simp only[h2,if_false]
 by_cases h3:o=3
 ·simp only[h3,if_true]
  refine Ev.cast Ev.some ?_
  rw[decide_eq_decide]
  omega
 simp only[h3,if_false]
 by_cases h4:o=4
 ·simp only[h4,if_true]
  refine Ev.cast Ev.some ?_
  rw[← decide_not,decide_eq_decide]
  omega
 simp only[h4,if_false]
 exact Ev.some
def stS (x:S34):Prop:=x.f1.f3.length≤9223372036854775807∧∀ s∈x.f1.f3,s.size≤9223372036854775807
section
variable (a b c : Int) (l : List ByteArray)
def okC (x:S34):Bool:=cmpOkB x.f0 x.f1.f0 x.f1.f1 x.f1.f2 x.f1.f3 a b c l
def preC2 (x:S34):Bool:=decide (x.f1.f3.length>0) && (decide (x.f1.f0=a) && (decide (x.f1.f1=b) && decide (x.f1.f2=c)))
def takesB (y:List S34):Bool:=y.all (okC a b c l) && (decide (l.length=0) || y.any (preC2 a b c))
theorem takes_l (y:List S34) (hl:l.length≤9223372036854775807) (hs:∀ s∈l,s.size≤9223372036854775807) (hy:y.length≤9223372036854775807) (hy':∀ x∈y,stS x) (d:Nat):∀ (i:Nat) (t:Bool),i+d=y.length →
  Ev (fun k=>impl_takes.l0 k t y (y.length:Int) (i:Int) a b c l) ((y.drop i).all (okC a b c l) && (t || (y.drop i).any (preC2 a b c))):=by
 induction d with
 | zero=>
  intro i t hi
  have h1:¬(i:Int)<(y.length:Int):=by omega
  refine Ev.succ ?_
  rw[List.drop_eq_nil_of_le (by omega)]
  simp only[impl_takes.l0,h1,if_false,List.all_nil,List.any_nil,Bool.true_and,Bool.or_false]
  exact Ev.some
 | succ d ih=>
  intro i t hi
  have hlt:i<y.length:=by omega
  have h1:(i:Int)<(y.length:Int):=by omega
  have h2:(0:Int)≤(i:Int):=by omega
  have h3:=next_i hlt hy
  have hg:rd_T34 y (i:Int)=y[i]:=rdD_cast _ hlt
  have hst:=hy' _ (List.getElem_mem hlt)
  refine Ev.succ ?_
  rw[drop_get hlt]
  simp only[impl_takes.l0,h1,h2,h3,if_true,hg,List.all_cons,List.any_cons]
  refine Ev.bind (impl_cmpOk _ _ _ _ _ _ _ _ _ hst.1 hl hst.2 hs) ?_
  rw[show cmpOkB y[i].f0 y[i].f1.f0 y[i].f1.f1 y[i].f1.f2 y[i].f1.f3 a b c l=okC a b c l y[i] from rfl]
  cases okC a b c l y[i] with
  | false=>
   simp only[Bool.false_eq_true,if_false,Bool.false_and]
   exact Ev.some
  | true=>
   simp only[if_true,Bool.true_and]
   cases t with
   | true=>
    simp only[if_true,Bool.true_or]
    simpa using ih (i+1) true (by omega)
   | false=>
    simp only[Bool.false_eq_true,if_false,Bool.false_or,preC2]
    have ihf:=ih (i+1) false (by omega)
    have iht:=ih (i+1) true (by omega)
    simp only[Bool.false_or,Bool.true_or,preC2] at ihf iht
    by_cases hp:(y[i].f1.f3.length:Int)>0
    ·have hp':y[i].f1.f3.length>0:=by omega
     simp only[hp,hp',if_true,decide_true,Bool.true_and]
     by_cases ha:y[i].f1.f0=a
     ·by_cases hb:y[i].f1.f1=b
      ·simp only[ha,hb,if_true,decide_true,Bool.true_and]
       by_cases hc:y[i].f1.f2=c
       ·simpa [hc] using iht
       ·have e:(y[i].f1.f2 == c)=false:=by simpa using hc
        simp only[e,hc,decide_false,Bool.false_or]
        exact ihf
      ·simpa [ha,hb] using ihf
     ·simpa [ha] using ihf
    ·have hp':¬y[i].f1.f3.length>0:=by omega
     simpa [hp,hp'] using ihf
theorem impl_takes (y:List S34) (hl:l.length≤9223372036854775807) (hs:∀ s∈l,s.size≤9223372036854775807) (hy:y.length≤9223372036854775807) (hy':∀ x∈y,stS x) :
  Ev (fun k=>impl_takes.f k y a b c l) (takesB a b c l y):=by
 unfold impl_takes.f
 refine Ev.cast (takes_l a b c l y hl hs hy hy' y.length 0 _ (by omega)) ?_
 unfold takesB
 rw[List.drop_zero]
 congr 2
 by_cases h:l.length=0
 ·simp[h]
 ·simp only[h,decide_false]
  rw[beq_eq_false_iff_ne]
  omega
def rangeB (r:List (List S34)):Bool:=verB a b c l && r.any (takesB a b c l)
theorem inRange_l (r:List (List S34)) (hl:l.length≤9223372036854775807) (hs:∀ s∈l,s.size≤9223372036854775807) (hr:r.length≤9223372036854775807) (hr':∀ y∈r,y.length≤9223372036854775807∧∀ x∈y,stS x) (d:Nat):∀ i:Nat,i+d=r.length →
  Ev (fun k=>impl_InRange.l0 k r (r.length:Int) (i:Int) a b c l) ((r.drop i).any (takesB a b c l)):=by
 induction d with
 | zero=>
  intro i hi
  have h1:¬(i:Int)<(r.length:Int):=by omega
  refine Ev.succ ?_
  rw[List.drop_eq_nil_of_le (by omega)]
  simp only[impl_InRange.l0,h1,if_false,List.any_nil]
  exact Ev.some
 | succ d ih=>
  intro i hi
  have hlt:i<r.length:=by omega
  have h1:(i:Int)<(r.length:Int):=by omega
  have h2:(0:Int)≤(i:Int):=by omega
  have h3:=next_i hlt hr
  have hg:rd_L6 r (i:Int)=r[i]:=rdD_cast _ hlt
  have hst:=hr' _ (List.getElem_mem hlt)
  refine Ev.succ ?_
  rw[drop_get hlt]
  simp only[impl_InRange.l0,h1,h2,h3,if_true,hg,List.any_cons]
  refine Ev.bind (impl_takes a b c l _ hl hs hst.1 hst.2) ?_
  cases takesB a b c l r[i] with
  | true=>
   simp only[if_true,Bool.true_or]
   exact Ev.some
  | false=>
   simp only[Bool.false_eq_true,if_false,Bool.false_or]
   exact ih (i+1) (by omega)
theorem impl_inRange (r:List (List S34)) (hl:l.length≤9223372036854775807) (hs:∀ s∈l,s.size≤9223372036854775807) (hr:r.length≤9223372036854775807) (hr':∀ y∈r,y.length≤9223372036854775807∧∀ x∈y,stS x) :
  Ev (fun k=>impl_InRange.f k r a b c l) (rangeB a b c l r):=by
 unfold impl_InRange.f rangeB
 refine Ev.bind (impl_ver a b c l hl hs) ?_
 cases verB a b c l with
 | true=>
  simp only[if_true,Bool.true_and]
  refine Ev.succ ?_
  simp only[impl_InRange.j0]
  exact inRange_l a b c l r hl hs hr hr' r.length 0 (by omega)
 | false=>
  simp only[Bool.false_eq_true,if_false,Bool.false_and]
  exact Ev.some
theorem same_core (x0 x1 x2:Int) (x3:List ByteArray):spec_l3SameCore.f x0 x1 x2 x3 a b c l=some (decide (x0=a) && (decide (x1=b) && decide (x2=c))):=by
 unfold spec_l3SameCore.f
 by_cases h1:x0=a
 ·by_cases h2:x1=b
  ·simp only[h1,h2,if_true,decide_true,Bool.true_and]
   rfl
  ·simp[h1,h2]
 ·simp[h1]
theorem spec_list (r:List (List S34)) (hl:l.length≤9223372036854775807) (hs:∀ s∈l,s.size≤9223372036854775807) (j:Nat) (hj:j<r.length) (hr:r.length≤9223372036854775807) (hy:r[j].length≤9223372036854775807) (hy':∀ x∈r[j],stS x)
  (rest:Bool) (hrest:Ev (fun k=>spec_InRange.l0 k r ((j+1:Nat):Int) a b c l) rest) (d:Nat):∀ (i:Nat) (all pre:Bool),i+d=r[j].length →
  Ev (fun k=>spec_InRange.l1 k r (j:Int) all pre (i:Int) a b c l) (((all && (r[j].drop i).all (okC a b c l)) && (pre || (r[j].drop i).any (preC2 a b c))) || rest):=by
 have h2j:(0:Int)≤(j:Int):=by omega
 have h1j:(j:Int)<(r.length:Int):=by omega
 have hgj:rd_L6 r (j:Int)=r[j]:=rdD_cast _ hj
 have h3j:=next_i hj hr
 induction d with
 | zero=>
  intro i all pre hi
  have h1:¬(i:Int)<(r[j].length:Int):=by omega
  refine Ev.succ ?_
  rw[List.drop_eq_nil_of_le (by omega)]
  simp only[spec_InRange.l1,h1,h1j,h2j,h3j,hgj,if_true,if_false,List.all_nil,List.any_nil,Bool.and_true,Bool.or_false]
  cases all with
  | false=>
   simp only[Bool.false_eq_true,if_false,Bool.false_and,Bool.false_or]
   exact hrest
  | true=>
   cases pre with
   | false=>
    simp only[Bool.false_eq_true,if_true,if_false,Bool.and_false,Bool.false_or]
    exact hrest
   | true=>
    simp only[if_true,Bool.and_true,Bool.true_or]
    exact Ev.some
 | succ d ih=>
  intro i all pre hi
  have hlt:i<r[j].length:=by omega
  have h1:(i:Int)<(r[j].length:Int):=by omega
  have h2:(0:Int)≤(i:Int):=by omega
  have h3:=next_i hlt hy
  have hg:rd_T34 r[j] (i:Int)=r[j][i]:=rdD_cast _ hlt
  have hst:=hy' _ (List.getElem_mem hlt)
  refine Ev.succ ?_
  rw[drop_get hlt]
  simp only[spec_InRange.l1,h1,h2,h3,h1j,h2j,hgj,hg,if_true,List.all_cons,List.any_cons,same_core,Option.bind_some]
  have hp:((r[j][i].f1.f3.length:Int)>0)=(r[j][i].f1.f3.length>0):=by simp
  have hpre:preC2 a b c r[j][i]=(decide (r[j][i].f1.f3.length>0) && (decide (r[j][i].f1.f0=a) && (decide (r[j][i].f1.f1=b) && decide (r[j][i].f1.f2=c)))):=rfl
  cases all with
  | true=>
   simp only[if_true,Bool.true_and]
   refine Ev.bind (spec_cmpOk _ _ _ _ _ _ _ _ _ hst.1 hl hst.2 hs) ?_
   rw[show cmpOkB r[j][i].f0 r[j][i].f1.f0 r[j][i].f1.f1 r[j][i].f1.f2 r[j][i].f1.f3 a b c l=okC a b c l r[j][i] from rfl]
   cases pre with
   | true=>
    simp only[if_true,Bool.true_or]
    refine Ev.cast (ih (i+1) _ true (by omega)) ?_
    simp
   | false=>
    simp only[Bool.false_eq_true,if_false,Bool.false_or,hpre]
    by_cases h0:r[j][i].f1.f3.length>0
    ·simp only[hp,h0,if_true,decide_true,Bool.true_and]
     exact ih (i+1) _ _ (by omega)
    ·simp only[hp,h0,if_false,decide_false,Bool.false_and]
     exact ih (i+1) _ _ (by omega)
  | false=>
   simp only[Bool.false_eq_true,if_false,Bool.false_and,Bool.false_or]
   have ih':∀ pre:Bool,Ev (fun k=>spec_InRange.l1 k r (j:Int) false pre ((i+1:Nat):Int) a b c l) rest:=fun pre=>by simpa using ih (i+1) false pre (by omega)
   cases pre with
   | true=>
    simp only[if_true]
    exact ih' true
   | false=>
    simp only[Bool.false_eq_true,if_false]
    by_cases h0:r[j][i].f1.f3.length>0
    ·simp only[hp,h0,if_true]
     exact ih' _
    ·simp only[hp,h0,if_false]
     exact ih' _
theorem spec_inRange_l (r:List (List S34)) (hl:l.length≤9223372036854775807) (hs:∀ s∈l,s.size≤9223372036854775807) (hr:r.length≤9223372036854775807) (hr':∀ y∈r,y.length≤9223372036854775807∧∀ x∈y,stS x) (d:Nat):∀ i:Nat,i+d=r.length →
  Ev (fun k=>spec_InRange.l0 k r (i:Int) a b c l) (verB a b c l && (r.drop i).any (takesB a b c l)):=by
 induction d with
 | zero=>
  intro i hi
  have h1:¬(i:Int)<(r.length:Int):=by omega
  refine Ev.succ ?_
  rw[List.drop_eq_nil_of_le (by omega)]
  simp only[spec_InRange.l0,h1,if_false,List.any_nil,Bool.and_false]
  exact Ev.some
 | succ d ih=>
  intro i hi
  have hlt:i<r.length:=by omega
  have h1:(i:Int)<(r.length:Int):=by omega
  have hst:=hr' _ (List.getElem_mem hlt)
  refine Ev.succ ?_
  rw[drop_get hlt]
  simp only[spec_InRange.l0,h1,if_true]
  refine Ev.succ ?_
  simp only[spec_InRange.j1]
  refine Ev.bind (spec_ver a b c l hl hs) ?_
  refine Ev.cast (spec_list a b c l r hl hs i hlt hr hst.1 hst.2 _ (ih (i+1) (by omega)) r[i].length 0 _ _ (by omega)) ?_
  simp only[List.any_cons,takesB,List.drop_zero]
  rw[show ((l.length:Int) == 0)=decide (l.length=0) by
   by_cases h:l.length=0
   ·simp[h]
   ·simp only[h,decide_false];rw[beq_eq_false_iff_ne];omega]
  cases verB a b c l <;> simp
theorem spec_inRange (r:List (List S34)) (hl:l.length≤9223372036854775807) (hs:∀ s∈l,s.size≤9223372036854775807) (hr:r.length≤9223372036854775807) (hr':∀ y∈r,y.length≤9223372036854775807∧∀ x∈y,stS x) :
  Ev (fun k=>spec_InRange.f k r a b c l) (rangeB a b c l r):=spec_inRange_l a b c l r hl hs hr hr' r.length 0 (by omega)
end
theorem star_iff (w:ByteArray):w.toList=([42]:List UInt8)↔w.data.toList=[42]:=by rw[toList_data]
theorem signs_ok:∀ g∈impl_cmpsOf.signs,signsOk g.toList:=by
 intro g hg
 rw[toList_data]
 simp only[impl_cmpsOf.signs,List.mem_cons,List.not_mem_nil,or_false] at hg
 unfold signsOk
 rcases hg with rfl|rfl|rfl|rfl|rfl|rfl|rfl|rfl <;> simp
theorem signs_data:impl_cmpsOf.signs.map (fun g=>g.data.toList)=signsL:=rfl
theorem impl_word_go (w:ByteArray) (hw:w.size≤16777216):∀ gs:List ByteArray,(∀ g∈gs,signsOk g.toList)→Ev (fun k=>impl_cmpsOf.go k w gs) (wordGo w.data.toList (gs.map fun g=>g.data.toList))
 | [],_=>Ev.some
 | g :: r,h=>by
  have ih:=impl_word_go w hw r (fun x hx=>h x (by simp[hx]))
  have hcp:strings_CutPrefix.f w g=some (⟨(Lib.trimPrefix w.data.toList g.data.toList).toArray⟩,Lib.hasPrefix w.data.toList g.data.toList):=rfl
  show Ev (fun k=>(strings_CutPrefix.f w g).bind _) (wordGo w.data.toList (g.data.toList :: r.map fun g=>g.data.toList))
  rw[hcp]
  simp only[Option.bind_some]
  unfold wordGo Lib.trimPrefix Lib.hasPrefix
  by_cases hp:g.data.toList.isPrefixOf w.data.toList=true
  ·rw[if_pos hp]
   have hs:(ofL (w.data.toList.drop g.data.toList.length)).size≤16777216:=by
    rw[ofL_size,List.length_drop]
    have:w.data.toList.length=w.size:=by simp
    omega
   simp only[hp,if_true]
   refine Ev.bind (impl_part (ofL (w.data.toList.drop g.data.toList.length)) hs) ?_
   by_cases ho:(partB (ofL (w.data.toList.drop g.data.toList.length))).2.2.2.2.2=true
   ·simp only[ho,if_true]
    have hm:=impl_make g (h g (by simp)) _ (partB_ok ho)
    rw[toList_data] at hm
    exact Ev.bind hm Ev.some
   ·simp only[ho,if_false,Bool.false_eq_true]
    exact Ev.some
  ·rw[if_neg hp]
   simp only[hp,if_false,Bool.false_eq_true]
   exact ih
theorem impl_word (w:ByteArray) (hw:w.size≤16777216):Ev (fun k=>impl_cmpsOf.f k w) (wordC w):=by
 unfold impl_cmpsOf.f wordC
 by_cases h:w.data.toList=[42]
 ·simp only[(star_iff w).2 h,h,if_true]
  exact Ev.some
 ·have h':¬w.toList=([42]:List UInt8):=fun e=>h ((star_iff w).1 e)
  simp only[h',h,if_false]
  have:=impl_word_go w hw impl_cmpsOf.signs signs_ok
  rw[signs_data] at this
  exact this
theorem prefix_extract (w g:ByteArray) (h:g.size≤w.size):((w.extract 0 g.size).toList == g.toList)=g.data.toList.isPrefixOf w.data.toList:=by
 rw[Bool.eq_iff_iff,beq_iff_eq,List.isPrefixOf_iff_prefix,toList_data,toList_data,extract_ofL,data_ofL,List.drop_zero,Nat.sub_zero,List.prefix_iff_eq_take]
 have:g.data.toList.length=g.size:=by simp
 rw[this]
 exact⟨fun e=>e.symm,fun e=>e.symm⟩
theorem no_prefix (w g:ByteArray) (h:¬g.size≤w.size):g.data.toList.isPrefixOf w.data.toList=false:=by
 rw[Bool.eq_false_iff]
 intro e
 have:=(List.isPrefixOf_iff_prefix.1 e).length_le
 have h1:g.data.toList.length=g.size:=by simp
 have h2:w.data.toList.length=w.size:=by simp
 omega
theorem spec_word_go (w:ByteArray) (hw:w.size≤16777216) (gs:List ByteArray) (hgs:∀ g∈gs,signsOk g.toList) (hgl:gs.length≤100) (d:Nat):∀ i:Nat,i+d=gs.length →
  Ev (fun k=>spec_l4Word.l0 k w gs (i:Int)) (wordGo w.data.toList ((gs.drop i).map fun g=>g.data.toList)):=by
 induction d with
 | zero=>
  intro i hi
  refine Ev.succ ?_
  rw[List.drop_eq_nil_of_le (by omega)]
  simp only[spec_l4Word.l0,show ¬(i:Int)<(gs.length:Int) by omega,if_false]
  exact Ev.some
 | succ d ih=>
  intro i hi
  have hlt:i<gs.length:=by omega
  have h1:(i:Int)<(gs.length:Int):=by omega
  have h2:(0:Int)≤(i:Int):=by omega
  have h3:=next_i hlt (by omega)
  have ih':=ih (i+1) (by omega)
  have hok:=hgs _ (List.getElem_mem hlt)
  refine Ev.succ ?_
  rw[drop_get hlt,List.map_cons]
  unfold wordGo
  simp only[spec_l4Word.l0,h1,if_true]
  refine Ev.succ ?_
  simp only[spec_l4Word.j2,h1,h2,if_true,rdOf_cast _ hlt]
  have h4:(0:Int)≤(gs[i].size:Int):=by omega
  by_cases hz:gs[i].size≤w.size
  ·have h5:(w.size:Int)≥(gs[i].size:Int):=by omega
   have h6:(gs[i].size:Int)≤(w.size:Int):=by omega
   simp only[h4,h5,h6,if_true,Int.toNat_natCast,prefix_extract w gs[i] hz]
   refine Ev.succ ?_
   by_cases hp:gs[i].data.toList.isPrefixOf w.data.toList=true
   ·rw[if_pos hp]
    simp only[spec_l4Word.j3,hp,h4,h6,if_true,Int.toNat_natCast,h1,h2,rdOf_cast _ hlt]
    have he:w.extract gs[i].size w.size=ofL (w.data.toList.drop gs[i].data.toList.length):=by
     have e1:gs[i].data.toList.length=gs[i].size:=by simp
     have e2:w.data.toList.length=w.size:=by simp
     rw[extract_ofL,List.take_of_length_le (by rw[List.length_drop];omega),e1]
    have hs:(ofL (w.data.toList.drop gs[i].data.toList.length)).size≤16777216:=by
     rw[ofL_size,List.length_drop]
     have:w.data.toList.length=w.size:=by simp
     omega
    rw[he]
    obtain⟨p,hp1,hp2,hp3⟩:=spec_read _ hs
    refine Ev.bind hp1 ?_
    by_cases ho:(partB (ofL (w.data.toList.drop gs[i].data.toList.length))).2.2.2.2.2=true
    ·rw[hp3 ho]
     simp only[ho,if_true]
     have hm:=spec_make gs[i] hok _ (partB_ok ho)
     rw[ho,toList_data] at hm
     exact Ev.bind hm Ev.some
    ·rw[hp2]
     simp only[ho,if_false,Bool.false_eq_true]
     exact Ev.some
   ·rw[if_neg hp]
    simp only[spec_l4Word.j3,hp,if_false,Bool.false_eq_true,h3]
    exact ih'
  ·have h5:¬(w.size:Int)≥(gs[i].size:Int):=by omega
   rw[no_prefix w gs[i] hz]
   simp only[h5,if_false,Bool.false_eq_true]
   refine Ev.succ ?_
   simp only[spec_l4Word.j3,if_false,Bool.false_eq_true,h3]
   exact ih'
theorem spec_word (w:ByteArray) (hw:w.size≤16777216):Ev (fun k=>spec_l4Word.f k w) (wordC w):=by
 unfold spec_l4Word.f wordC
 by_cases h:w.data.toList=[42]
 ·simp only[(star_iff w).2 h,h,if_true]
  exact Ev.some
 ·have h':¬w.toList=([42]:List UInt8):=fun e=>h ((star_iff w).1 e)
  simp only[h',h,if_false]
  refine Ev.succ ?_
  simp only[spec_l4Word.j0]
  have:=spec_word_go w hw impl_cmpsOf.signs signs_ok (by decide) 8 0 rfl
  rw[List.drop_zero,signs_data] at this
  exact this
def smallC (x:CmpT):Prop:=x.f1.f3.length≤3∧∀ z∈x.f1.f3,z.size≤16777216
theorem smallC.st {x:CmpT} (h:smallC x):stS x:=⟨by have:=h.1;omega,fun z hz=>by have:=h.2 z hz;omega⟩
theorem small_mk (op a b c:Int) (l:List ByteArray) (h:l.length≤3∧∀ z∈l,z.size≤16777216):smallC (mkC op a b c l):=h
theorem small_low (a b c:Int):smallC (lowC a b c):=⟨by show (1:Nat)≤3;omega,fun z hz=>by
 have:z∈[(⟨#[48]⟩:ByteArray)]:=hz
 rw[List.mem_singleton.1 this]
 decide⟩
theorem small_make (sg:List UInt8) (p:PartR) (h:p.2.2.2.1.length≤3∧∀ z∈p.2.2.2.1,z.size≤16777216):∀ x∈makeC sg p,smallC x:=by
 have h0:∀ op a b c,smallC (mkC op a b c ([]:List ByteArray)):=fun op a b c=>small_mk _ _ _ _ _ ⟨Nat.zero_le _,fun z hz=>by cases hz⟩
 have hf:smallC (fromC p):=small_mk _ _ _ _ _ h
 have hc:smallC (caretC p):=by rw[caret_low];exact small_low _ _ _
 intro x hx
 unfold makeC at hx
 split at hx
 ·simp only[List.mem_cons,List.not_mem_nil,or_false] at hx
  rcases hx with rfl|rfl
  ·exact hf
  ·exact hc
 split at hx
 ·simp only[List.mem_cons,List.not_mem_nil,or_false] at hx
  rcases hx with rfl|rfl
  ·exact hf
  ·exact small_low _ _ _
 split at hx
 ·rw[List.mem_singleton.1 hx];exact hf
 split at hx
 ·rw[List.mem_singleton.1 hx];exact small_mk _ _ _ _ _ h
 split at hx
 ·split at hx
  ·rw[List.mem_singleton.1 hx];exact small_mk _ _ _ _ _ h
  ·rw[List.mem_singleton.1 hx];exact h0 _ _ _ _
 split at hx
 ·split at hx
  ·rw[List.mem_singleton.1 hx];exact small_mk _ _ _ _ _ h
  ·rw[List.mem_singleton.1 hx];exact small_low _ _ _
 split at hx
 ·rw[List.mem_singleton.1 hx];exact small_mk _ _ _ _ _ h
 ·simp only[List.mem_cons,List.not_mem_nil,or_false] at hx
  rcases hx with rfl|rfl
  ·exact hf
  ·exact small_low _ _ _
theorem small_go (w:List UInt8) (hw:w.length≤16777216):∀ l,∀ x∈(wordGo w l).1,smallC x
 | [],x,h=>by simp[wordGo] at h
 | g :: r,x,h=>by
  unfold wordGo at h
  split at h
  ·split at h
   ·have hp:=partB_pre (ofL (w.drop g.length))
    refine small_make _ _ ⟨hp.1,fun z hz=>?_⟩ x h
    have:=hp.2 z hz
    rw[ofL_size,List.length_drop] at this
    omega
   ·simp at h
  ·exact small_go w hw r x h
theorem small_word (w:ByteArray) (hw:w.size≤16777216):∀ x∈(wordC w).1,smallC x:=by
  intro x h
  unfold wordC at h
  split at h
  · rw[List.mem_singleton.1 h]
    exact small_mk _ _ _ _ _ ⟨Nat.zero_le _,fun z hz=>by cases hz⟩
  · exact small_go _ (by have:w.data.toList.length=w.size:=by simp
                         omega) _ x h
theorem small_ver (op:Int) (s:ByteArray) (hs:s.size≤16777216):smallC (verC op (parseV s)):=by
 refine small_mk _ _ _ _ _ ⟨parseV_length s,?_⟩
 show ∀ z∈(parseV s).2.2.2.1,z.size≤16777216
 unfold parseV
 split
 ·unfold readV
  split
  ·exact fun z hz=>by have:=preQ_mem s z hz;omega
  ·exact fun x hx=>by simp[noVer] at hx
 ·exact fun x hx=>by simp[noVer] at hx
def goW (out:List CmpT) (ws:List ByteArray):Option (List CmpT):=(wordsC ws).map (out ++ ·)
theorem goW_cons (out:List CmpT) (w:ByteArray) (r:List ByteArray):goW out (w :: r)=if (wordC w).2=true then goW (out++(wordC w).1) r else none:=by
 unfold goW
 rw[wordsC]
 split
 ·cases wordsC r with
  | none=>rfl
  | some o=>simp
 ·rfl
theorem impl_good (out:List CmpT) (hs:∀ x∈out,smallC x) (hl:out.length≤9223372036854775807) (d:Nat):∀ i:Nat,i+d=out.length →
  Ev (fun k=>impl_listOf.l1 k out out (out.length:Int) (i:Int)) (if (out.drop i).all okV=true then (out,decide ((out.length:Int)≤4)) else ([],false)):=by
 induction d with
 | zero=>
  intro i hi
  refine Ev.succ ?_
  rw[List.drop_eq_nil_of_le (by omega)]
  simp only[impl_listOf.l1,show ¬(i:Int)<(out.length:Int) by omega,if_false,List.all_nil,if_true]
  exact Ev.some
 | succ d ih=>
  intro i hi
  have hlt:i<out.length:=by omega
  have h1:(i:Int)<(out.length:Int):=by omega
  have h2:(0:Int)≤(i:Int):=by omega
  have h3:=next_i hlt hl
  have hg:rd_T34 out (i:Int)=out[i]:=rdD_cast _ hlt
  have hst:=(hs _ (List.getElem_mem hlt)).st
  have ih':=ih (i+1) (by omega)
  refine Ev.succ ?_
  rw[drop_get hlt,List.all_cons]
  simp only[impl_listOf.l1,h1,h2,h3,if_true,hg]
  refine Ev.bind (impl_ver _ _ _ _ hst.1 hst.2) ?_
  rw[show verB out[i].f1.f0 out[i].f1.f1 out[i].f1.f2 out[i].f1.f3=okV out[i] from rfl]
  cases okV out[i] with
  | true=>
   simp only[if_true,Bool.true_and]
   exact ih'
  | false=>
   simp only[Bool.false_eq_true,if_false,Bool.false_and]
   exact Ev.some
theorem spec_good (out:List CmpT) (hs:∀ x∈out,smallC x) (hl:out.length≤9223372036854775807) (d:Nat):∀ i:Nat,i+d=out.length →
  Ev (fun k=>spec_l4Good.l0 k out (i:Int)) ((out.drop i).all okV):=by
 induction d with
 | zero=>
  intro i hi
  refine Ev.succ ?_
  rw[List.drop_eq_nil_of_le (by omega)]
  simp only[spec_l4Good.l0,show ¬(i:Int)<(out.length:Int) by omega,if_false,List.all_nil]
  exact Ev.some
 | succ d ih=>
  intro i hi
  have hlt:i<out.length:=by omega
  have h1:(i:Int)<(out.length:Int):=by omega
  have h2:(0:Int)≤(i:Int):=by omega
  have h3:=next_i hlt hl
  have hg:rd_T34 out (i:Int)=out[i]:=rdD_cast _ hlt
  have hst:=(hs _ (List.getElem_mem hlt)).st
  have ih':=ih (i+1) (by omega)
  refine Ev.succ ?_
  rw[drop_get hlt,List.all_cons]
  simp only[spec_l4Good.l0,h1,h2,h3,if_true,hg]
  refine Ev.bind (spec_ver _ _ _ _ hst.1 hst.2) ?_
  rw[show verB out[i].f1.f0 out[i].f1.f1 out[i].f1.f2 out[i].f1.f3=okV out[i] from rfl]
  cases okV out[i] with
  | true=>
   simp only[if_true,Bool.true_and]
   exact ih'
  | false=>
   simp only[Bool.false_eq_true,if_false,Bool.false_and]
   exact Ev.some
def endW (o:Option (List CmpT)):Option (List CmpT):=o.bind fun out=>if out.all okV=true∧out.length≤4 then some out else none
def isL (o:Option (List CmpT)) (r:List CmpT × Bool):Prop:=match o with|some x=>r=(x,true)|none=>r.2=false
theorem impl_words (ws:List ByteArray) (hws:∀ w∈ws,w.size≤16777216) (hl:ws.length≤16777217) (d:Nat):∀ (i:Nat) (out:List CmpT),i+d=ws.length→out.length≤2*i→(∀ x∈out,smallC x) →
  Got (fun k=>impl_listOf.l0 k out ws (ws.length:Int) (i:Int)) (isL (endW (goW out (ws.drop i)))):=by
 induction d with
 | zero=>
  intro i out hi ho hs
  refine Got.succ ?_
  rw[List.drop_eq_nil_of_le (by omega)]
  simp only[impl_listOf.l0,show ¬(i:Int)<(ws.length:Int) by omega,if_false]
  have hg:=impl_good out hs (by omega) out.length 0 (by omega)
  rw[List.drop_zero] at hg
  refine Got.of hg ?_
  have e:endW (goW out [])=if out.all okV=true∧out.length≤4 then some out else none:=by simp[endW,goW,wordsC]
  rw[e]
  by_cases ha:out.all okV=true
  ·rw[if_pos ha]
   by_cases h4:out.length≤4
   ·rw[if_pos ⟨ha,h4⟩]
    show (out,decide ((out.length:Int)≤4))=(out,true)
    rw[show decide ((out.length:Int)≤4)=true from decide_eq_true (by omega)]
   ·rw[if_neg (fun h=>h4 h.2)]
    show decide ((out.length:Int)≤4)=false
    exact decide_eq_false (by omega)
  ·rw[if_neg ha,if_neg (fun h=>ha h.1)]
   rfl
 | succ d ih=>
  intro i out hi ho hs
  have hlt:i<ws.length:=by omega
  have h1:(i:Int)<(ws.length:Int):=by omega
  have h2:(0:Int)≤(i:Int):=by omega
  have h3:=next_i hlt (by omega)
  have hw:=hws _ (List.getElem_mem hlt)
  have hwl:=wordC_length ws[i]
  have h4:out.length+(wordC ws[i]).1.length<2513169434916:=by omega
  have hlen:(out++(wordC ws[i]).1).length≤2*(i+1):=by rw[List.length_append];omega
  refine Got.succ ?_
  rw[drop_get hlt,goW_cons]
  simp only[impl_listOf.l0,h1,h2,h3,if_true,rdOf_cast _ hlt]
  refine Got.bind (Got.of (impl_word ws[i] hw) rfl:Got _ fun r=>r=wordC ws[i]) fun r hr=>?_
  subst hr
  by_cases hk:(wordC ws[i]).2=true
  ·simp only[hk,if_true,h4]
   refine ih (i+1) _ (by omega) hlen fun x hx=>?_
   rcases List.mem_append.1 hx with hx|hx
   ·exact hs x hx
   ·exact small_word _ hw x hx
  ·simp only[hk,if_false,Bool.false_eq_true]
   exact Got.some rfl
theorem spec_words (ws:List ByteArray) (hws:∀ w∈ws,w.size≤16777216) (hl:ws.length≤16777217) (d:Nat):∀ (i:Nat) (out:List CmpT),i+d=ws.length→out.length≤2*i→(∀ x∈out,smallC x) →
  Got (fun k=>spec_l4List.l0 k ws out (i:Int)) fun r=>(∀ x∈r.1,smallC x)∧r.1.length≤2*ws.length∧endW (goW out (ws.drop i))=if r.2=true∧r.1.all okV=true then some r.1 else none:=by
 induction d with
 | zero=>
  intro i out hi ho hs
  refine Got.succ ?_
  rw[List.drop_eq_nil_of_le (by omega)]
  simp only[spec_l4List.l0,show ¬(i:Int)<(ws.length:Int) by omega,if_false]
  refine Got.some ⟨hs,by show out.length≤_;omega,?_⟩
  have e:endW (goW out [])=if out.all okV=true∧out.length≤4 then some out else none:=by simp[endW,goW,wordsC]
  rw[e]
  show _=if decide ((out.length:Int)≤4)=true∧out.all okV=true then some out else none
  by_cases ha:out.all okV=true
  ·by_cases h4:out.length≤4
   ·rw[if_pos ⟨ha,h4⟩,if_pos ⟨decide_eq_true (by omega),ha⟩]
   ·rw[if_neg (fun h=>h4 h.2),if_neg (fun h=>h4 (by have:=of_decide_eq_true h.1;omega))]
  ·rw[if_neg (fun h=>ha h.1),if_neg (fun h=>ha h.2)]
 | succ d ih=>
  intro i out hi ho hs
  have hlt:i<ws.length:=by omega
  have h1:(i:Int)<(ws.length:Int):=by omega
  have h2:(0:Int)≤(i:Int):=by omega
  have h3:=next_i hlt (by omega)
  have hw:=hws _ (List.getElem_mem hlt)
  have hwl:=wordC_length ws[i]
  have h4:out.length+(wordC ws[i]).1.length<2513169434916:=by omega
  have hlen:(out++(wordC ws[i]).1).length≤2*(i+1):=by rw[List.length_append];omega
  have hol:out.length≤2*ws.length:=by omega
  refine Got.succ ?_
  rw[drop_get hlt,goW_cons]
  simp only[spec_l4List.l0,h1,h2,h3,if_true,rdOf_cast _ hlt]
  refine Got.bind (Got.of (spec_word ws[i] hw) rfl:Got _ fun r=>r=wordC ws[i]) fun r hr=>?_
  subst hr
  by_cases hk:(wordC ws[i]).2=true
  ·simp only[hk,if_true,h4]
   refine ih (i+1) _ (by omega) hlen fun x hx=>?_
   rcases List.mem_append.1 hx with hx|hx
   ·exact hs x hx
   ·exact small_word _ hw x hx
  ·simp only[hk,if_false,Bool.false_eq_true]
   exact Got.some ⟨hs,hol,by simp[endW]⟩
theorem goW_nil (ws:List ByteArray):goW [] ws=wordsC ws:=by
 unfold goW
 cases wordsC ws <;> rfl
theorem list_dash (a m b:ByteArray):listC [a,m,b]=if m=dashB then (if (parseV a).2.2.2.2=true∧(parseV b).2.2.2.2=true then some [verC 4 (parseV a),verC 2 (parseV b)] else none) else endW (wordsC [a,m,b]):=rfl
theorem list_other (ws:List ByteArray) (h:ws.length≠3):listC ws=endW (wordsC ws):=by
 match ws,h with
 | [],_=>rfl
 | [_],_=>rfl
 | [_,_],_=>rfl
 | [_,_,_],h=>exact absurd rfl h
 | _ :: _ :: _ :: _ :: _,_=>rfl
theorem dash_iff (m:ByteArray):(m.toList == ([45]:List UInt8))=decide (m=dashB):=by
 rw[Bool.eq_iff_iff,beq_iff_eq,decide_eq_true_eq,show ([45]:List UInt8)=dashB.toList from by rw[toList_data];rfl]
 exact toList_inj
theorem pair_ok (a b:ByteArray) (ha:(parseV a).2.2.2.2=true) (hb:(parseV b).2.2.2.2=true):[verC 4 (parseV a),verC 2 (parseV b)].all okV=true:=by
 have h1:=parseV_ok ha
 have h2:=parseV_ok hb
 simp only[List.all_cons,List.all_nil,Bool.and_true,Bool.and_eq_true]
 exact⟨h1,h2⟩
theorem impl_list_j (ws:List ByteArray) (hws:∀ w∈ws,w.size≤16777216) (hl:ws.length≤16777217):Got (fun k=>impl_listOf.j0 k ws false) (isL (endW (wordsC ws))):=by
 refine Got.succ ?_
 simp only[impl_listOf.j0,Bool.false_eq_true,if_false]
 refine Got.succ ?_
 simp only[impl_listOf.j1]
 have:=impl_words ws hws hl ws.length 0 [] (by omega) (by simp) (by simp)
 rw[List.drop_zero,goW_nil] at this
 exact this
theorem impl_list_w (ws:List ByteArray) (hws:∀ w∈ws,w.size≤16777216) (hl:ws.length≤16777217) :
  Got (fun k=>if (ws.length:Int)=3 then (if 1<(ws.length:Int) then impl_listOf.j0 k ws ((rdOf ByteArray.empty ws 1).toList == ([45]:List UInt8)) else none) else impl_listOf.j0 k ws false) (isL (listC ws)):=by
 by_cases h3:ws.length=3
 ·match ws,h3 with
  | [a,m,b],_=>
   simp only[List.length_cons,List.length_nil,show ((0+1+1+1:Nat):Int)=3 from rfl,if_true,show (1:Int)<3 by decide,show rdOf ByteArray.empty [a,m,b] 1=m from rfl,dash_iff]
   rw[list_dash]
   by_cases hm:m=dashB
   ·rw[if_pos hm]
    simp only[hm,decide_true]
    refine Got.succ ?_
    simp only[impl_listOf.j0,if_true,List.length_cons,List.length_nil,show (0:Int)<((0+1+1+1:Nat):Int) by decide,show (2:Int)<((0+1+1+1:Nat):Int) by decide,show rdOf ByteArray.empty [a,dashB,b] 0=a from rfl,show rdOf ByteArray.empty [a,dashB,b] 2=b from rfl]
    refine Got.bind (Got.of (impl_pv a (hws a (by simp))) rfl:Got _ fun r=>r=parseV a) fun r hr=>?_
    subst hr
    refine Got.bind (Got.of (impl_pv b (hws b (by simp))) rfl:Got _ fun r=>r=parseV b) fun r hr=>?_
    subst hr
    simp only[Option.bind_some]
    by_cases ha:(parseV a).2.2.2.2=true
    ·simp only[ha,if_true,true_and]
     refine Got.some ?_
     by_cases hb:(parseV b).2.2.2.2=true
     ·rw[if_pos hb,hb]
      rfl
     ·rw[if_neg hb]
      show (parseV b).2.2.2.2=false
      simpa using hb
    ·simp only[ha,if_false,Bool.false_eq_true,false_and]
     exact Got.some rfl
   ·rw[if_neg hm]
    simp only[hm,decide_false]
    exact impl_list_j _ hws hl
 ·simp only[show ¬(ws.length:Int)=3 by omega,if_false]
  rw[list_other ws h3]
  exact impl_list_j _ hws hl
theorem blank_pieces {s:ByteArray} (hs:s.size≤16777216):(∀ w∈piecesB s blank1,w.size≤16777216)∧(piecesB s blank1).length≤16777217:=by
 have h:=pieces_length (s:=s) (sep:=blank1) (Nat.le_refl _)
 exact⟨fun w hw=>by have:=pieces_mem (sep:=blank1) (by simp[blank1]) w hw;omega,by omega⟩
theorem impl_side (s:ByteArray) (hs:s.size≤16777216):Got (fun k=>impl_listOf.f k s) (isL (sideC s)):=by
 have ht:=trimQ_size s
 have hp:=blank_pieces (s:=trimQ s) (by omega)
 have h1:strings_Trim.f s (⟨#[32]⟩:ByteArray)=some (trimQ s):=strings_trim s (by omega)
 have h2:strings_Split.f (trimQ s) (⟨#[32]⟩:ByteArray)=some (piecesB (trimQ s) blank1):=strings_split _ 32 (by omega)
 unfold impl_listOf.f
 simp only[h1,h2,Option.bind_some]
 exact impl_list_w _ hp.1 hp.2
theorem spec_list_j (ws:List ByteArray) (hws:∀ w∈ws,w.size≤16777216) (hl:ws.length≤16777217):Got (fun k=>spec_l4List.j0 k ws [] false) fun r=>(∀ x∈r.1,smallC x)∧r.1.length≤33554434∧endW (wordsC ws)=if r.2=true∧r.1.all okV=true then some r.1 else none:=by
 refine Got.succ ?_
 simp only[spec_l4List.j0,Bool.false_eq_true,if_false]
 refine Got.succ ?_
 simp only[spec_l4List.j1]
 have:=spec_words ws hws hl ws.length 0 [] (by omega) (by simp) (by simp)
 rw[List.drop_zero,goW_nil] at this
 exact Got.mono this fun r hr=>⟨hr.1,by have:=hr.2.1;omega,hr.2.2⟩
theorem spec_list_w (ws:List ByteArray) (hws:∀ w∈ws,w.size≤16777216) (hl:ws.length≤16777217) :
  Got (fun k=>spec_l4List.f k ws) fun r=>(∀ x∈r.1,smallC x)∧r.1.length≤33554434∧listC ws=if r.2=true∧r.1.all okV=true then some r.1 else none:=by
 unfold spec_l4List.f
 simp only[Option.bind_some]
 by_cases h3:ws.length=3
 ·match ws,h3 with
  | [a,m,b],_=>
   simp only[List.length_cons,List.length_nil,show ((0+1+1+1:Nat):Int)=3 from rfl,if_true,show (1:Int)<3 by decide,show rdOf ByteArray.empty [a,m,b] 1=m from rfl,dash_iff]
   rw[list_dash]
   by_cases hm:m=dashB
   ·rw[if_pos hm]
    simp only[hm,decide_true]
    refine Got.succ ?_
    simp only[spec_l4List.j0,if_true,List.length_cons,List.length_nil,show (0:Int)<((0+1+1+1:Nat):Int) by decide,show (2:Int)<((0+1+1+1:Nat):Int) by decide,show rdOf ByteArray.empty [a,dashB,b] 0=a from rfl,show rdOf ByteArray.empty [a,dashB,b] 2=b from rfl]
    refine Got.bind (Got.of (spec_pv a (hws a (by simp))) rfl:Got _ fun r=>r=parseV a) fun r hr=>?_
    subst hr
    refine Got.bind (Got.of (spec_pv b (hws b (by simp))) rfl:Got _ fun r=>r=parseV b) fun r hr=>?_
    subst hr
    have hsm:∀ x∈[verC 4 (parseV a),verC 2 (parseV b)],smallC x:=by
     intro x hx
     simp only[List.mem_cons,List.not_mem_nil,or_false] at hx
     rcases hx with rfl|rfl
     ·exact small_ver _ _ (hws a (by simp))
     ·exact small_ver _ _ (hws b (by simp))
    simp only[Option.bind_some]
    by_cases ha:(parseV a).2.2.2.2=true
    ·simp only[ha,if_true,true_and]
     refine Got.some ⟨hsm,by show (2:Nat)≤_;omega,?_⟩
     by_cases hb:(parseV b).2.2.2.2=true
     ·rw[if_pos hb,if_pos ⟨hb,pair_ok a b ha hb⟩]
      rfl
     ·rw[if_neg hb,if_neg (fun h=>hb h.1)]
    ·simp only[ha,if_false,Bool.false_eq_true,false_and]
     exact Got.some ⟨hsm,by show (2:Nat)≤_;omega,rfl⟩
   ·rw[if_neg hm]
    simp only[hm,decide_false]
    exact spec_list_j _ hws hl
 ·simp only[show ¬(ws.length:Int)=3 by omega,if_false]
  rw[list_other ws h3]
  exact spec_list_j _ hws hl
def goS (out:List (List CmpT)) (ps:List ByteArray):List (List CmpT) × Bool:=match sidesC ps with|some r=>(out++r,true)|none=>([],false)
theorem goS_cons (out:List (List CmpT)) (p:ByteArray) (r:List ByteArray):goS out (p :: r)=match sideC p with|some x=>goS (out++[x]) r|none=>([],false):=by
 unfold goS
 rw[sidesC]
 cases sideC p with
 | none=>rfl
 | some x=>
  cases sidesC r with
  | none=>rfl
  | some o=>simp
theorem impl_range_l (ps:List ByteArray) (hps:∀ p∈ps,p.size≤16777216) (hl:ps.length≤16777217) (d:Nat):∀ (i:Nat) (out:List (List CmpT)),i+d=ps.length→out.length≤i →
  Ev (fun k=>impl_ParseRange.l0 k out ps (ps.length:Int) (i:Int)) (goS out (ps.drop i)):=by
 induction d with
 | zero=>
  intro i out hi ho
  refine Ev.succ ?_
  rw[List.drop_eq_nil_of_le (by omega)]
  simp only[impl_ParseRange.l0,show ¬(i:Int)<(ps.length:Int) by omega,if_false]
  refine Ev.cast Ev.some ?_
  simp[goS,sidesC]
 | succ d ih=>
  intro i out hi ho
  have hlt:i<ps.length:=by omega
  have h1:(i:Int)<(ps.length:Int):=by omega
  have h2:(0:Int)≤(i:Int):=by omega
  have h3:=next_i hlt (by omega)
  have h4:out.length<5864062014805:=by omega
  have hol:∀ x:List CmpT,(out++[x]).length≤i+1:=fun x=>by rw[List.length_append];show out.length+1≤i+1;omega
  refine Ev.succ ?_
  rw[drop_get hlt,goS_cons]
  simp only[impl_ParseRange.l0,h1,h2,h3,if_true,rdOf_cast _ hlt]
  obtain⟨r,hr,hq⟩:=impl_side ps[i] (hps _ (List.getElem_mem hlt))
  refine Ev.bind hr ?_
  cases hc:sideC ps[i] with
  | none=>
   rw[hc] at hq
   have hq':r.2=false:=hq
   simp only[hq',Bool.false_eq_true,if_false]
   exact Ev.some
  | some x=>
   rw[hc] at hq
   have hq':r=(x,true):=hq
   subst hq'
   simp only[if_true,h4]
   exact ih (i+1) _ (by omega) (hol x)
theorem bar_pieces {s:ByteArray} (hs:s.size≤16777216):(∀ w∈piecesB s bar2,w.size≤16777216)∧(piecesB s bar2).length≤16777217:=by
 have h:=pieces_length (s:=s) (sep:=bar2) (by decide)
 exact⟨fun w hw=>by have:=pieces_mem (sep:=bar2) (by simp[bar2]) w hw;omega,by omega⟩
theorem rangeR_eq (s:ByteArray):rangeR s=if (piecesB s bar2).length≤4 then goS [] (piecesB s bar2) else ([],false):=by
 unfold rangeR rangeC goS
 split
 next r h=>
  split at h
  next h4=>
   rw[if_pos h4,h]
   rfl
  next=>cases h
 next h=>
  split at h
  next h4=>
   rw[if_pos h4,h]
  next h4=>rw[if_neg h4]
theorem impl_range (s:ByteArray) (hs:s.size≤16777216):Ev (fun k=>impl_ParseRange.f k s) (rangeR s):=by
 have hp:=bar_pieces hs
 have h1:strings_Split.f s (⟨#[124,124]⟩:ByteArray)=some (piecesB s bar2):=strings_sides s hs
 unfold impl_ParseRange.f
 rw[rangeR_eq]
 simp only[h1,Option.bind_some]
 by_cases h4:(piecesB s bar2).length≤4
 ·simp only[show ¬((piecesB s bar2).length:Int)>4 by omega,if_false,h4,if_true]
  refine Ev.succ ?_
  simp only[impl_ParseRange.j0]
  exact impl_range_l _ hp.1 hp.2 (piecesB s bar2).length 0 [] (by omega) (by simp)
 ·simp only[show ((piecesB s bar2).length:Int)>4 by omega,if_true,h4,if_false]
  exact Ev.some
def cutS (r:List (List CmpT) × Bool):List (List CmpT) × Bool:=if r.1.length>4 then ([],false) else r
theorem sidesC_length:∀ {ps:List ByteArray} {r:List (List CmpT)},sidesC ps=some r→r.length=ps.length
 | [],r,h=>by obtain rfl:=Option.some.inj h;rfl
 | p :: ps,r,h=>by
  unfold sidesC at h
  obtain⟨x,hx,h⟩:=Option.bind_eq_some_iff.1 h
  obtain⟨o,ho,rfl⟩:=Option.map_eq_some_iff.1 h
  rw[List.length_cons,List.length_cons,sidesC_length ho]
theorem spec_range_l (ps:List ByteArray) (hps:∀ p∈ps,p.size≤16777216) (hl:ps.length≤16777217) (d:Nat):∀ (i:Nat) (out:List (List CmpT)),i+d=ps.length→out.length≤i →
  Ev (fun k=>spec_ParseRange.l0 k out ps (i:Int)) (cutS (goS out (ps.drop i))):=by
 induction d with
 | zero=>
  intro i out hi ho
  refine Ev.succ ?_
  rw[List.drop_eq_nil_of_le (by omega)]
  have e:goS out []=(out,true):=by simp[goS,sidesC]
  rw[e]
  simp only[spec_ParseRange.l0,show ¬(i:Int)<(ps.length:Int) by omega,if_false,cutS]
  by_cases h4:out.length>4
  ·simp only[show (out.length:Int)>4 by omega,h4,if_true]
   exact Ev.some
  ·simp only[show ¬(out.length:Int)>4 by omega,h4,if_false]
   exact Ev.some
 | succ d ih=>
  intro i out hi ho
  have hlt:i<ps.length:=by omega
  have h1:(i:Int)<(ps.length:Int):=by omega
  have h2:(0:Int)≤(i:Int):=by omega
  have h3:=next_i hlt (by omega)
  have h4:out.length<5864062014805:=by omega
  have hol:∀ x:List CmpT,(out++[x]).length≤i+1:=fun x=>by rw[List.length_append];show out.length+1≤i+1;omega
  have hz:=hps _ (List.getElem_mem hlt)
  have htz:=trimQ_size ps[i]
  have hb:=blank_pieces (s:=trimQ ps[i]) (by omega)
  refine Ev.succ ?_
  rw[drop_get hlt,goS_cons]
  simp only[spec_ParseRange.l0,h1,if_true]
  refine Ev.succ ?_
  simp only[spec_ParseRange.j1,h1,h2,h3,if_true,rdOf_cast _ hlt]
  refine Ev.bind (spec_trim ps[i] (by omega)) ?_
  refine Ev.bind (spec_split (trimQ ps[i]) 32 (by omega)) ?_
  obtain⟨r,hr,hs,hrl,hq⟩:=spec_list_w (piecesB (trimQ ps[i]) blank1) hb.1 hb.2
  refine Ev.bind hr ?_
  have hsd:sideC ps[i]=if r.2=true∧r.1.all okV=true then some r.1 else none:=hq
  rw[hsd]
  by_cases hk:r.2=true
  ·simp only[hk,if_true,true_and]
   have hg:=spec_good r.1 hs (by omega) r.1.length 0 (by omega)
   rw[List.drop_zero] at hg
   refine Ev.bind (f:=fun k t=>if t=true then _ else _) (show Ev (fun k=>spec_l4Good.f k r.1) (r.1.all okV) from hg) ?_
   by_cases ha:r.1.all okV=true
   ·simp only[ha,if_true,h4]
    exact ih (i+1) _ (by omega) (hol r.1)
   ·simp only[ha,if_false,Bool.false_eq_true]
    exact Ev.some
  ·simp only[hk,if_false,Bool.false_eq_true,false_and]
   exact Ev.some
theorem spec_range (s:ByteArray) (hs:s.size≤16777216):Ev (fun k=>spec_ParseRange.f k s) (rangeR s):=by
 have hp:=bar_pieces hs
 unfold spec_ParseRange.f
 refine Ev.bind (spec_sides s hs) ?_
 refine Ev.cast (spec_range_l _ hp.1 hp.2 (piecesB s bar2).length 0 [] (by omega) (by simp)) ?_
 rw[rangeR_eq,List.drop_zero]
 unfold cutS goS
 cases hc:sidesC (piecesB s bar2) with
 | none=>simp
 | some r=>
  have:=sidesC_length hc
  show (if r.length>4 then ([],false) else (r,true))=if (piecesB s bar2).length≤4 then (r,true) else ([],false)
  by_cases h4:(piecesB s bar2).length≤4
  ·rw[if_neg (by omega),if_pos h4]
  ·rw[if_pos (by omega),if_neg h4]
theorem range_small {s:ByteArray} (hs:s.size≤16777216):(rangeR s).1.length≤4∧∀ y∈(rangeR s).1,y.length≤4∧∀ x∈y,smallC x:=by
 have hp:=bar_pieces hs
 have words:∀ (ws:List ByteArray),(∀ w∈ws,w.size≤16777216)→∀ o,wordsC ws=some o→∀ x∈o,smallC x:=by
  intro ws
  induction ws with
  | nil=>
   intro _ o h x hx
   obtain rfl:=Option.some.inj h
   cases hx
  | cons w r ih=>
   intro hw o h x hx
   unfold wordsC at h
   split at h
   next=>
    obtain⟨o2,ho,rfl⟩:=Option.map_eq_some_iff.1 h
    rcases List.mem_append.1 hx with hx|hx
    ·exact small_word w (hw w (by simp)) x hx
    ·exact ih (fun z hz=>hw z (by simp[hz])) o2 ho x hx
   next=>cases h
 have ends:∀ (ws:List ByteArray),(∀ w∈ws,w.size≤16777216)→∀ y,endW (wordsC ws)=some y→y.length≤4∧∀ x∈y,smallC x:=by
  intro ws hw y h
  unfold endW at h
  obtain⟨o,ho,h⟩:=Option.bind_eq_some_iff.1 h
  split at h
  next hc=>
   obtain rfl:=Option.some.inj h
   exact⟨hc.2,words ws hw o ho⟩
  next=>cases h
 have lists:∀ (ws:List ByteArray),(∀ w∈ws,w.size≤16777216)→∀ y,listC ws=some y→y.length≤4∧∀ x∈y,smallC x:=by
  intro ws hw y h
  by_cases h3:ws.length=3
  ·match ws,h3 with
   | [a,m,b],_=>
    rw[list_dash] at h
    split at h
    ·split at h
     ·obtain rfl:=Option.some.inj h
      refine⟨by show (2:Nat)≤4;omega,fun x hx=>?_⟩
      simp only[List.mem_cons,List.not_mem_nil,or_false] at hx
      rcases hx with rfl|rfl
      ·exact small_ver _ _ (hw a (by simp))
      ·exact small_ver _ _ (hw b (by simp))
     ·cases h
    ·exact ends _ hw y h
  ·rw[list_other ws h3] at h
   exact ends _ hw y h
 have sides:∀ (ps:List ByteArray),(∀ w∈ps,w.size≤16777216)→∀ r,sidesC ps=some r→∀ y∈r,y.length≤4∧∀ x∈y,smallC x:=by
  intro ps
  induction ps with
  | nil=>
   intro _ r h y hy
   obtain rfl:=Option.some.inj h
   cases hy
  | cons p q ih=>
   intro hw r h y hy
   unfold sidesC at h
   obtain⟨x,hx,h⟩:=Option.bind_eq_some_iff.1 h
   obtain⟨o,ho,rfl⟩:=Option.map_eq_some_iff.1 h
   rcases List.mem_cons.1 hy with rfl|hy
   ·have ht:=trimQ_size p
    have hpz:=hw p (by simp)
    exact lists _ (blank_pieces (s:=trimQ p) (by omega)).1 _ hx
   ·exact ih (fun z hz=>hw z (by simp[hz])) o ho y hy
 unfold rangeR
 split
 next r h=>
  unfold rangeC at h
  split at h
  next h4=>exact⟨by have:=sidesC_length h;show r.length≤4;omega,sides _ hp.1 r h⟩
  next=>cases h
 next=>exact⟨Nat.zero_le _,fun y hy=>by cases hy⟩
def stR (x:S34):Prop:=x.f1.f3.length≤9223372036854775807∧(∀ s∈x.f1.f3,s.size≤9223372036854775807)∧joinN x.f1.f3 dot≤2199023255552
def cmpT (x:S34):ByteArray:=impl_signOf.B x.f0++verT x.f1.f0 x.f1.f1 x.f1.f2 x.f1.f3
def cmpP1 (x:S34):List ByteArray:=if inB x.f0 0 4=true then [cmpT x] else []
def cmpsP (l:List S34):List ByteArray:=l.flatMap cmpP1
def sp1:ByteArray:=⟨#[32]⟩
def or4:ByteArray:=⟨#[32,124,124,32]⟩
def rangeT (r:List (List S34)):ByteArray:=joinB (r.map fun l=>joinB (cmpsP l) sp1) or4
theorem joinN_le (B:Nat) (sep:ByteArray):∀ (l:List ByteArray),(∀ x∈l,x.size≤B)→joinN l sep≤l.length*(sep.size+B)
 | [],_=>by simp[joinN,dats,Lib.lens]
 | x :: r,h=>by
  have ih:=joinN_le B sep r (fun y hy=>h y (by simp[hy]))
  have hx:=h x (by simp)
  have e:joinN (x :: r) sep=sep.size+x.size+joinN r sep:=by
   unfold joinN
   simp[dats,Lib.lens,Nat.mul_succ]
   omega
  rw[e,List.length_cons,Nat.succ_mul]
  omega
theorem sign_size (c:Int):(impl_signOf.B c).size≤2:=by
 unfold impl_signOf.B
 split
 ·decide
 split
 ·decide
 split
 ·decide
 split
 ·decide
 split <;> decide
theorem verT_size (a b c:Int) (l:List ByteArray):(verT a b c l).size≤90:=by
 unfold verT
 split
 next hv=>
  obtain⟨a0,a1,b0,b1,c0,c1,l3⟩:=ver_parts hv
  have na:=numB_size (x:=a) (by omega)
  have nb:=numB_size (x:=b) (by omega)
  have nc:=numB_size (x:=c) (by omega)
  have hc:(verCore a b c).size≤59:=by
   unfold verCore
   simp only[ByteArray.size_append,show dot.size=1 from rfl]
   omega
  have hq:∀ x∈l,x.size≤8:=by
   intro x hx
   unfold verB at hv
   simp only[Bool.and_eq_true,List.all_eq_true] at hv
   have:=hv.1 x hx
   unfold preB preEnd inB at this
   simp at this
   omega
  have hj:=joinB_size l dot
  have hN:=joinN_le 8 dot l hq
  rw[show dot.size=1 from rfl] at hN
  split
  ·rw[ByteArray.size_append,ByteArray.size_append,show dash.size=1 from rfl]
   omega
  ·omega
 next=>exact Nat.zero_le _
theorem cmpT_size (x:S34):(cmpT x).size≤92:=by
 have h1:=sign_size x.f0
 have h2:=verT_size x.f1.f0 x.f1.f1 x.f1.f2 x.f1.f3
 unfold cmpT
 rw[ByteArray.size_append]
 omega
theorem cmpP1_mem {x:S34} {t:ByteArray} (h:t∈cmpP1 x):t.size≤92:=by
 unfold cmpP1 at h
 split at h
 ·rw[List.mem_singleton.1 h];exact cmpT_size x
 ·cases h
theorem cmpP1_length (x:S34):(cmpP1 x).length≤1:=by
 unfold cmpP1
 split <;> simp
theorem cmpsP_mem {l:List S34}:∀ t∈cmpsP l,t.size≤92:=by
 intro t ht
 obtain⟨x,_,h⟩:=List.mem_flatMap.1 ht
 exact cmpP1_mem h
theorem cmpsP_length:∀ l:List S34,(cmpsP l).length≤l.length
 | []=>Nat.le_refl _
 | x :: l=>by
  have:=cmpP1_length x
  have:=cmpsP_length l
  show (cmpP1 x++cmpsP l).length≤_
  rw[List.length_append,List.length_cons]
  omega
theorem inner_N (l:List S34):joinN (cmpsP l) sp1≤l.length*93:=by
 have h1:=joinN_le 92 sp1 (cmpsP l) cmpsP_mem
 have h2:=cmpsP_length l
 have h3:=Nat.mul_le_mul_right 93 h2
 rw[show sp1.size=1 from rfl] at h1
 omega
def tlB (sep:ByteArray):Nat→List ByteArray→ByteArray
 | _,[]=>⟨#[]⟩
 | 0,p :: ps=>p++tlB sep 1 ps
 | _+1,p :: ps=>sep++(p++tlB sep 1 ps)
theorem tlB_zero (sep p:ByteArray) (ps:List ByteArray):tlB sep 0 (p :: ps)=p++tlB sep 1 ps:=rfl
theorem tlB_succ (sep p:ByteArray) (n:Nat) (ps:List ByteArray):tlB sep (n+1) (p :: ps)=sep++(p++tlB sep 1 ps):=rfl
theorem tlB_one (sep:ByteArray) (n:Nat) (l:List ByteArray):tlB sep (n+1) l=tlB sep 1 l:=by
 cases l <;> rfl
theorem app_nil (s:ByteArray):s++(⟨#[]⟩:ByteArray)=s:=by
 rw[← ofL_data (s++_)]
 conv=>rhs;rw[← ofL_data s]
 simp[ofL]
theorem nil_app (s:ByteArray):(⟨#[]⟩:ByteArray)++s=s:=by
 rw[← ofL_data (_++s)]
 conv=>rhs;rw[← ofL_data s]
 simp[ofL]
theorem tlB_tail (sep:ByteArray):∀ l:List ByteArray,tlB sep 1 l=ofL (Lib.joinTail sep.data.toList (dats l))
 | []=>rfl
 | p :: ps=>by
  rw[show tlB sep 1 (p :: ps)=sep++(p++tlB sep 1 ps) from rfl,tlB_tail sep ps]
  rw[← ofL_data (sep++_)]
  simp[ofL,Lib.joinTail,dats]
theorem tlB_join (sep:ByteArray):∀ l:List ByteArray,tlB sep 0 l=joinB l sep
 | []=>rfl
 | p :: ps=>by
  rw[show tlB sep 0 (p :: ps)=p++tlB sep 1 ps from rfl,tlB_tail sep ps]
  unfold joinB
  rw[show dats (p :: ps)=p.data.toList :: dats ps from rfl,Lib.join_cons,← ofL_data (p++_)]
  simp[ofL]
def signs:List ByteArray:=[(⟨#[61]⟩:ByteArray),(⟨#[60]⟩:ByteArray),(⟨#[60,61]⟩:ByteArray),(⟨#[62]⟩:ByteArray),(⟨#[62,61]⟩:ByteArray)]
theorem signs_rd {c:Int} (h:inB c 0 4=true):0≤c∧c<(signs.length:Int)∧rdOf ByteArray.empty signs c=impl_signOf.B c:=by
 have h':0≤c∧c≤4:=by unfold inB at h;simpa using h
 obtain⟨n,rfl⟩:∃ n:Nat,c=n:=⟨c.toNat,by omega⟩
 refine⟨by omega,by show (n:Int)<5;omega,?_⟩
 match n,h' with
 | 0,_=>rfl
 | 1,_=>rfl
 | 2,_=>rfl
 | 3,_=>rfl
 | 4,_=>rfl
 | n+5,h'=>omega
theorem sign_out {c:Int} (h:inB c 0 4=false):impl_signOf.B c=⟨#[]⟩:=by
 have h':¬(0≤c∧c≤4):=by unfold inB at h;simp at h;omega
 unfold impl_signOf.B
 rw[if_neg (by omega),if_neg (by omega),if_neg (by omega),if_neg (by omega),if_neg (by omega)]
theorem sign_in {c:Int} (h:inB c 0 4=true):¬(impl_signOf.B c).toList=([]:List UInt8):=by
 have h':0≤c∧c≤4:=by unfold inB at h;simpa using h
 rw[toList_data]
 unfold impl_signOf.B
 split
 ·simp
 split
 ·simp
 split
 ·simp
 split
 ·simp
 split
 ·simp
 ·omega
theorem spec_rtext_in (r:List (List S34)) (j:Nat) (hj:j<r.length) (hr:r.length≤1048576) (hy:r[j].length≤1048576) (hy':∀ x∈r[j],stR x) (T:ByteArray) (hT:T.size≤1000000000000000) (R:ByteArray) (d:Nat) :
  ∀ (i n:Nat) (t:ByteArray),i+d=r[j].length→n≤i→t.size≤T.size+i*93→t++tlB sp1 n (cmpsP (r[j].drop i))=T++joinB (cmpsP r[j]) sp1 →
  Ev (fun k=>spec_RangeText.l0 k r signs (T++joinB (cmpsP r[j]) sp1) ((j+1:Nat):Int)) R →
  Ev (fun k=>spec_RangeText.l1 k r signs t (j:Int) (n:Int) (i:Int)) R:=by
 have h2j:(0:Int)≤(j:Int):=by omega
 have h1j:(j:Int)<(r.length:Int):=by omega
 have hgj:rd_L6 r (j:Int)=r[j]:=rdD_cast _ hj
 have h3j:=next_i hj (by omega)
 induction d with
 | zero=>
  intro i n t hi hn ht he hk
  have h1:¬(i:Int)<(r[j].length:Int):=by omega
  rw[List.drop_eq_nil_of_le (by omega),show cmpsP ([]:List S34)=[] from rfl,show tlB sp1 n []=⟨#[]⟩ from by cases n <;> rfl,app_nil] at he
  subst he
  refine Ev.succ ?_
  simp only[spec_RangeText.l1,h1,h1j,h2j,h3j,hgj,if_true,if_false]
  exact hk
 | succ d ih=>
  intro i n t hi hn ht he hk
  have hlt:i<r[j].length:=by omega
  have h1:(i:Int)<(r[j].length:Int):=by omega
  have h2:(0:Int)≤(i:Int):=by omega
  have h3:=next_i hlt (by omega)
  have hg:rd_T34 r[j] (i:Int)=r[j][i]:=rdD_cast _ hlt
  have hst:=hy' _ (List.getElem_mem hlt)
  have hcs:=cmpT_size r[j][i]
  have hss:=sign_size r[j][i].f0
  have hvs:=verT_size r[j][i].f1.f0 r[j][i].f1.f1 r[j][i].f1.f2 r[j][i].f1.f3
  have hcc:(cmpT r[j][i]).size=(impl_signOf.B r[j][i].f0).size+(verT r[j][i].f1.f0 r[j][i].f1.f1 r[j][i].f1.f2 r[j][i].f1.f3).size:=by unfold cmpT;rw[ByteArray.size_append]
  have hi93:i*93≤1048576*93:=Nat.mul_le_mul_right 93 (by omega)
  have hi93':(i+1)*93=i*93+93:=by rw[Nat.add_mul]
  rw[drop_get hlt,show cmpsP (r[j][i] :: r[j].drop (i+1))=cmpP1 r[j][i]++cmpsP (r[j].drop (i+1)) from rfl] at he
  refine Ev.succ ?_
  simp only[spec_RangeText.l1,h1,h2,h1j,h2j,hgj,if_true]
  refine Ev.succ ?_
  simp only[spec_RangeText.j4,h1,h2,h3,h1j,h2j,hgj,hg,if_true,in_f,Option.bind_some]
  cases hb:inB r[j][i].f0 0 4 with
  | false=>
   simp only[Bool.false_eq_true,if_false]
   refine ih (i+1) n t (by omega) (by omega) (by omega) ?_ hk
   rw[← he]
   unfold cmpP1
   rw[hb]
   rfl
  | true=>
   obtain⟨s1,s2,s3⟩:=signs_rd hb
   have hp:cmpP1 r[j][i]=[cmpT r[j][i]]:=by unfold cmpP1;rw[hb];rfl
   rw[hp,List.singleton_append] at he
   simp only[if_true,s1,s2,s3]
   cases n with
   | zero=>
    refine Ev.no (by omega) ?_
    first|(refine Ev.succ (g:=fun k=>spec_RangeText.j1 k _ _ _ _) ?_;simp only[spec_RangeText.j1])|(refine Ev.succ (g:=fun k=>spec_RangeText.j2 k _ _ _ _) ?_;simp only[spec_RangeText.j2])|(refine Ev.succ (g:=fun k=>spec_RangeText.j4 k _ _ _ _ _ _) ?_;simp only[spec_RangeText.j4])|(refine Ev.succ (g:=fun k=>spec_RangeText.j5 k _ _ _ _ _ _) ?_;simp only[spec_RangeText.j5])|skip
    try simp only[h1,h2,h3,h1j,h2j,hgj,hg,if_true,s1,s2,s3]
    refine Ev.yes (by omega) ?_
    refine Ev.bind (spec_vertext _ _ _ _ hst.1 hst.2.1 hst.2.2) ?_
    refine Ev.yes (by rw[ByteArray.size_append];omega) ?_
    rw[app_assoc]
    show Ev (fun k=>spec_RangeText.l1 k r signs (t++cmpT r[j][i]) (j:Int) (wrap64 (((0:Nat):Int)+1)) ((i+1:Nat):Int)) R
    rw[show wrap64 (((0:Nat):Int)+1)=((1:Nat):Int) from by rw[wrap64_id (by omega) (by omega)];rfl]
    refine ih (i+1) 1 _ (by omega) (by omega) (by rw[ByteArray.size_append];omega) ?_ hk
    rw[← he,app_assoc]
    rfl
   | succ n=>
    refine Ev.yes (by omega) ?_
    refine Ev.yes (by omega) ?_
    first|(refine Ev.succ (g:=fun k=>spec_RangeText.j1 k _ _ _ _) ?_;simp only[spec_RangeText.j1])|(refine Ev.succ (g:=fun k=>spec_RangeText.j2 k _ _ _ _) ?_;simp only[spec_RangeText.j2])|(refine Ev.succ (g:=fun k=>spec_RangeText.j4 k _ _ _ _ _ _) ?_;simp only[spec_RangeText.j4])|(refine Ev.succ (g:=fun k=>spec_RangeText.j5 k _ _ _ _ _ _) ?_;simp only[spec_RangeText.j5])|skip
    try simp only[h1,h2,h3,h1j,h2j,hgj,hg,if_true,s1,s2,s3]
    refine Ev.yes (by rw[ByteArray.size_append,show (⟨#[32]⟩:ByteArray).size=1 from rfl];omega) ?_
    refine Ev.bind (spec_vertext _ _ _ _ hst.1 hst.2.1 hst.2.2) ?_
    refine Ev.yes (by rw[ByteArray.size_append,ByteArray.size_append,show (⟨#[32]⟩:ByteArray).size=1 from rfl];omega) ?_
    rw[app_assoc (t++_)]
    show Ev (fun k=>spec_RangeText.l1 k r signs (t++sp1++cmpT r[j][i]) (j:Int) (wrap64 (((n+1:Nat):Int)+1)) ((i+1:Nat):Int)) R
    rw[show wrap64 (((n+1:Nat):Int)+1)=((n+1+1:Nat):Int) from by rw[wrap64_id (by omega) (by omega)];omega]
    refine ih (i+1) (n+1+1) _ (by omega) (by omega) (by rw[ByteArray.size_append,ByteArray.size_append,show sp1.size=1 from rfl];omega) ?_ hk
    rw[← he,tlB_one,app_assoc,app_assoc]
    rfl
theorem spec_rtext_l (r:List (List S34)) (hr:r.length≤1048576) (hr':∀ y∈r,y.length≤1048576∧∀ x∈y,stR x) (d:Nat) :
  ∀ (j:Nat) (t:ByteArray),j+d=r.length→t.size≤j*97517572→t++tlB or4 j ((r.drop j).map fun l=>joinB (cmpsP l) sp1)=rangeT r →
  Ev (fun k=>spec_RangeText.l0 k r signs t (j:Int)) (rangeT r):=by
 induction d with
 | zero=>
  intro j t hj ht he
  have h1:¬(j:Int)<(r.length:Int):=by omega
  rw[List.drop_eq_nil_of_le (by omega),List.map_nil,show tlB or4 j []=⟨#[]⟩ from by cases j <;> rfl,app_nil] at he
  refine Ev.succ ?_
  simp only[spec_RangeText.l0,h1,if_false,he]
  exact Ev.some
 | succ d ih=>
  intro j t hj ht he
  have hlt:j<r.length:=by omega
  have h1:(j:Int)<(r.length:Int):=by omega
  have hst:=hr' _ (List.getElem_mem hlt)
  have hjb:j*97517572≤1048576*97517572:=Nat.mul_le_mul_right _ (by omega)
  have hjb':(j+1)*97517572=j*97517572+97517572:=by rw[Nat.add_mul]
  have hN:=inner_N r[j]
  have hNl:r[j].length*93≤1048576*93:=Nat.mul_le_mul_right 93 hst.1
  have hS:=joinB_size (cmpsP r[j]) sp1
  rw[drop_get hlt,List.map_cons] at he
  refine Ev.succ ?_
  simp only[spec_RangeText.l0,h1,if_true]
  refine Ev.succ ?_
  simp only[spec_RangeText.j1]
  have main:∀ T:ByteArray,T.size≤j*97517572+4→T++(joinB (cmpsP r[j]) sp1++tlB or4 1 ((r.drop (j+1)).map fun l=>joinB (cmpsP l) sp1))=rangeT r →
    Ev (fun k=>spec_RangeText.j2 k r signs T (j:Int)) (rangeT r):=by
   intro T hT hTe
   refine Ev.succ ?_
   simp only[spec_RangeText.j2]
   refine spec_rtext_in r j hlt hr hst.1 hst.2 T (by omega) _ r[j].length 0 0 T (by omega) (by omega) (by omega) (by rw[List.drop_zero,tlB_join]) ?_
   refine ih (j+1) _ (by omega) (by rw[ByteArray.size_append];omega) ?_
   rw[tlB_one,app_assoc]
   exact hTe
  cases j with
  | zero=>
   rw[tlB_zero] at he
   refine Ev.no (by omega) ?_
   exact main t (Nat.le_trans ht (Nat.le_add_right _ _)) he
  | succ j=>
   rw[tlB_succ] at he
   refine Ev.yes (by omega) (Ev.yes (by omega) ?_)
   refine main (t++or4) (by rw[ByteArray.size_append,show or4.size=4 from rfl];omega) ?_
   rw[← he,app_assoc]
theorem spec_rtext (r:List (List S34)) (hr:r.length≤1048576) (hr':∀ y∈r,y.length≤1048576∧∀ x∈y,stR x):Ev (fun k=>spec_RangeText.f k r) (rangeT r):=by
 unfold spec_RangeText.f
 refine spec_rtext_l r hr hr' r.length 0 (⟨#[]⟩:ByteArray) (by omega) (by show 0≤_;omega) ?_
 rw[nil_app,List.drop_zero,tlB_join]
 rfl
theorem impl_rtext_in (r:List (List S34)) (y:List S34) (hy:y.length≤1048576) (hy':∀ x∈y,stR x) (xs:List ByteArray) (hx:xs.length≤1048576) (j:Int) (m:Int) (R:ByteArray)
  (hk:Ev (fun k=>impl_RangeText.l0 k (xs++[joinB (cmpsP y) sp1]) r m (wrap64 (j+1))) R) (d:Nat) :
  ∀ (i:Nat) (u:List ByteArray),i+d=y.length→u.length≤i→u++cmpsP (y.drop i)=cmpsP y→Ev (fun k=>impl_RangeText.l1 k xs u r m j y (y.length:Int) (i:Int)) R:=by
 induction d with
 | zero=>
  intro i u hi hu he
  have h1:¬(i:Int)<(y.length:Int):=by omega
  rw[List.drop_eq_nil_of_le (by omega),show cmpsP ([]:List S34)=[] from rfl,List.append_nil] at he
  subst he
  have hN:=inner_N y
  have hNl:y.length*93≤1048576*93:=Nat.mul_le_mul_right 93 hy
  have hL:=cmpsP_length y
  have hsj:strings_Join.f (cmpsP y) (⟨#[32]⟩:ByteArray)=some (joinB (cmpsP y) sp1):=strings_join _ sp1 (by omega) (by omega)
  refine Ev.succ ?_
  simp only[impl_RangeText.l1,h1,if_false,hsj,Option.bind_some,show xs.length<8796093022208 by omega,if_true]
  exact hk
 | succ d ih=>
  intro i u hi hu he
  have hlt:i<y.length:=by omega
  have h1:(i:Int)<(y.length:Int):=by omega
  have h2:(0:Int)≤(i:Int):=by omega
  have h3:=next_i hlt (by omega)
  have hg:rd_T34 y (i:Int)=y[i]:=rdD_cast _ hlt
  have hst:=hy' _ (List.getElem_mem hlt)
  have hss:=sign_size y[i].f0
  have hvs:=verT_size y[i].f1.f0 y[i].f1.f1 y[i].f1.f2 y[i].f1.f3
  rw[drop_get hlt,show cmpsP (y[i] :: y.drop (i+1))=cmpP1 y[i]++cmpsP (y.drop (i+1)) from rfl] at he
  refine Ev.succ ?_
  simp only[impl_RangeText.l1,h1,if_true]
  refine Ev.succ ?_
  simp only[impl_RangeText.j3,h1,h2,h3,hg,if_true,impl_signOf.f,Option.bind_some]
  cases hb:inB y[i].f0 0 4 with
  | false=>
   rw[sign_out hb]
   refine Ev.yes (by rw[toList_data]) ?_
   refine ih (i+1) u (by omega) (by omega) ?_
   rw[← he]
   unfold cmpP1
   rw[hb]
   rfl
  | true=>
   refine Ev.no (sign_in hb) ?_
   refine Ev.bind (impl_vertext _ _ _ _ hst.1 hst.2.1 hst.2.2) ?_
   refine Ev.yes (by omega) (Ev.yes (by omega) ?_)
   refine ih (i+1) _ (by omega) (by rw[List.length_append];simp;omega) ?_
   rw[← he]
   unfold cmpP1
   rw[hb,if_pos rfl,List.append_assoc]
   rfl
theorem impl_rtext_l (r:List (List S34)) (hr:r.length≤1048576) (hr':∀ y∈r,y.length≤1048576∧∀ x∈y,stR x) (d:Nat) :
  ∀ (j:Nat) (u:List ByteArray),j+d=r.length→u.length=j→u++((r.drop j).map fun l=>joinB (cmpsP l) sp1)=(r.map fun l=>joinB (cmpsP l) sp1) →
  Ev (fun k=>impl_RangeText.l0 k u r (r.length:Int) (j:Int)) (rangeT r):=by
 induction d with
 | zero=>
  intro j u hj hu he
  have h1:¬(j:Int)<(r.length:Int):=by omega
  rw[List.drop_eq_nil_of_le (by omega),List.map_nil,List.append_nil] at he
  subst he
  have hB:=joinN_le 97517568 or4 (r.map fun l=>joinB (cmpsP l) sp1) (fun x hx=>by
   obtain⟨l,hl,rfl⟩:=List.mem_map.1 hx
   have hN:=inner_N l
   have hNl:l.length*93≤1048576*93:=Nat.mul_le_mul_right 93 (hr' l hl).1
   have hS:=joinB_size (cmpsP l) sp1
   omega)
  rw[List.length_map,show or4.size=4 from rfl] at hB
  have hB2:r.length*(4+97517568)≤1048576*(4+97517568):=Nat.mul_le_mul_right _ hr
  have hsj:strings_Join.f (r.map fun l=>joinB (cmpsP l) sp1) (⟨#[32,124,124,32]⟩:ByteArray)=some (rangeT r):=strings_join _ or4 (by omega) (by rw[List.length_map];omega)
  refine Ev.succ ?_
  simp only[impl_RangeText.l0,h1,if_false,hsj,Option.bind_some]
  exact Ev.some
 | succ d ih=>
  intro j u hj hu he
  have hlt:j<r.length:=by omega
  have h1:(j:Int)<(r.length:Int):=by omega
  have h2:(0:Int)≤(j:Int):=by omega
  have h3:=next_i hlt (by omega)
  have hst:=hr' _ (List.getElem_mem hlt)
  have hgj:rd_L6 r (j:Int)=r[j]:=rdD_cast _ hlt
  rw[drop_get hlt,List.map_cons] at he
  refine Ev.succ ?_
  simp only[impl_RangeText.l0,h1,if_true]
  refine Ev.succ ?_
  simp only[impl_RangeText.j1,h1,h2,hgj,if_true]
  refine impl_rtext_in r r[j] hst.1 hst.2 u (by omega) (j:Int) (r.length:Int) _ ?_ r[j].length 0 [] (by omega) (by simp) (by simp)
  rw[h3]
  refine ih (j+1) _ (by omega) (by rw[List.length_append,hu];rfl) ?_
  rw[← he]
  simp
theorem impl_rtext (r:List (List S34)) (hr:r.length≤1048576) (hr':∀ y∈r,y.length≤1048576∧∀ x∈y,stR x):Ev (fun k=>impl_RangeText.f k r) (rangeT r):=by
 unfold impl_RangeText.f
 exact impl_rtext_l r hr hr' r.length 0 [] (by omega) rfl (by simp)
theorem at1_app (c:UInt8):∀ (u r:List UInt8),c ∉ u→at1 c (u++c :: r)=u.length
 | [],r,_=>at1_hit c r
 | b :: u,r,h=>by
  have hb:¬b=c:=fun e=>h (by simp[e])
  rw[List.cons_append,at1_miss hb,at1_app c u r (fun e=>h (by simp[e])),List.length_cons]
theorem at1_none (c:UInt8):∀ u:List UInt8,c ∉ u→at1 c u=u.length
 | [],_=>rfl
 | b :: u,h=>by
  have hb:¬b=c:=fun e=>h (by simp[e])
  rw[at1_miss hb,at1_none c u (fun e=>h (by simp[e])),List.length_cons]
theorem split_alone (c:UInt8):∀ u:List UInt8,c ∉ u→Lib.split u [c]=[u]
 | [],_=>split_nil (by simp)
 | b :: u,h=>by
  have hb:¬b=c:=fun e=>h (by simp[e])
  rw[split_one_by _ hb,split_alone c u (fun e=>h (by simp[e]))]
  rfl
theorem split_app (c:UInt8):∀ (u r:List UInt8),c ∉ u→Lib.split (u++c :: r) [c]=u :: Lib.split r [c]
 | [],r,_=>split_one_at c r
 | b :: u,r,h=>by
  have hb:¬b=c:=fun e=>h (by simp[e])
  rw[List.cons_append,split_one_by _ hb,split_app c u r (fun e=>h (by simp[e]))]
  rfl
theorem split_join (c:UInt8):∀ (x:List UInt8) (l:List (List UInt8)),(∀ y∈x :: l,c ∉ y)→Lib.split (Lib.join (x :: l) [c]) [c]=x :: l
 | x,[],h=>by rw[Lib.join_one];exact split_alone c x (h x (by simp))
 | x,y :: l,h=>by
  rw[join_two,List.append_assoc,show ([c]:List UInt8)++Lib.join (y :: l) [c]=c :: Lib.join (y :: l) [c] from rfl,split_app c x _ (h x (by simp)),split_join c y l (fun z hz=>h z (by simp at hz ⊢;right;exact hz))]
theorem dec_digits:∀ (n u:Nat),u≤n→∀ b∈Lib.decDigits u,digL b=true
 | 0,u,h,b,hb=>by
  rw[Lib.decDigits,dif_pos (by omega)] at hb
  rw[List.mem_singleton.1 hb,digL_iff]
  simp
  omega
 | n+1,u,h,b,hb=>by
  by_cases h9:u<10
  ·rw[Lib.decDigits,dif_pos h9] at hb
   rw[List.mem_singleton.1 hb,digL_iff]
   simp
   omega
  ·rw[Lib.decDigits,dif_neg h9] at hb
   rcases List.mem_append.1 hb with hb|hb
   ·exact dec_digits n (u / 10) (by omega) b hb
   ·rw[List.mem_singleton.1 hb,digL_iff]
    simp
    omega
theorem dec_val:∀ (n u:Nat),u≤n→valL (Lib.decDigits u)=u
 | 0,u,h=>by
  obtain rfl:u=0:=by omega
  rw[Lib.decDigits,dif_pos (by omega)]
  rfl
 | n+1,u,h=>by
  by_cases h9:u<10
  ·rw[Lib.decDigits,dif_pos h9]
   have:=valL_snoc [] (UInt8.ofNat (48+u))
   rw[List.nil_append] at this
   rw[this,show valL []=0 from rfl]
   simp
   omega
  ·rw[Lib.decDigits,dif_neg h9,valL_snoc,dec_val n (u / 10) (by omega)]
   simp
   omega
theorem dec_pos (u:Nat):1≤(Lib.decDigits u).length:=by
 rw[Lib.decDigits]
 split
 ·simp
 ·simp
theorem not_dig {b:UInt8} (h:digL b=true):b≠45∧b≠46:=by
 have:=(digL_iff b).1 h
 exact⟨fun e=>by rw[e] at this;exact absurd this (by decide),fun e=>by rw[e] at this;exact absurd this (by decide)⟩
theorem parse_num {x:Int} (h0:0≤x) (h1:x≤9999):parseM (numB x) 9999=(x,true):=by
 have hl:=decDigits_length 3 x.toNat (by omega)
 have hp:=dec_pos x.toNat
 have hv:=dec_val x.toNat x.toNat (Nat.le_refl _)
 have hd:(Lib.decDigits x.toNat).all digL=true:=List.all_eq_true.2 (dec_digits x.toNat x.toNat (Nat.le_refl _))
 have hn:noLead (Lib.decDigits x.toNat)=true:=noLead_of_dec (by rw[hv])
 have hvb:valB (numB x)=x:=by
  unfold valB numB
  rw[data_ofL,hv]
  omega
 have hok:parseOk (numB x)=true:=by
  unfold parseOk numB
  rw[data_ofL,ofL_size,hd,hn]
  unfold inB
  simp
  omega
 unfold parseM
 rw[hok,hvb,if_pos ⟨rfl,h1⟩]
theorem core_data (a b c:Int):(verCore a b c).data.toList=Lib.decDigits a.toNat++46 :: (Lib.decDigits b.toNat++46 :: Lib.decDigits c.toNat):=by
 unfold verCore numB dot
 simp[ofL]
theorem core_no (a b c:Int):(45:UInt8) ∉ (verCore a b c).data.toList:=by
 rw[core_data]
 intro h
 have hd:=fun u=>dec_digits u u (Nat.le_refl _) 45
 simp only[List.mem_append,List.mem_cons] at h
 rcases h with h|h|h|h|h
 ·exact(not_dig (hd _ h)).1 rfl
 ·cases h
 ·exact(not_dig (hd _ h)).1 rfl
 ·cases h
 ·exact(not_dig (hd _ h)).1 rfl
theorem core_pieces (a b c:Int):piecesB (verCore a b c) dot=[numB a,numB b,numB c]:=by
 have hd:=fun u (h:(46:UInt8)∈Lib.decDigits u)=>(not_dig (dec_digits u u (Nat.le_refl _) 46 h)).2 rfl
 unfold piecesB
 rw[core_data,show dot.data.toList=[46] from rfl,split_app 46 _ _ (hd _),split_app 46 _ _ (hd _),split_alone 46 _ (hd _)]
 rfl
theorem pre_no {x:ByteArray} (h:preB x=true):(46:UInt8) ∉ x.data.toList:=by
 intro hm
 unfold preB at h
 simp only[Bool.and_eq_true,List.all_eq_true] at h
 have:=h.1 46 (by unfold bs;exact List.mem_map.2 ⟨46,hm,rfl⟩)
 exact absurd this (by decide)
theorem verT_back {a b c:Int} {l:List ByteArray} (h:verB a b c l=true):parseV (verT a b c l)=(a,b,c,l,true):=by
 obtain⟨a0,a1,b0,b1,c0,c1,l3⟩:=ver_parts h
 have hpre:∀ x∈l,preB x=true:=by
  have h':=h
  unfold verB at h'
  simp only[Bool.and_eq_true,List.all_eq_true] at h'
  exact h'.1
 have hhead:headB 45 (verT a b c l)=verCore a b c∧preQ (verT a b c l)=l:=by
  unfold verT
  rw[if_pos h]
  cases l with
  | nil=>
   have hno:=at1_none 45 _ (core_no a b c)
   rw[if_neg (by simp)]
   refine⟨?_,?_⟩
   ·unfold headB
    rw[hno,List.take_length,ofL_data]
   ·unfold preQ hasB
    rw[hno]
    simp
  | cons x r=>
   rw[if_pos (by rw[List.length_cons];omega)]
   have hdat:(verCore a b c++(dash++joinB (x :: r) dot)).data.toList=(verCore a b c).data.toList++45 :: (joinB (x :: r) dot).data.toList:=by
    unfold dash
    simp
   have hat:at1 45 (verCore a b c++(dash++joinB (x :: r) dot)).data.toList=(verCore a b c).data.toList.length:=by
    rw[hdat,at1_app 45 _ _ (core_no a b c)]
   refine⟨?_,?_⟩
   ·unfold headB
    rw[hat,hdat,List.take_left',ofL_data]
    rfl
   ·have hh:hasB 45 (verCore a b c++(dash++joinB (x :: r) dot))=true:=by
     unfold hasB
     rw[hat,hdat,decide_eq_true_eq,List.length_append,List.length_cons]
     omega
    unfold preQ
    rw[if_pos hh]
    have ht:tailB 45 (verCore a b c++(dash++joinB (x :: r) dot))=joinB (x :: r) dot:=by
     unfold tailB
     rw[hat,hdat,List.drop_append,List.drop_eq_nil_of_le (by omega),List.nil_append,show (verCore a b c).data.toList.length+1-(verCore a b c).data.toList.length=1 by omega,List.drop_one,List.tail_cons,ofL_data]
    rw[ht]
    unfold piecesB joinB
    rw[data_ofL,show dot.data.toList=[46] from rfl,show dats (x :: r)=x.data.toList :: dats r from rfl,split_join 46 x.data.toList (dats r) (fun y hy=>by
     rw[show x.data.toList :: dats r=dats (x :: r) from rfl] at hy
     unfold dats at hy
     obtain⟨z,hz,rfl⟩:=List.mem_map.1 hy
     exact pre_no (hpre z hz))]
    rw[List.map_cons,ofL_data]
    unfold dats
    rw[List.map_map]
    congr 1
    conv=>rhs;rw[← List.map_id r]
    exact List.map_congr_left (fun z _=>ofL_data z)
 unfold parseV numQ
 rw[hhead.1,hhead.2,core_pieces]
 show readV (numB a) (numB b) (numB c) l=_
 unfold readV
 rw[parse_num a0 a1,parse_num b0 b1,parse_num c0 c1]
 simp only[h,and_self,if_true]
theorem app_data (u v:ByteArray):(u++v).data.toList=u.data.toList++v.data.toList:=by simp
theorem dec_cons (u:Nat):∃ d t,Lib.decDigits u=d :: t∧digL d=true:=by
 have hp:=dec_pos u
 cases hd:Lib.decDigits u with
 | nil=>rw[hd] at hp;simp at hp
 | cons d t=>exact⟨d,t,rfl,dec_digits u u (Nat.le_refl _) d (by rw[hd];simp)⟩
theorem verT_cons {a b c:Int} {l:List ByteArray} (h:verB a b c l=true):∃ d t,(verT a b c l).data.toList=d :: t∧digL d=true:=by
 have hc:=core_data a b c
 obtain⟨d,t,e,hd⟩:=dec_cons a.toNat
 rw[e] at hc
 unfold verT
 rw[if_pos h]
 split
 ·exact⟨d,_,by rw[app_data,hc];rfl,hd⟩
 ·exact⟨d,_,hc,hd⟩
theorem mem_join {b:UInt8} {sep:List UInt8}:∀ {l:List (List UInt8)},b∈Lib.join l sep→(∃ x∈l,b∈x)∨b∈sep
 | [],h=>by rw[Lib.join_nil] at h;cases h
 | [x],h=>by rw[Lib.join_one] at h;exact .inl ⟨x,by simp,h⟩
 | x :: y :: r,h=>by
  rw[join_two] at h
  rcases List.mem_append.1 h with h|h
  ·rcases List.mem_append.1 h with h|h
   ·exact .inl ⟨x,by simp,h⟩
   ·exact .inr h
  ·rcases mem_join h with ⟨z,hz,hb⟩|h
   ·exact .inl ⟨z,List.mem_cons_of_mem _ hz,hb⟩
   ·exact .inr h
def clean (b:UInt8):Prop:=b≠32∧b≠124
theorem dig_clean {b:UInt8} (h:digL b=true):clean b:=by
 have:=(digL_iff b).1 h
 exact⟨fun e=>by rw[e] at this;exact absurd this (by decide),fun e=>by rw[e] at this;exact absurd this (by decide)⟩
theorem pre_clean {x:ByteArray} (h:preB x=true):∀ b∈x.data.toList,clean b:=by
 intro b hm
 unfold preB at h
 simp only[Bool.and_eq_true,List.all_eq_true] at h
 refine⟨fun e=>?_,fun e=>?_⟩
 ·subst e
  have:=h.1 32 (by unfold bs;exact List.mem_map.2 ⟨32,hm,rfl⟩)
  exact absurd this (by decide)
 ·subst e
  have:=h.1 124 (by unfold bs;exact List.mem_map.2 ⟨124,hm,rfl⟩)
  exact absurd this (by decide)
theorem core_clean (a b c:Int):∀ x∈(verCore a b c).data.toList,clean x:=by
 intro x hx
 rw[core_data] at hx
 have hd:=fun u h=>dig_clean (dec_digits u u (Nat.le_refl _) x h)
 simp only[List.mem_append,List.mem_cons] at hx
 rcases hx with h|h|h|h|h
 ·exact hd _ h
 ·rw[h];exact⟨by decide,by decide⟩
 ·exact hd _ h
 ·rw[h];exact⟨by decide,by decide⟩
 ·exact hd _ h
theorem verT_clean {a b c:Int} {l:List ByteArray} (h:verB a b c l=true):∀ x∈(verT a b c l).data.toList,clean x:=by
 intro x hx
 have hpre:∀ x∈l,preB x=true:=by
  have h':=h
  unfold verB at h'
  simp only[Bool.and_eq_true,List.all_eq_true] at h'
  exact h'.1
 unfold verT at hx
 rw[if_pos h] at hx
 split at hx
 ·rw[app_data,app_data] at hx
  rcases List.mem_append.1 hx with hx|hx
  ·exact core_clean _ _ _ x hx
  ·rcases List.mem_append.1 hx with hx|hx
   ·rw[show dash.data.toList=[45] from rfl] at hx
    rw[List.mem_singleton.1 hx]
    exact⟨by decide,by decide⟩
   ·unfold joinB at hx
    rw[data_ofL] at hx
    rcases mem_join hx with ⟨z,hz,hb⟩|hb
    ·unfold dats at hz
     obtain⟨y,hy,rfl⟩:=List.mem_map.1 hz
     exact pre_clean (hpre y hy) x hb
    ·rw[show dot.data.toList=[46] from rfl] at hb
     rw[List.mem_singleton.1 hb]
     exact⟨by decide,by decide⟩
 ·exact core_clean _ _ _ x hx
def goodC (x:CmpT):Prop:=okV x=true∧0≤x.f0∧x.f0≤4
theorem sign_cons {c:Int} (h0:0≤c) (h4:c≤4):∃ d t,(impl_signOf.B c).data.toList=d :: t∧(d=60∨d=61∨d=62)∧∀ b∈t,b=61:=by
 unfold impl_signOf.B
 split
 ·exact⟨61,[],rfl,by decide,by simp⟩
 split
 ·exact⟨60,[],rfl,by decide,by simp⟩
 split
 ·exact⟨60,[61],rfl,by decide,by simp⟩
 split
 ·exact⟨62,[],rfl,by decide,by simp⟩
 split
 ·exact⟨62,[61],rfl,by decide,by simp⟩
 ·omega
theorem cmpT_cons {x:CmpT} (h:goodC x):∃ d t,(cmpT x).data.toList=d :: t∧(d=60∨d=61∨d=62):=by
 obtain⟨d,t,e,hd,_⟩:=sign_cons h.2.1 h.2.2
 exact⟨d,_,by unfold cmpT;rw[app_data,e];rfl,hd⟩
theorem cmpT_clean {x:CmpT} (h:goodC x):∀ b∈(cmpT x).data.toList,clean b:=by
 intro b hb
 obtain⟨d,t,e,hd,ht⟩:=sign_cons h.2.1 h.2.2
 unfold cmpT at hb
 rw[app_data,e] at hb
 rcases List.mem_append.1 hb with hb|hb
 ·rcases List.mem_cons.1 hb with rfl|hb
  ·rcases hd with rfl|rfl|rfl <;> exact⟨by decide,by decide⟩
  ·rw[ht b hb];exact⟨by decide,by decide⟩
 ·exact verT_clean h.1 b hb
theorem partB_ver {a b c:Int} {l:List ByteArray} (h:verB a b c l=true):partB (ofL (verT a b c l).data.toList)=(a,b,c,l,3,true):=by
 unfold partB
 rw[ofL_data,verT_back h]
 rfl
theorem word_back {x:CmpT} (h:goodC x):wordC (cmpT x)=([x],true):=by
 obtain⟨hv,h0,h4⟩:=h
 obtain⟨op,⟨a,b,c,l⟩⟩:=x
 have hv':verB a b c l=true:=hv
 obtain⟨d,t,e,hd⟩:=verT_cons hv'
 have hd':=(digL_iff d).1 hd
 have hp:=partB_ver hv'
 have n61:¬(61:UInt8)=d:=fun he=>by rw[← he] at hd';exact absurd hd' (by decide)
 unfold wordC cmpT
 have h0':0≤op:=h0
 have h4':op≤4:=h4
 rcases (show op=0∨op=1∨op=2∨op=3∨op=4 by omega) with rfl|rfl|rfl|rfl|rfl
 ·have e2:(impl_signOf.B 0++verT a b c l).data.toList=61 :: (verT a b c l).data.toList:=by rw[app_data];rfl
  show (if (impl_signOf.B 0++verT a b c l).data.toList=[42] then _ else wordGo (impl_signOf.B 0++verT a b c l).data.toList signsL)=_
  rw[e2,if_neg (by simp)]
  simp[wordGo,signsL,List.isPrefixOf,hp,makeC,mkC]
 ·have e2:(impl_signOf.B 1++verT a b c l).data.toList=60 :: (verT a b c l).data.toList:=by rw[app_data];rfl
  show (if (impl_signOf.B 1++verT a b c l).data.toList=[42] then _ else wordGo (impl_signOf.B 1++verT a b c l).data.toList signsL)=_
  rw[e2,if_neg (by simp)]
  have hn:([61]:List UInt8).isPrefixOf (verT a b c l).data.toList=false:=by rw[e];simp[List.isPrefixOf,n61]
  simp[wordGo,signsL,List.isPrefixOf,hn,hp,makeC,mkC]
 ·have e2:(impl_signOf.B 2++verT a b c l).data.toList=60 :: 61 :: (verT a b c l).data.toList:=by rw[app_data];rfl
  show (if (impl_signOf.B 2++verT a b c l).data.toList=[42] then _ else wordGo (impl_signOf.B 2++verT a b c l).data.toList signsL)=_
  rw[e2,if_neg (by simp)]
  simp[wordGo,signsL,List.isPrefixOf,hp,makeC,mkC]
 ·have e2:(impl_signOf.B 3++verT a b c l).data.toList=62 :: (verT a b c l).data.toList:=by rw[app_data];rfl
  show (if (impl_signOf.B 3++verT a b c l).data.toList=[42] then _ else wordGo (impl_signOf.B 3++verT a b c l).data.toList signsL)=_
  rw[e2,if_neg (by simp)]
  have hn:([61]:List UInt8).isPrefixOf (verT a b c l).data.toList=false:=by rw[e];simp[List.isPrefixOf,n61]
  simp[wordGo,signsL,List.isPrefixOf,hn,hp,makeC,mkC]
 ·have e2:(impl_signOf.B 4++verT a b c l).data.toList=62 :: 61 :: (verT a b c l).data.toList:=by rw[app_data];rfl
  show (if (impl_signOf.B 4++verT a b c l).data.toList=[42] then _ else wordGo (impl_signOf.B 4++verT a b c l).data.toList signsL)=_
  rw[e2,if_neg (by simp)]
  simp[wordGo,signsL,List.isPrefixOf,hp,makeC,mkC,fromC]
theorem words_back:∀ {l:List CmpT},(∀ x∈l,goodC x)→wordsC (l.map cmpT)=some l
 | [],_=>rfl
 | x :: r,h=>by
  rw[List.map_cons,wordsC,word_back (h x (by simp)),if_pos rfl,words_back (fun y hy=>h y (by simp[hy]))]
  rfl
def goodL (l:List CmpT):Prop:=l≠[]∧l.length≤4∧∀ x∈l,goodC x
theorem list_back {l:List CmpT} (h:goodL l):listC (l.map cmpT)=some l:=by
 obtain⟨hne,h4,hg⟩:=h
 have hall:l.all okV=true∧l.length≤4:=⟨List.all_eq_true.2 (fun x hx=>(hg x hx).1),h4⟩
 have hw:=words_back hg
 have main:((wordsC (l.map cmpT)).bind fun out=>if out.all okV=true∧out.length≤4 then some out else none)=some l:=by
  rw[hw,Option.bind_some,if_pos hall]
 unfold listC
 split
 next a m b e=>
  have hm:m∈l.map cmpT:=by rw[e];simp
  obtain⟨x,hx,rfl⟩:=List.mem_map.1 hm
  obtain⟨d,t,ec,hd⟩:=cmpT_cons (hg x hx)
  rw[if_neg (fun he=>by
   rw[he,show dashB.data.toList=[45] from rfl] at ec
   injection ec with ec _
   rw[← ec] at hd
   exact absurd hd (by decide))]
  rw[← e]
  exact main
 next=>exact main
theorem cmps_map {l:List CmpT} (h:∀ x∈l,goodC x):cmpsP l=l.map cmpT:=by
 induction l with
 | nil=>rfl
 | cons x r ih=>
  have hx:=h x (by simp)
  show cmpP1 x++cmpsP r=_
  rw[ih (fun y hy=>h y (by simp[hy]))]
  unfold cmpP1
  rw[if_pos (by unfold inB;simp[hx.2.1,hx.2.2])]
  rfl
def listT (l:List CmpT):List UInt8:=Lib.join ((l.map cmpT).map (·.data.toList)) [32]
theorem pieces_list {l:List CmpT} (h:goodL l):piecesB (ofL (listT l)) blank1=l.map cmpT:=by
 obtain⟨hne,h4,hg⟩:=h
 cases l with
 | nil=>exact absurd rfl hne
 | cons x r=>
  unfold piecesB listT
  rw[data_ofL,show blank1.data.toList=[32] from rfl]
  simp only[List.map_cons]
  rw[split_join 32 _ _ (fun y hy=>by
   have hy':y∈((x :: r).map cmpT).map (fun z=>z.data.toList):=hy
   obtain⟨z,hz,rfl⟩:=List.mem_map.1 hy'
   obtain⟨w,hw,rfl⟩:=List.mem_map.1 hz
   exact fun hb=>(cmpT_clean (hg w hw) 32 hb).1 rfl)]
  rw[List.map_cons,ofL_data,List.map_map]
  congr 1
  conv=>rhs;rw[← List.map_id (r.map cmpT)]
  exact List.map_congr_left (fun z _=>ofL_data z)
theorem listT_bar {l:List CmpT} (h:goodL l):∀ b∈listT l,b≠124:=by
 intro b hb
 rcases mem_join hb with ⟨x,hx,hbx⟩|hb
 ·obtain⟨z,hz,rfl⟩:=List.mem_map.1 hx
  obtain⟨w,hw,rfl⟩:=List.mem_map.1 hz
  exact(cmpT_clean (h.2.2 w hw) b hbx).2
 ·rw[List.mem_singleton.1 hb];decide
theorem join_last {sep:List UInt8} {p:UInt8→Prop}:∀ {l:List (List UInt8)},l≠[]→(∀ x∈l,∃ u b,x=u++[b]∧p b)→∃ u b,Lib.join l sep=u++[b]∧p b
 | [],h,_=>absurd rfl h
 | [x],_,h=>by rw[Lib.join_one];exact h x (by simp)
 | x :: y :: r,_,h=>by
  obtain⟨u,b,e,hb⟩:=join_last (sep:=sep) (l:=y :: r) (by simp) (fun z hz=>h z (List.mem_cons_of_mem _ hz))
  exact⟨x++sep++u,b,by rw[join_two,e];simp,hb⟩
theorem listT_ends {l:List CmpT} (h:goodL l):(∃ d t,listT l=d :: t∧d≠32)∧∃ u b,listT l=u++[b]∧b≠32:=by
 obtain⟨hne,h4,hg⟩:=h
 constructor
 ·cases l with
  | nil=>exact absurd rfl hne
  | cons x r=>
   obtain⟨d,t,e,hd⟩:=cmpT_cons (hg x (by simp))
   unfold listT
   simp only[List.map_cons]
   rw[Lib.join_cons,e]
   exact⟨d,_,rfl,by rcases hd with rfl|rfl|rfl <;> decide⟩
 ·refine join_last (by simpa using hne) (fun x hx=>?_)
  obtain⟨z,hz,rfl⟩:=List.mem_map.1 hx
  obtain⟨w,hw,rfl⟩:=List.mem_map.1 hz
  obtain⟨d,t,e,_⟩:=cmpT_cons (hg w hw)
  have hn:(cmpT w).data.toList≠[]:=by rw[e];simp
  exact⟨_,_,(List.dropLast_concat_getLast hn).symm,(cmpT_clean (hg w hw) _ (List.getLast_mem hn)).1⟩
theorem trim_back {t:List UInt8} (h1:∃ d r,t=d :: r∧d≠32) (h2:∃ u b,t=u++[b]∧b≠32) (x y:List UInt8) (hx:∀ b∈x,b=32) (hy:∀ b∈y,b=32):Lib.trimB (x++t++y) 32=t:=by
 have skip:∀ (x t:List UInt8),(∀ b∈x,b=32)→(∃ d r,t=d :: r∧d≠32)→(x++t).dropWhile (· == 32)=t:=by
  intro x t hx ⟨d,r,e,hd⟩
  subst e
  induction x with
  | nil=>rw[List.nil_append,List.dropWhile_cons_of_neg (by simpa using hd)]
  | cons a x ih=>
   obtain rfl:=hx a (by simp)
   rw[List.cons_append,List.dropWhile_cons_of_pos (by simp)]
   exact ih (fun b hb=>hx b (by simp[hb]))
 unfold Lib.trimB Lib.trimLeftB Lib.trimRightB
 have e:(x++t++y).reverse=y.reverse++(x++t).reverse:=by rw[List.reverse_append]
 obtain⟨u,b,eu,hb⟩:=h2
 rw[e,skip y.reverse (x++t).reverse (fun b hb=>hy b (List.mem_reverse.1 hb)) ⟨b,(x++u).reverse,by rw[eu,← List.append_assoc,List.reverse_append];rfl,hb⟩,List.reverse_reverse]
 exact skip x t hx h1
theorem side_back {l:List CmpT} (h:goodL l) (x y:List UInt8) (hx:∀ b∈x,b=32) (hy:∀ b∈y,b=32):sideC (ofL (x++listT l++y))=some l:=by
 have he:=listT_ends h
 unfold sideC trimQ
 rw[data_ofL,trim_back he.1 he.2 x y hx hy,pieces_list h,list_back h]
theorem split_bar_app:∀ (u r:List UInt8),(∀ b∈u,b≠124)→Lib.split (u++124 :: 124 :: r) [124,124]=u :: Lib.split r [124,124]
 | [],r,_=>split_bars r
 | [b],r,h=>by
  show Lib.split (b :: 124 :: 124 :: r) [124,124]=_
  rw[split_nobar _ (fun e=>h b (by simp) e.1),split_bars]
  rfl
 | b :: c :: u,r,h=>by
  show Lib.split (b :: c :: (u++124 :: 124 :: r)) [124,124]=_
  rw[split_nobar _ (fun e=>h b (by simp) e.1),show c :: (u++124 :: 124 :: r)=(c :: u)++124 :: 124 :: r from rfl,split_bar_app (c :: u) r (fun x hx=>h x (List.mem_cons_of_mem _ hx))]
  rfl
theorem split_bar_alone:∀ u:List UInt8,(∀ b∈u,b≠124)→Lib.split u [124,124]=[u]
 | [],_=>split_short (by simp)
 | [b],_=>split_short (by simp)
 | b :: c :: u,h=>by
  rw[split_nobar _ (fun e=>h b (by simp) e.1),split_bar_alone (c :: u) (fun x hx=>h x (List.mem_cons_of_mem _ hx))]
  rfl
theorem blank_bar {u:List UInt8} (hu:∀ b∈u,b≠124) (x y:List UInt8) (hx:∀ b∈x,b=32) (hy:∀ b∈y,b=32):∀ b∈x++u++y,b≠124:=by
 intro b hb
 rcases List.mem_append.1 hb with hb|hb
 ·rcases List.mem_append.1 hb with hb|hb
  ·rw[hx b hb];decide
  ·exact hu b hb
 ·rw[hy b hb];decide
theorem sides_back:∀ (r:List (List CmpT)) (x:List UInt8),(∀ b∈x,b=32)→r≠[]→(∀ l∈r,goodL l) →
  ((Lib.split (x++Lib.join (r.map listT) [32,124,124,32]) [124,124]).length=r.length∧sidesC ((Lib.split (x++Lib.join (r.map listT) [32,124,124,32]) [124,124]).map ofL)=some r)
 | [],x,_,h,_=>absurd rfl h
 | [l],x,hx,_,hg=>by
  have hb:=listT_bar (hg l (by simp))
  have hs:=side_back (hg l (by simp)) x [] hx (by simp)
  rw[List.append_nil] at hs
  rw[List.map_cons,List.map_nil,Lib.join_one,split_bar_alone _ (by have:=blank_bar hb x [] hx (by simp);rwa [List.append_nil] at this)]
  refine⟨rfl,?_⟩
  simp only[List.map_cons,List.map_nil,sidesC,hs,Option.bind_some,Option.map_some]
 | l :: m :: r,x,hx,_,hg=>by
  have hb:=listT_bar (hg l (by simp))
  have hs:=side_back (hg l (by simp)) x [32] hx (by simp)
  have ih:=sides_back (m :: r) [32] (by simp) (by simp) (fun l hl=>hg l (List.mem_cons_of_mem _ hl))
  have e:x++Lib.join ((l :: m :: r).map listT) [32,124,124,32]=(x++listT l++[32])++124 :: 124 :: ([32]++Lib.join ((m :: r).map listT) [32,124,124,32]):=by
   simp only[List.map_cons]
   rw[join_two]
   simp
  rw[e,split_bar_app _ _ (blank_bar hb x [32] hx (by simp))]
  refine⟨by rw[List.length_cons,ih.1];rfl,?_⟩
  simp only[List.map_cons (l:=Lib.split _ _),sidesC,hs,Option.bind_some]
  rw[ih.2]
  rfl
theorem range_text {r:List (List CmpT)} (h:∀ l∈r,goodL l):(rangeT r).data.toList=Lib.join (r.map listT) [32,124,124,32]:=by
 unfold rangeT joinB
 rw[data_ofL,show or4.data.toList=[32,124,124,32] from rfl]
 congr 1
 unfold dats
 rw[List.map_map]
 refine List.map_congr_left (fun l hl=>?_)
 show (ofL (Lib.join (dats (cmpsP l)) sp1.data.toList)).data.toList=listT l
 rw[data_ofL,cmps_map (h l hl).2.2]
 rfl
theorem range_back {r:List (List CmpT)} (h4:r.length≤4) (hne:r≠[]) (h:∀ l∈r,goodL l):rangeC (rangeT r)=some r:=by
 have hs:=sides_back r [] (by simp) hne h
 rw[List.nil_append,← range_text h] at hs
 unfold rangeC piecesB
 rw[show bar2.data.toList=[124,124] from rfl,if_pos (by rw[List.length_map,hs.1];exact h4)]
 exact hs.2
theorem makeC_ops (sg:List UInt8) (p:PartR):∀ x∈makeC sg p,0≤x.f0∧x.f0≤4:=by
 intro x hx
 unfold makeC fromC caretC lowC mkC at hx
 split at hx
 ·split at hx
  ·simp at hx;rcases hx with rfl|rfl <;> exact⟨by simp,by simp⟩
  ·split at hx <;> (simp at hx;rcases hx with rfl|rfl <;> exact⟨by simp,by simp⟩)
 split at hx
 ·simp at hx;rcases hx with rfl|rfl <;> exact⟨by simp,by simp⟩
 split at hx
 ·simp at hx;rw[hx];exact⟨by simp,by simp⟩
 split at hx
 ·simp at hx;rw[hx];exact⟨by simp,by simp⟩
 split at hx
 ·split at hx <;> (simp at hx;rw[hx];exact⟨by simp,by simp⟩)
 split at hx
 ·split at hx <;> (simp at hx;rw[hx];exact⟨by simp,by simp⟩)
 split at hx
 ·simp at hx;rw[hx];exact⟨by simp,by simp⟩
 ·simp at hx;rcases hx with rfl|rfl <;> exact⟨by simp,by simp⟩
theorem wordGo_ops (w:List UInt8):∀ l,∀ x∈(wordGo w l).1,0≤x.f0∧x.f0≤4
 | [],x,h=>by simp[wordGo] at h
 | g :: r,x,h=>by
  unfold wordGo at h
  split at h
  ·split at h
   ·exact makeC_ops _ _ x h
   ·simp at h
  ·exact wordGo_ops w r x h
theorem wordC_ops (w:ByteArray):∀ x∈(wordC w).1,0≤x.f0∧x.f0≤4:=by
 intro x h
 unfold wordC at h
 split at h
 ·simp at h;rw[h];exact⟨by simp[mkC],by simp[mkC]⟩
 ·exact wordGo_ops _ _ x h
theorem wordGo_ne (w:List UInt8):∀ l,(wordGo w l).2=true→(wordGo w l).1≠[]
 | [],h=>by simp[wordGo] at h
 | g :: r,h=>by
  unfold wordGo at h ⊢
  split at h
  next hp=>
   split at h
   next hq=>
    rw[if_pos hp,if_pos hq]
    have:=(makeC_length g (partB (ofL (w.drop g.length)))).1
    intro e
    have e':makeC g (partB (ofL (w.drop g.length)))=[]:=e
    rw[e'] at this
    simp at this
   next=>cases h
  next hp=>
   rw[if_neg hp]
   exact wordGo_ne w r h
theorem wordC_ne (w:ByteArray) (h:(wordC w).2=true):(wordC w).1≠[]:=by
 unfold wordC at h ⊢
 split at h
 next hp=>rw[if_pos hp];simp
 next hp=>rw[if_neg hp];exact wordGo_ne _ _ h
theorem wordsC_ops:∀ {l:List ByteArray} {out:List CmpT},wordsC l=some out→∀ x∈out,0≤x.f0∧x.f0≤4
 | [],out,h,x,hx=>by
  obtain rfl:=Option.some.inj h
  cases hx
 | w :: r,out,h,x,hx=>by
  unfold wordsC at h
  split at h
  next=>
   obtain⟨o,ho,rfl⟩:=Option.map_eq_some_iff.1 h
   rcases List.mem_append.1 hx with hx|hx
   ·exact wordC_ops w x hx
   ·exact wordsC_ops ho x hx
  next=>cases h
theorem wordsC_ne:∀ {l:List ByteArray} {out:List CmpT},l≠[]→wordsC l=some out→out≠[]
 | [],_,hl,_=>absurd rfl hl
 | w :: r,out,_,h=>by
  unfold wordsC at h
  split at h
  next hw=>
   obtain⟨o,ho,rfl⟩:=Option.map_eq_some_iff.1 h
   intro e
   exact wordC_ne w hw (List.append_eq_nil_iff.1 e).1
  next=>cases h
theorem words_good {ws:List ByteArray} {l:List CmpT} (hne:ws≠[]) (h:((wordsC ws).bind fun out=>if out.all okV=true∧out.length≤4 then some out else none)=some l):goodL l:=by
 obtain⟨o,ho,h⟩:=Option.bind_eq_some_iff.1 h
 split at h
 next hc=>
  obtain rfl:=Option.some.inj h
  exact⟨wordsC_ne hne ho,hc.2,fun x hx=>⟨List.all_eq_true.1 hc.1 x hx,wordsC_ops ho x hx⟩⟩
 next=>cases h
theorem list_good {ws:List ByteArray} {l:List CmpT} (hne:ws≠[]) (h:listC ws=some l):goodL l:=by
 unfold listC at h
 split at h
 next a m b=>
  split at h
  ·split at h
   next hc=>
    obtain rfl:=Option.some.inj h
    refine⟨by simp,by simp,fun x hx=>?_⟩
    simp at hx
    rcases hx with rfl|rfl
    ·exact⟨parseV_ok hc.1,by simp[verC,mkC],by simp[verC,mkC]⟩
    ·exact⟨parseV_ok hc.2,by simp[verC,mkC],by simp[verC,mkC]⟩
   next=>cases h
  ·exact words_good hne h
 next=>exact words_good hne h
theorem sides_good:∀ {ps:List ByteArray} {r:List (List CmpT)},sidesC ps=some r→r.length=ps.length∧∀ l∈r,goodL l
 | [],r,h=>by
  obtain rfl:=Option.some.inj h
  exact⟨rfl,fun l hl=>by cases hl⟩
 | p :: ps,r,h=>by
  unfold sidesC at h
  obtain⟨x,hx,h⟩:=Option.bind_eq_some_iff.1 h
  obtain⟨o,ho,rfl⟩:=Option.map_eq_some_iff.1 h
  have ih:=sides_good ho
  refine⟨by rw[List.length_cons,List.length_cons,ih.1],fun l hl=>?_⟩
  rcases List.mem_cons.1 hl with rfl|hl
  ·exact list_good (pieces_ne _ _) hx
  ·exact ih.2 l hl
theorem range_good {s:ByteArray} {r:List (List CmpT)} (h:rangeC s=some r):r.length≤4∧r≠[]∧∀ l∈r,goodL l:=by
 unfold rangeC at h
 split at h
 next hc=>
  have:=sides_good h
  refine⟨by omega,fun e=>?_,this.2⟩
  have h1:=this.1
  rw[e] at h1
  exact pieces_ne s bar2 (List.length_eq_zero_iff.1 h1.symm)
 next=>cases h
def Few (n:Nat) (l:List ByteArray):Prop:=l.length≤n∧∀ x∈l,x.size≤9
theorem Few.mono {m n:Nat} {l:List ByteArray} (h:Few m l) (hmn:m≤n):Few n l:=⟨Nat.le_trans h.1 hmn,h.2⟩
theorem Few.nil (n:Nat):Few n []:=⟨Nat.zero_le _,fun _ h=>by cases h⟩
theorem Few.snoc {n:Nat} {l:List ByteArray} {x:ByteArray} (h:Few n l) (hx:x.size≤9):Few (n+1) (l++[x]):=by
 refine⟨by rw[List.length_append];have:=h.1;simp;omega,fun y hy=>?_⟩
 rcases List.mem_append.1 hy with hy|hy
 ·exact h.2 y hy
 ·rw[List.mem_singleton.1 hy];exact hx
theorem draw_ver (b:List Int) (i h:Int) (hc:Cur b i):Got (fun k=>spec_l3Draw.f k b i h) fun r=>Few 2 r.2.2.2.1∧Cur b r.2.2.2.2.1:=by
 unfold spec_l3Draw.f
 refine Got.bind (draw_below b i h 3 (by omega) (by omega) hc) fun r1 h1=>?_
 refine Got.bind (draw_below b _ _ 3 (by omega) (by omega) h1.2) fun r2 h2=>?_
 refine Got.bind (draw_below b _ _ 3 (by omega) (by omega) h2.2) fun r3 h3=>?_
 refine Got.bind (draw_once b _ _ 3 (by omega) (by omega) h3.2) fun r4 h4=>?_
 refine Got.cond (fun _=>?_) (fun _=>Got.some ⟨Few.nil _,h4⟩)
 refine Got.bind (draw_str b _ _ _ (by simp) (by simp) h4) fun r5 h5=>?_
 have z5:r5.1.size≤9:=by
  have hm:=h5.1
  simp only[List.mem_cons,List.not_mem_nil,or_false] at hm
  rcases hm with e|e|e|e|e|e <;> rw[e] <;> decide
 simp only[List.length_nil,show (0:Nat)<8796093022208 by omega,if_true,Option.bind_some,List.nil_append]
 refine Got.bind (draw_once b _ _ 3 (by omega) (by omega) h5.2) fun r6 h6=>?_
 refine Got.cond (fun _=>?_) (fun _=>Got.some ⟨(Few.snoc (Few.nil 1) z5:Few 2 ([]++[r5.1])),h6⟩)
 refine Got.bind (draw_str b _ _ _ (by simp) (by simp) h6) fun r7 h7=>?_
 have z7:r7.1.size≤9:=by
  have hm:=h7.1
  simp only[List.mem_cons,List.not_mem_nil,or_false] at hm
  rcases hm with e|e|e <;> rw[e] <;> decide
 simp only[List.length_cons,List.length_nil,show (0+1:Nat)<8796093022208 by omega,if_true]
 exact Got.some ⟨Few.snoc (Few.snoc (Few.nil 0) z5) z7,h7.2⟩
theorem draw_any (b:List Int) (i h:Int) (hc:Cur b i):Got (fun k=>spec_l3Any.f k b i h) fun r=>Few 4 r.2.2.2.1∧Cur b r.2.2.2.2.1:=by
 unfold spec_l3Any.f
 refine Got.bind (draw_ver b i h hc) fun r hr=>?_
 have hlen:=hr.1.1
 refine Got.bind (draw_below b _ _ 8 (by omega) (by omega) hr.2) fun r1 h1=>?_
 refine Got.cond (fun _=>?_) (fun _=>?_)
 ·exact Got.bind (draw_int b _ _ _ (by simp) (by simp) h1.2) fun r2 h2=>Got.some ⟨hr.1.mono (by omega),h2.2⟩
 refine Got.cond (fun _=>?_) (fun _=>?_)
 ·exact Got.bind (draw_int b _ _ _ (by simp) (by simp) h1.2) fun r2 h2=>Got.some ⟨hr.1.mono (by omega),h2.2⟩
 refine Got.cond (fun _=>?_) (fun _=>?_)
 ·refine Got.bind (draw_str b _ _ _ (by simp) (by simp) h1.2) fun r2 h2=>?_
  have z2:r2.1.size≤9:=by
   have hm:=h2.1
   simp only[List.mem_cons,List.not_mem_nil,or_false] at hm
   rcases hm with e|e|e|e|e|e <;> rw[e] <;> decide
  simp only[show r.2.2.2.1.length<8796093022208 by omega,if_true]
  exact Got.some ⟨(hr.1.snoc z2).mono (by omega),h2.2⟩
 refine Got.cond (fun _=>?_) (fun _=>Got.some ⟨hr.1.mono (by omega),h1.2⟩)
 simp only[Option.bind_some]
 refine Got.bind (draw_int b _ _ _ (by simp) (by simp) h1.2) fun r2 h2=>?_
 have hm:=h2.1
 simp only[List.mem_cons,List.not_mem_nil,or_false] at hm
 have h0:0≤r2.1∧r2.1≤4:=by omega
 simp only[h0.1,if_true,List.length_cons,List.length_nil,show r2.1≤((0+1+1+1+1:Nat):Int) by omega]
 refine Got.some ⟨⟨by rw[List.length_take];exact Nat.min_le_right _ _,fun x hx=>?_⟩,h2.2⟩
 have:=List.mem_of_mem_take hx
 simp only[List.mem_cons,List.not_mem_nil,or_false] at this
 rcases this with e|e|e|e <;> rw[e] <;> decide
theorem copy_ver (a b c:Int) (l:List ByteArray) (h:l.length≤1000000):spec_l3Copy.f a b c l=some (a,b,c,l):=by
 unfold spec_l3Copy.f
 simp[show l.length<8796093022208 by omega]
theorem Few.len {n:Nat} {l:List ByteArray} (h:Few n l) (hn:n≤1000):l.length≤9223372036854775807:=by have:=h.1;omega
theorem Few.short {n:Nat} {l:List ByteArray} (h:Few n l):∀ x∈l,x.size≤9223372036854775807:=fun x hx=>by have:=h.2 x hx;omega
theorem joinN_cons (x:ByteArray) (r:List ByteArray) (sep:ByteArray):joinN (x :: r) sep=sep.size+x.size+joinN r sep:=by
 unfold joinN
 simp[dats,Lib.lens,Nat.mul_succ]
 omega
theorem joinN_few:∀ {n:Nat} {l:List ByteArray},Few n l→joinN l dot≤10*n
 | n,[],_=>by simp[joinN,dats,Lib.lens]
 | 0,x :: r,h=>by have:=h.1;simp at this
 | n+1,x :: r,h=>by
  have ih:=joinN_few (n:=n) (l:=r) ⟨by have:=h.1;simp at this;omega,fun y hy=>h.2 y (by simp[hy])⟩
  have hx:=h.2 x (by simp)
  rw[joinN_cons,show dot.size=1 from rfl]
  omega
theorem lawTexts_l (a b:List ByteArray) (hl:a.length≤9223372036854775807) (hab:a.length=b.length) (d:Nat):∀ i:Nat,i+d=a.length →
  Ev (fun k=>laws_sameTexts.l0 k a b (i:Int)) (decide (a.drop i=b.drop i)):=by
 induction d with
 | zero=>
  intro i hi
  have h1:¬(i:Int)<(a.length:Int):=by omega
  refine Ev.succ ?_
  rw[List.drop_eq_nil_of_le (by omega),List.drop_eq_nil_of_le (by omega)]
  simp only[laws_sameTexts.l0,h1,if_false,decide_true]
  exact Ev.some
 | succ d ih=>
  intro i hi
  have hlt:i<a.length:=by omega
  have hlb:i<b.length:=by omega
  have h1:(i:Int)<(a.length:Int):=by omega
  have h1b:(i:Int)<(b.length:Int):=by omega
  have h2:(0:Int)≤(i:Int):=by omega
  have h3:=next_i hlt hl
  refine Ev.succ ?_
  rw[drop_get hlt,drop_get hlb]
  simp only[laws_sameTexts.l0,h1,h1b,h2,h3,if_true,rdOf_cast _ hlt,rdOf_cast _ hlb,toList_inj]
  by_cases h:a[i]=b[i]
  ·simp only[h,if_true,List.cons.injEq,true_and]
   exact ih (i+1) (by omega)
  ·simp only[h,if_false,List.cons.injEq,false_and,decide_false]
   exact Ev.some
theorem lawTexts (a b:List ByteArray) (hl:a.length≤9223372036854775807):Ev (fun k=>laws_sameTexts.f k a b) (decide (a=b)):=by
 unfold laws_sameTexts.f
 by_cases h:(a.length:Int)=(b.length:Int)
 ·simp only[h,if_true]
  refine Ev.succ ?_
  simp only[laws_sameTexts.j0]
  exact lawTexts_l a b hl (by omega) a.length 0 (by omega)
 ·simp only[h,if_false]
  refine Ev.cast Ev.some ?_
  rw[eq_comm,decide_eq_false_iff_not]
  exact fun e=>h (by rw[e])
theorem lawVer (a b c:Int) (l:List ByteArray) (hl:l.length≤9223372036854775807):Ev (fun k=>laws_sameVer.f k a b c l a b c l) true:=by
 unfold laws_sameVer.f
 simp only[if_true]
 refine Ev.bind (lawTexts l l hl) ?_
 simp only[decide_true]
 exact Ev.some
end Go.Proofs.YtglhniiabhknoaaGreatDoor.Pure

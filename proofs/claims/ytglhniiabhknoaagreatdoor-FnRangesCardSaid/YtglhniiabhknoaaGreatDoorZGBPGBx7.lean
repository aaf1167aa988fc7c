/- The walks of the functions that these laws reach, and what each comes to: printed by this session's program. -/
import Derived.Test.YtglhniiabhknoaaGreatDoorZGBPGBx0
import Derived.Test.YtglhniiabhknoaaGreatDoorZGBPGBx4
import Derived.Test.YtglhniiabhknoaaGreatDoorZGBSays
import Derived.Deep.CutBlock
namespace Go.Proofs.YtglhniiabhknoaaGreatDoor.PGB
open Go.RowKit YtglhniiabhknoaaGreatDoorW.PrintWords YtglhniiabhknoaaGreatDoorW.PrintLast YtglhniiabhknoaaGreatDoorW.PrintMore
attribute [local go_sem high] Mine.str_gtr Mine.str_leq Mine.str_geq
attribute [local go_sem] max2_int min2_int max_two min_two max_three min_three max_four min_four   -- for this text's walks alone
set_option linter.unusedVariables false
set_option maxHeartbeats 8000000
set_option maxRecDepth 100000
set_option linter.unusedSimpArgs false
/-! ### impl_ParseNum: function 135 -/
mutual
def impl_ParseNum.j0:Nat→ByteArray→Int→Option (Int × Bool)
 | 0,_,_=>none
 | k+1,x0,x1=>impl_ParseNum.l0 k x0 x1 0 0
def impl_ParseNum.l0:Nat→ByteArray→Int→Int→Int→Option (Int × Bool)
 | 0,_,_,_,_=>none
 | k+1,x0,x1,x6,x7=>if x7<(x0.size:Int) then (if 0≤x7 then ((impl_isFigure.f (bt x0 x7)).bind fun a0=>(if a0=true then (impl_ParseNum.l0 k x0 x1 (wrap64 ((wrap64 (x6*10))+(((bt x0 x7)-48) % 256))) (wrap64 (x7+1))) else (some (0,false)))) else (none)) else ((impl_NumText.f x6).bind fun a1=>(if a1.toList=x0.toList then (if x6>x1 then (some (0,false)) else (some (x6,true))) else (some (0,false))))
end
def impl_ParseNum.f (k:Nat) (a0:ByteArray) (a1:Int):Option (Int × Bool):=(impl_inRange.f (a0.size:Int) 1 7).bind fun a2=>(if a2=true then (impl_ParseNum.j0 k a0 a1) else (some (0,false)))
theorem impl_ParseNum.calls (k:Nat) (a0:ByteArray) (a1 r1:Int) (r2:Bool) (w:World) (hG:GW w) (h:impl_ParseNum.f k a0 a1=some (r1,r2)) :
  Calls Tryz.prog 135 #[.string a0,.int .i64 a1] w fun e w'=>e=.returned (.tuple #[.int .i64 r1,.bool r2])∧Below w.heap.size w w':=by
 have HG:=zA hG;clear hG;have HB:=zA (Below.refl w.heap.size w);unfold impl_ParseNum.f at h;have H:=h;clear h;replace H:=Option.bind_eq_some_iff.mp H;obtain⟨b7,a9,H⟩:=H;(try dsimp only at H);have A3:=zA a9;clear a9;have a6:=zA H;clear H;go_enter Tryz.func135,Tryz.ntmps135;go_upto_if 11 with (first|((with_reducible refine zq 94 ?_);refine zg (some 10) Tryz.func94 #[.int .i64 (a0.size:Int),.int .i64 1,.int .i64 7] ?_;(with_reducible refine(impl_inRange.calls (a0.size:Int) 1 7 b7 _ A3.out).mono ?_);rintro e w' ⟨rfl,⟨nd,rfl⟩⟩;refine⟨_,rfl,?_⟩))
 (try simp only[Act.put,zT]);go_cut [] (fun wc=>∃ (kq:Nat),Aside0 (impl_ParseNum.j0 kq a0 a1=some (r1,r2))∧Aside0 (kq≤k)∧Aside0 (Below w.heap.size w wc))
 case first=>
  have H:=a6.out;clear a6;replace H:=zB0 H;rcases H with ⟨rfl,H⟩|⟨rfl,H⟩
  ·have H':=zA H;clear H;go_wp2;go_meet
   case rel=>exact⟨_,(by first|exact H'|(subst_vars;exact H')),⟨by first|omega|exact Nat.le_refl _⟩,⟨zB⟩⟩
  simp only[zU] at H;obtain⟨rfl,rfl⟩:=H;go_wp2;go_ret2;exact⟨zE,zB⟩
 case rest=>
  clear a6;obtain⟨kq,HA,b0,HB⟩:=hcut;cases kq with
  | zero=>exact absurd HA.out (by simp[impl_ParseNum.j0])
  | succ b1=>
   have H:=HA.out;clear HA;simp only[impl_ParseNum.j0] at H;have H':=zA H;clear H;go_wp2;go_loopg [6,7] b1 (fun kq v6 v7 w'=>∃ (a3:Int) (a2:Int),v6=.int .i64 a3∧v7=.int .i64 a2∧Aside0 (impl_ParseNum.l0 kq a0 a1 a3 a2=some (r1,r2))∧Aside0 (kq≤b1)∧Aside0 (Below w.heap.size w w'))
   case atStart=>exact⟨(0),(0),zS,zS,H',⟨Nat.le_refl _⟩,⟨zB⟩⟩
   case round=>
    clear H';obtain⟨a3,a2,rfl,rfl,HA,b2,HB⟩:=hrel;cases gk with
    | zero=>exact absurd HA.out (by simp[impl_ParseNum.l0])
    | succ k2=>
     have H:=HA.out;clear HA;simp only[impl_ParseNum.l0] at H;replace H:=zI0 H;rcases H with ⟨b8,H⟩|⟨b8,H⟩
     ·replace H:=zD0 H;obtain⟨c4,H⟩:=H;replace H:=Option.bind_eq_some_iff.mp H;obtain⟨c6,b3,H⟩:=H;(try dsimp only at H);have A9:=zA b3;clear b3;replace H:=zB0 H;rcases H with ⟨rfl,H⟩|⟨rfl,H⟩
      ·have H':=zA H;clear H;have p8:0≤(a2:Int):=zD;have q8:a2<(a0.size:Int):=zD;have b9:=bt_at a0 a2;replace p8:=eq_true p8;replace q8:=eq_true q8;go_wp2_with (first|((with_reducible refine zq 116 ?_);refine zg (some 21) Tryz.func116 #[.int .u8 (bt a0 a2)] ?_;(with_reducible refine(impl_isFigure.calls (bt a0 a2) true _ A9.out).mono ?_);rintro e w' ⟨rfl,⟨nd,rfl⟩⟩;refine⟨_,rfl,?_⟩;have b4:0≤(a2:Int):=zD;have b5:a2<(a0.size:Int):=zD;have c7:=bt_at a0 a2;replace b4:=eq_true b4;replace b5:=eq_true b5))
       go_roundg k2
       case measure=>have:=b0.out;have:=b2.out;omega
       case rel=>exact⟨(wrap64 ((wrap64 (a3*10))+(((bt a0 a2)-48) % 256))),(wrap64 (a2+1)),zS,zS,H',⟨by have:=b0.out;have:=b2.out;omega⟩,⟨zB⟩⟩
      simp only[zU] at H;obtain⟨rfl,rfl⟩:=H;have p8:0≤(a2:Int):=zD;have q8:a2<(a0.size:Int):=zD;have b9:=bt_at a0 a2;replace p8:=eq_true p8;replace q8:=eq_true q8;go_wp2_with (first|((with_reducible refine zq 116 ?_);refine zg (some 21) Tryz.func116 #[.int .u8 (bt a0 a2)] ?_;(with_reducible refine(impl_isFigure.calls (bt a0 a2) false _ A9.out).mono ?_);rintro e w' ⟨rfl,⟨nd,rfl⟩⟩;refine⟨_,rfl,?_⟩))
      go_ret2;exact⟨zE,zB⟩
     replace H:=Option.bind_eq_some_iff.mp H;obtain⟨a7,b6,H⟩:=H;(try dsimp only at H);have a8:=zA b6;clear b6;replace H:=zI1 H;rcases H with ⟨a4,H⟩|⟨a4,H⟩
     ·have c0:=beq_iff_eq.mpr a4;have c2:=bne_eq_false_iff_eq.mpr a4;clear a4;replace H:=zI1 H;rcases H with ⟨a5,H⟩|⟨a5,H⟩
      ·have c3:decide (a1<a3)=true:=decide_eq_true a5;clear a5;simp only[zU] at H;obtain⟨rfl,rfl⟩:=H;go_wp2_with (first|((with_reducible refine zq 102 ?_);refine zg (some 32) Tryz.func102 #[.int .i64 a3] ?_;(with_reducible refine(impl_NumText.calls a3 a7 _ ?s1 a8.out).mono ?_);(case s1=>exact GW.below HG.out (zB));rintro e c8 ⟨rfl,hb⟩;refine⟨_,rfl,?_⟩;replace HB:=zA (below_step (zB) hb);(try clear hb)))
       go_ret2;exact⟨zE,zB⟩
      have c3:decide (a1<a3)=false:=decide_eq_false a5;clear a5;simp only[zU] at H;obtain⟨rfl,rfl⟩:=H;go_wp2_with (first|((with_reducible refine zq 102 ?_);refine zg (some 32) Tryz.func102 #[.int .i64 a3] ?_;(with_reducible refine(impl_NumText.calls a3 a7 _ ?s1 a8.out).mono ?_);(case s1=>exact GW.below HG.out (zB));rintro e c9 ⟨rfl,hb⟩;refine⟨_,rfl,?_⟩;replace HB:=zA (below_step (zB) hb);(try clear hb)))
      go_ret2;exact⟨zE,zB⟩
     have c0:=beq_eq_false_iff_ne.mpr a4;have c2:=bne_iff_ne.mpr a4;simp only[zU] at H;obtain⟨rfl,rfl⟩:=H;go_wp2_with (first|((with_reducible refine zq 102 ?_);refine zg (some 32) Tryz.func102 #[.int .i64 a3] ?_;(with_reducible refine(impl_NumText.calls a3 a7 _ ?s1 a8.out).mono ?_);(case s1=>exact GW.below HG.out (zB));rintro e d0 ⟨rfl,hb⟩;refine⟨_,rfl,?_⟩;replace HB:=zA (below_step (zB) hb);(try clear hb)))
     go_ret2;exact⟨zE,zB⟩
/-! ### impl_ParseVer: function 87 -/
def impl_ParseVer.no:Int × Int × Int × List ByteArray × Bool:=(0,0,0,[],false)
/-- The numbers are read: what stands behind the dash, and whether all is told so. -/
def impl_ParseVer.fin (k:Nat) (a0 pre:ByteArray) (has:Bool) (a b c:Int):Option (Int × Int × Int × List ByteArray × Bool):=
 if has=true then (strings_Split.f pre (⟨#[46]⟩:ByteArray)).bind fun q=>(impl_VerText.f k a b c q).bind fun t=>if t.toList=a0.toList then some (a,b,c,q,true) else some impl_ParseVer.no
 else (impl_VerText.f k a b c []).bind fun t=>if t.toList=a0.toList then some (a,b,c,[],true) else some impl_ParseVer.no
def impl_ParseVer.n1 (k:Nat) (a0 pre:ByteArray) (has:Bool) (ps:List ByteArray) (a b:Int):Option (Int × Int × Int × List ByteArray × Bool):=(impl_ParseNum.f k (rdOf ByteArray.empty ps 2) 9999).bind fun t=>if t.2=true then impl_ParseVer.fin k a0 pre has a b t.1 else some impl_ParseVer.no
def impl_ParseVer.n2 (k:Nat) (a0 pre:ByteArray) (has:Bool) (ps:List ByteArray) (a:Int):Option (Int × Int × Int × List ByteArray × Bool):=(impl_ParseNum.f k (rdOf ByteArray.empty ps 1) 9999).bind fun t=>if t.2=true then impl_ParseVer.n1 k a0 pre has ps a t.1 else some impl_ParseVer.no
def impl_ParseVer.n3 (k:Nat) (a0 pre:ByteArray) (has:Bool) (ps:List ByteArray):Option (Int × Int × Int × List ByteArray × Bool):=(impl_ParseNum.f k (rdOf ByteArray.empty ps 0) 9999).bind fun t=>if t.2=true then impl_ParseVer.n2 k a0 pre has ps t.1 else some impl_ParseVer.no
/-- So many numbers are still to be read; what is read so far. -/
def impl_ParseVer.rest (k:Nat) (a0 pre:ByteArray) (has:Bool) (ps:List ByteArray) (m:Nat) (a b c:Int):Option (Int × Int × Int × List ByteArray × Bool):=
 match m with
 | 0=>impl_ParseVer.fin k a0 pre has a b c
 | 1=>impl_ParseVer.n1 k a0 pre has ps a b
 | 2=>impl_ParseVer.n2 k a0 pre has ps a
 | _=>impl_ParseVer.n3 k a0 pre has ps
def impl_ParseVer.f (k:Nat) (a0:ByteArray):Option (Int × Int × Int × List ByteArray × Bool):=
 (strings_Cut.f a0 (⟨#[45]⟩:ByteArray)).bind fun t=>(strings_Split.f t.1 (⟨#[46]⟩:ByteArray)).bind fun ps=>if ps.length=3 then impl_ParseVer.n3 k a0 t.2.1 t.2.2 ps else some impl_ParseVer.no
theorem impl_ParseVer.calls (k:Nat) (a0:ByteArray) (r1 r2 r3:Int) (r4:List ByteArray) (r5:Bool) (w:World) (hG:GW w) (h:impl_ParseVer.f k a0=some (r1,r2,r3,r4,r5)) :
  Calls Tryz.prog 87 #[.string a0] w fun e w'=>∃ c4:Value,e=.returned (.tuple #[.agg #[.int .i64 r1,.int .i64 r2,.int .i64 r3,c4],.bool r5])∧Kd.R Kd.string 9 w' w.heap.size (fun _=>True) c4 r4∧Below w.heap.size w w':=by
 have hu_:=Tryz.underlying30;have HG:=zA hG;have HB:=zA (Below.refl w.heap.size w);clear hG;unfold impl_ParseVer.f at h;replace h:=Option.bind_eq_some_iff.mp h;obtain⟨t,hcut,h⟩:=h;replace h:=Option.bind_eq_some_iff.mp h;obtain⟨ps,hsplit,h⟩:=h;obtain⟨num,pre,has⟩:=t;have CUT:=zA hcut;have SPL:=zA hsplit;clear hcut hsplit;by_cases hlen:ps.length=3
 ·rw[if_pos hlen] at h;have REST:=zA h;have LEN:=zA hlen;have d4:((ps.length:Int) == 3)=true:=by rw[hlen];rfl
  have hl3':((ps.length:Int) != 3)=false:=by rw[hlen];rfl
  clear h hlen;go_enter Tryz.func87,Tryz.ntmps87
  go_wp2_with (first
   | ((with_reducible refine gate_dst (N:=2) rfl ?_);refine box_event ?hg (N:=2) ?hd (cs:=#[.int .i64 0,.int .i64 0,.int .i64 0,.slice none 0 0]) (t:=30) ?hr ?_;(case hd=>rfl);(case hg=>rfl);(case hr=>first|(go_simp;done)|(go_simp;rfl));intro gr hg w1 hbox hb;have a1:=zA (below_step HB.out hb);have BR:=zA hbox;have GR:=zA ((by rw[hg];exact Nat.le_refl _):w.heap.size≤gr);clear HB;have HB:=a1;clear a1;clear hb hbox hg)
   | (go_at_call 134;(with_reducible refine(strings_Cut.calls a0 (⟨#[45]⟩:ByteArray) num pre has _ ?hgw CUT.out).mono ?_);(case hgw=>exact GW.below HG.out HB.out);rintro e w2 ⟨rfl,hb⟩;have a1:=zA (below_step HB.out hb);have a2:=zA (blk_below BR.out hb);clear HB BR;have HB:=a1;have BR:=a2;clear a1 a2 hb)
   | (go_at_call 41;(with_reducible refine(strings_Split.calls num (⟨#[46]⟩:ByteArray) ps _ ?hgw SPL.out).mono ?_);(case hgw=>exact GW.below HG.out HB.out);rintro e w3 ⟨v3,rfl,ho,hb⟩;have a1:=zA (below_step HB.out hb);have a2:=zA (blk_below BR.out hb);have HO:=zA (Kd.R_lower ho (below_size HB.out));clear HB BR;have HB:=a1;have BR:=a2;clear a1 a2 hb ho;obtain⟨Ao,co,eo⟩:=Kd.R_slice HO.out;subst eo)
   | ((with_reducible refine gate_dst (N:=8) rfl ?_);refine box_event ?hg (N:=8) ?hd (cs:=#[.int .i64 0,.int .i64 0,.int .i64 0,.slice none 0 0]) (t:=30) ?hr ?_;(case hd=>rfl);(case hg=>rfl);(case hr=>first|(go_simp;done)|(go_simp;rfl));intro gv hg w4 hbox hb;have a1:=zA (below_step HB.out hb);have a2:=zA (blk_below BR.out hb);have a3:=zA (Kd.R_below HO.out hb);have BV:=zA hbox;have GV:=zA ((by rw[hg];exact below_size HB.out):w.heap.size≤gv);have NE:=zA ((by rw[hg];exact Nat.ne_of_lt (blk_lt BR.out)):gr≠gv);clear HB BR HO;have HB:=a1;have BR:=a2;have HO:=a3;clear a1 a2 a3;clear hb hbox hg))
  go_loopg [29] 3 (fun gg d5 wr=>∃ (m:Nat) (a b c:Int),m≤3∧m≤gg∧d5=.int .i64 ((3-m:Nat):Int)∧(m=3→a=0)∧(2≤m→b=0)∧(1≤m→c=0)∧Aside0 (impl_ParseVer.rest k a0 pre has ps m a b c=some (r1,r2,r3,r4,r5))∧Aside0 (Below w.heap.size w wr) ∧
   Aside0 (wr.heap[gr]?=some (.cells #[.int .i64 0,.int .i64 0,.int .i64 0,.slice none 0 0] 30 (0,0)))∧Aside0 (wr.heap[gv]?=some (.cells #[.int .i64 a,.int .i64 b,.int .i64 c,.slice none 0 0] 30 (0,0))) ∧
   Aside0 (Kd.string.R 9 wr w.heap.size (fun _=>True) (.slice Ao ps.length co) ps))
  case atStart=>exact⟨3,0,0,0,Nat.le_refl _,Nat.le_refl _,rfl,fun _=>rfl,fun _=>rfl,fun _=>rfl,REST,HB,BR,BV,HO⟩
  case round=>
   clear HB BR BV HO;obtain⟨m,a,b,c,d6,hmg,rfl,ha,c5,c3,REST,HB,BR,BV,HO⟩:=hrel;rcases m with _|_|_|m
   ·
    have H:=REST.out;clear REST;replace H:impl_ParseVer.fin k a0 pre has a b c=some (r1,r2,r3,r4,r5):=H;unfold impl_ParseVer.fin at H;cases has with
    | true=>
     simp only[if_true] at H;replace H:=Option.bind_eq_some_iff.mp H;obtain⟨q,hq,H⟩:=H;replace H:=Option.bind_eq_some_iff.mp H;obtain⟨t,ht,H⟩:=H;have SQ:=zA hq;have VT:=zA ht;clear hq ht;go_wp2_with (fail)
     (with_reducible refine(strings_Split.calls pre (⟨#[46]⟩:ByteArray) q _ ?hgw SQ.out).mono ?_);(case hgw=>exact GW.below HG.out (zW HB.out));rintro e w5 ⟨v5,rfl,ho,hb⟩;replace BR:=zb BR hb;replace BV:=zb BV hb;have HQ:=zA (Kd.R_lower ho (below_size (zW HB.out)));replace HB:=zh HB hb;clear HO ho hb;obtain⟨Aq,cq,eq_⟩:=Kd.R_slice HQ.out;subst eq_;have hnb:=NE.out;have hnc:=NE.out.symm;have a5:=zc0 BV.out;have a6:=zF BV.out 0;have a7:=zc1 BV.out;have a8:=zF BV.out 1;have a9:=zc2 BV.out;have b0:=zF BV.out 2;have b1:=zc3 BV.out;have b2:=zF BV.out 3;go_wp2_with (fail)
     (with_reducible refine(impl_VerText.calls k a b c _ _ q t _ ?s1 ?s2 ?hgw VT.out).mono ?_);(case s1=>exact(Kd.R_reads' (Kd.R_set (zR HQ.out) BV.out (by decide) _ _)).2.2);(case s2=>exact(Kd.R_reads' HQ.out).2.1);(case hgw=>exact GW.below HG.out (zW HB.out));rintro e w6 ⟨rfl,hb⟩;replace HB:=zh HB hb;replace BR:=zA (blk_below (g:=gr) (o:=.cells #[.int .i64 0,.int .i64 0,.int .i64 0,.slice none 0 0] 30 (0,0)) (by(with_reducible repeat(first|refine blk_drewN ?_ _|refine blk_drew ?_|refine blk_alloc ?_ _));refine blk_far ?_ NE.out _;(with_reducible repeat(first|refine blk_drewN ?_ _|refine blk_drew ?_|refine blk_alloc ?_ _));exact BR.out) hb);replace HQ:=zA (Kd.R_below (Kd.R_set (zR HQ.out) BV.out (by decide) _ _) hb);replace BV:=zA (blk_below (g:=gv) (o:=.cells #[.int .i64 a,.int .i64 b,.int .i64 c,.slice Aq q.length cq] 30 (0,0)) (by(with_reducible repeat(first|refine blk_drewN ?_ _|refine blk_drew ?_|refine blk_alloc ?_ _));refine blk_put (cs:=#[.int .i64 a,.int .i64 b,.int .i64 c,.slice none 0 0]) ?_ 3 _ rfl;(with_reducible repeat(first|refine blk_drewN ?_ _|refine blk_drew ?_|refine blk_alloc ?_ _));exact BV.out) hb);clear a5 a7 a9 b1 a6 a8 b0 b2 hb;have a5:=zc0 BV.out;have a6:=zF BV.out 0;have a7:=zc1 BV.out;have a8:=zF BV.out 1;have a9:=zc2 BV.out;have b0:=zF BV.out 2;have b1:=zc3 BV.out;have b2:=zF BV.out 3;have c6:=zc0 BR.out;have c7:=zF BR.out 0;have c8:=zc1 BR.out;have c9:=zF BR.out 1;have d0:=zc2 BR.out;have d1:=zF BR.out 2;have d2:=zc3 BR.out;have d3:=zF BR.out 3;by_cases hs:t.toList=a0.toList
     ·rw[if_pos hs] at H;simp only[zU] at H;obtain⟨rfl,rfl,rfl,rfl,rfl⟩:=H;have s0:(t.toList == a0.toList)=true:=beq_iff_eq.mpr hs;have s1:(t.toList != a0.toList)=false:=bne_eq_false_iff_eq.mpr hs;clear hs;go_wp2;refine bodyPost_ret (results_ct rfl _ _ gr 30 #[.int .i64 a,.int .i64 b,.int .i64 c,.slice Aq q.length cq] (0,0) _ rfl (zk4 BR.out) Tryz.underlying30 rfl (by kernel_rfl)) rfl ?_;exact⟨_,rfl,zR (Kd.R_mono (Kd.R_far (p:=⟨gr,3,none⟩) (Kd.R_far (p:=⟨gr,2,none⟩) (Kd.R_far (p:=⟨gr,1,none⟩) (Kd.R_far (p:=⟨gr,0,none⟩) (Kd.R_types HQ.out BR.out (by decide)) (fun _ hk=>hk.2) (.int .i64 a)) (fun _ hk=>hk.2) (.int .i64 b)) (fun _ hk=>hk.2) (.int .i64 c)) (fun _ hk=>hk.2) (.slice Aq q.length cq)) (fun _ _=>trivial)),zW HB.out⟩
     rw[if_neg hs] at H;simp only[impl_ParseVer.no,Option.some.injEq,Prod.mk.injEq] at H;obtain⟨rfl,rfl,rfl,rfl,rfl⟩:=H;have s0:(t.toList == a0.toList)=false:=beq_eq_false_iff_ne.mpr hs;have s1:(t.toList != a0.toList)=true:=bne_iff_ne.mpr hs;clear hs;go_wp2;refine bodyPost_ret (results_ct rfl _ _ gr 30 #[.int .i64 0,.int .i64 0,.int .i64 0,.slice none 0 0] (0,0) _ rfl (zk4 BR.out) Tryz.underlying30 rfl (by kernel_rfl)) rfl ?_;exact⟨_,rfl,Kd.R_nil _ _ _ _ _,zW HB.out⟩
    | false=>
     simp only[Bool.false_eq_true,if_false] at H;replace H:=Option.bind_eq_some_iff.mp H;obtain⟨t,ht,H⟩:=H;have VT:=zA ht;clear ht HO;have hnb:=NE.out;have hnc:=NE.out.symm;have a5:=zc0 BV.out;have a6:=zF BV.out 0;have a7:=zc1 BV.out;have a8:=zF BV.out 1;have a9:=zc2 BV.out;have b0:=zF BV.out 2;have b1:=zc3 BV.out;have b2:=zF BV.out 3;go_wp2_with (fail)
     (refine(impl_VerText.calls k a b c none 0 [] t _ ?s1 ?s2 ?hgw VT.out).mono ?_);(case s1=>exact Kd.C_nil _ _);(case s2=>exact Nat.le_refl _);(case hgw=>exact GW.below HG.out (zW HB.out));rintro e w6 ⟨rfl,hb⟩;replace HB:=zh HB hb;replace BR:=zb BR hb;replace BV:=zb BV hb;clear a5 a7 a9 b1 a6 a8 b0 b2 hb;have a5:=zc0 BV.out;have a6:=zF BV.out 0;have a7:=zc1 BV.out;have a8:=zF BV.out 1;have a9:=zc2 BV.out;have b0:=zF BV.out 2;have b1:=zc3 BV.out;have b2:=zF BV.out 3;have c6:=zc0 BR.out;have c7:=zF BR.out 0;have c8:=zc1 BR.out;have c9:=zF BR.out 1;have d0:=zc2 BR.out;have d1:=zF BR.out 2;have d2:=zc3 BR.out;have d3:=zF BR.out 3;by_cases hs:t.toList=a0.toList
     ·rw[if_pos hs] at H;simp only[zU] at H;obtain⟨rfl,rfl,rfl,rfl,rfl⟩:=H;have s0:(t.toList == a0.toList)=true:=beq_iff_eq.mpr hs;have s1:(t.toList != a0.toList)=false:=bne_eq_false_iff_eq.mpr hs;clear hs;go_wp2;refine bodyPost_ret (results_ct rfl _ _ gr 30 #[.int .i64 a,.int .i64 b,.int .i64 c,.slice none 0 0] (0,0) _ rfl (zk4 BR.out) Tryz.underlying30 rfl (by kernel_rfl)) rfl ?_;exact⟨_,rfl,Kd.R_nil _ _ _ _ _,zW HB.out⟩
     rw[if_neg hs] at H;simp only[impl_ParseVer.no,Option.some.injEq,Prod.mk.injEq] at H;obtain⟨rfl,rfl,rfl,rfl,rfl⟩:=H;have s0:(t.toList == a0.toList)=false:=beq_eq_false_iff_ne.mpr hs;have s1:(t.toList != a0.toList)=true:=bne_iff_ne.mpr hs;clear hs;go_wp2;refine bodyPost_ret (results_ct rfl _ _ gr 30 #[.int .i64 0,.int .i64 0,.int .i64 0,.slice none 0 0] (0,0) _ rfl (zk4 BR.out) Tryz.underlying30 rfl (by kernel_rfl)) rfl ?_;exact⟨_,rfl,Kd.R_nil _ _ _ _ _,zW HB.out⟩
   ·
    obtain rfl:=c3 (by omega);obtain⟨pb,po,e_,hcell⟩:=Lb.C_string_plain (Kd.R_reads' HO.out).2.2 (by have:=LEN.out;omega);cases e_
    have hx:wr.cell? ⟨pb,po+2,none⟩=some (.string (rdOf ByteArray.empty ps 2)):=hcell 2 _ (by
     unfold rdOf;rw[List.getD_eq_getElem?_getD,show (2:Int).toNat=2 from rfl,List.getElem?_eq_getElem (show 2<ps.length by have:=LEN.out;omega)]
     rfl)
    clear hcell;have hidx:∀ W:World,(Instr.index 144 (.agg #[.pointer (some ⟨gv,0,none⟩),.pointer (some ⟨gv,1,none⟩),.pointer (some ⟨gv,2,none⟩)]) (.int .i64 2)).run Tryz.prog W=.ok (.pointer (some ⟨gv,2,none⟩)) W:=fun W=>by kernel_rfl
    have hl:(2:Int)<(ps.length:Int):=by have:=LEN.out;omega
    have H:=REST.out;clear REST;replace H:=Option.bind_eq_some_iff.mp H;obtain⟨⟨n,ok⟩,hpn,H⟩:=H;have PN:=zA hpn;clear hpn;cases ok with
    | false=>
     replace H:some impl_ParseVer.no=some (r1,r2,r3,r4,r5):=H;simp only[impl_ParseVer.no,Option.some.injEq,Prod.mk.injEq] at H;obtain⟨rfl,rfl,rfl,rfl,rfl⟩:=H;go_wp2_with (fail)
     (with_reducible refine(impl_ParseNum.calls k (rdOf ByteArray.empty ps 2) 9999 n false _ ?hgw PN.out).mono ?_);(case hgw=>exact GW.below HG.out (zB));rintro e w5 ⟨rfl,hb⟩;have a1:=zA (below_step (zB) hb);have a2:=zA (blk_below (zK BR.out) hb);have a3:=zA (blk_below (zK BV.out) hb);have a4:=zA (Kd.R_below (d:=Kd.string) (e:=9) (base:=w.heap.size) (ok:=fun _=>True) (zR HO.out) hb);clear HB BR BV HO;have HB:=a1;have BR:=a2;have BV:=a3;have HO:=a4;clear a1 a2 a3 a4 hb;have hnb:=NE.out;have hnc:=NE.out.symm;have b3:=zc2 BV.out;have b4:=zF BV.out 2;have b5:=zc0 BR.out;have b6:=zc1 BR.out;have b7:=zc2 BR.out;have b8:=zc3 BR.out;have b9:=zF BR.out 0;have c0:=zF BR.out 1;have c1:=zF BR.out 2;have c2:=zF BR.out 3;go_wp2;refine bodyPost_ret (results_ct rfl _ _ gr 30 #[.int .i64 0,.int .i64 0,.int .i64 0,.slice none 0 0] (0,0) _ rfl (zk4 BR.out) Tryz.underlying30 rfl (by kernel_rfl)) rfl ?_;exact⟨_,rfl,Kd.R_nil _ _ _ _ _,zW HB.out⟩
    | true=>
     have RST:=zA H;clear H;go_wp2_with (fail)
     (with_reducible refine(impl_ParseNum.calls k (rdOf ByteArray.empty ps 2) 9999 n true _ ?hgw PN.out).mono ?_);(case hgw=>exact GW.below HG.out (zB));rintro e w5 ⟨rfl,hb⟩;have a1:=zA (below_step (zB) hb);have a2:=zA (blk_below (zK BR.out) hb);have a3:=zA (blk_below (zK BV.out) hb);have a4:=zA (Kd.R_below (d:=Kd.string) (e:=9) (base:=w.heap.size) (ok:=fun _=>True) (zR HO.out) hb);clear HB BR BV HO;have HB:=a1;have BR:=a2;have BV:=a3;have HO:=a4;clear a1 a2 a3 a4 hb;have hnb:=NE.out;have hnc:=NE.out.symm;have b3:=zc2 BV.out;have b4:=zF BV.out 2;have b5:=zc0 BR.out;have b6:=zc1 BR.out;have b7:=zc2 BR.out;have b8:=zc3 BR.out;have b9:=zF BR.out 0;have c0:=zF BR.out 1;have c1:=zF BR.out 2;have c2:=zF BR.out 3;go_wp2;go_roundg 0
     case measure=>omega
     case rel=>exact⟨0,a,b,n,by omega,by omega,by first|rfl|go_num,by first|omega|(intro _;omega),by first|omega|(intro _;first|rfl|omega),by first|omega|(intro _;first|rfl|omega),RST,⟨zW HB.out⟩,
      ⟨by(with_reducible repeat(first|refine blk_drewN ?_ _|refine blk_drew ?_|refine blk_alloc ?_ _));refine blk_far ?_ NE.out _;(with_reducible repeat(first|refine blk_drewN ?_ _|refine blk_drew ?_|refine blk_alloc ?_ _));exact BR.out⟩,⟨by(with_reducible repeat(first|refine blk_drewN ?_ _|refine blk_drew ?_|refine blk_alloc ?_ _));refine blk_put (cs:=#[.int .i64 a,.int .i64 b,.int .i64 0,.slice none 0 0]) ?_ 2 _ rfl;(with_reducible repeat(first|refine blk_drewN ?_ _|refine blk_drew ?_|refine blk_alloc ?_ _));exact BV.out⟩,⟨Kd.R_set (zR HO.out) BV.out (by decide) _ _⟩⟩
   ·
    obtain rfl:=c5 (by omega);obtain rfl:=c3 (by omega);obtain⟨pb,po,e_,hcell⟩:=Lb.C_string_plain (Kd.R_reads' HO.out).2.2 (by have:=LEN.out;omega);cases e_
    have hx:wr.cell? ⟨pb,po+1,none⟩=some (.string (rdOf ByteArray.empty ps 1)):=hcell 1 _ (by
     unfold rdOf;rw[List.getD_eq_getElem?_getD,show (1:Int).toNat=1 from rfl,List.getElem?_eq_getElem (show 1<ps.length by have:=LEN.out;omega)]
     rfl)
    clear hcell;have hidx:∀ W:World,(Instr.index 144 (.agg #[.pointer (some ⟨gv,0,none⟩),.pointer (some ⟨gv,1,none⟩),.pointer (some ⟨gv,2,none⟩)]) (.int .i64 1)).run Tryz.prog W=.ok (.pointer (some ⟨gv,1,none⟩)) W:=fun W=>by kernel_rfl
    have hl:(1:Int)<(ps.length:Int):=by have:=LEN.out;omega
    have H:=REST.out;clear REST;replace H:=Option.bind_eq_some_iff.mp H;obtain⟨⟨n,ok⟩,hpn,H⟩:=H;have PN:=zA hpn;clear hpn;cases ok with
    | false=>
     replace H:some impl_ParseVer.no=some (r1,r2,r3,r4,r5):=H;simp only[impl_ParseVer.no,Option.some.injEq,Prod.mk.injEq] at H;obtain⟨rfl,rfl,rfl,rfl,rfl⟩:=H;go_wp2_with (fail)
     (with_reducible refine(impl_ParseNum.calls k (rdOf ByteArray.empty ps 1) 9999 n false _ ?hgw PN.out).mono ?_);(case hgw=>exact GW.below HG.out (zB));rintro e w5 ⟨rfl,hb⟩;have a1:=zA (below_step (zB) hb);have a2:=zA (blk_below (zK BR.out) hb);have a3:=zA (blk_below (zK BV.out) hb);have a4:=zA (Kd.R_below (d:=Kd.string) (e:=9) (base:=w.heap.size) (ok:=fun _=>True) (zR HO.out) hb);clear HB BR BV HO;have HB:=a1;have BR:=a2;have BV:=a3;have HO:=a4;clear a1 a2 a3 a4 hb;have hnb:=NE.out;have hnc:=NE.out.symm;have b3:=zc1 BV.out;have b4:=zF BV.out 1;have b5:=zc0 BR.out;have b6:=zc1 BR.out;have b7:=zc2 BR.out;have b8:=zc3 BR.out;have b9:=zF BR.out 0;have c0:=zF BR.out 1;have c1:=zF BR.out 2;have c2:=zF BR.out 3;go_wp2;refine bodyPost_ret (results_ct rfl _ _ gr 30 #[.int .i64 0,.int .i64 0,.int .i64 0,.slice none 0 0] (0,0) _ rfl (zk4 BR.out) Tryz.underlying30 rfl (by kernel_rfl)) rfl ?_;exact⟨_,rfl,Kd.R_nil _ _ _ _ _,zW HB.out⟩
    | true=>
     have RST:=zA H;clear H;go_wp2_with (fail)
     (with_reducible refine(impl_ParseNum.calls k (rdOf ByteArray.empty ps 1) 9999 n true _ ?hgw PN.out).mono ?_);(case hgw=>exact GW.below HG.out (zB));rintro e w5 ⟨rfl,hb⟩;have a1:=zA (below_step (zB) hb);have a2:=zA (blk_below (zK BR.out) hb);have a3:=zA (blk_below (zK BV.out) hb);have a4:=zA (Kd.R_below (d:=Kd.string) (e:=9) (base:=w.heap.size) (ok:=fun _=>True) (zR HO.out) hb);clear HB BR BV HO;have HB:=a1;have BR:=a2;have BV:=a3;have HO:=a4;clear a1 a2 a3 a4 hb;have hnb:=NE.out;have hnc:=NE.out.symm;have b3:=zc1 BV.out;have b4:=zF BV.out 1;have b5:=zc0 BR.out;have b6:=zc1 BR.out;have b7:=zc2 BR.out;have b8:=zc3 BR.out;have b9:=zF BR.out 0;have c0:=zF BR.out 1;have c1:=zF BR.out 2;have c2:=zF BR.out 3;go_wp2;go_roundg 1
     case measure=>omega
     case rel=>exact⟨1,a,n,0,by omega,by omega,by first|rfl|go_num,by first|omega|(intro _;omega),by first|omega|(intro _;first|rfl|omega),by first|omega|(intro _;first|rfl|omega),RST,⟨zW HB.out⟩,
      ⟨by(with_reducible repeat(first|refine blk_drewN ?_ _|refine blk_drew ?_|refine blk_alloc ?_ _));refine blk_far ?_ NE.out _;(with_reducible repeat(first|refine blk_drewN ?_ _|refine blk_drew ?_|refine blk_alloc ?_ _));exact BR.out⟩,⟨by(with_reducible repeat(first|refine blk_drewN ?_ _|refine blk_drew ?_|refine blk_alloc ?_ _));refine blk_put (cs:=#[.int .i64 a,.int .i64 0,.int .i64 0,.slice none 0 0]) ?_ 1 _ rfl;(with_reducible repeat(first|refine blk_drewN ?_ _|refine blk_drew ?_|refine blk_alloc ?_ _));exact BV.out⟩,⟨Kd.R_set (zR HO.out) BV.out (by decide) _ _⟩⟩
   ·obtain rfl:m=0:=by omega
    obtain rfl:=ha rfl;obtain rfl:=c5 (by omega);obtain rfl:=c3 (by omega);obtain⟨pb,po,e_,hcell⟩:=Lb.C_string_plain (Kd.R_reads' HO.out).2.2 (by have:=LEN.out;omega);cases e_
    have hx:wr.cell? ⟨pb,po,none⟩=some (.string (rdOf ByteArray.empty ps 0)):=hcell 0 _ (by
     unfold rdOf;rw[List.getD_eq_getElem?_getD,show (0:Int).toNat=0 from rfl,List.getElem?_eq_getElem (show 0<ps.length by have:=LEN.out;omega)]
     rfl)
    clear hcell;have hidx:∀ W:World,(Instr.index 144 (.agg #[.pointer (some ⟨gv,0,none⟩),.pointer (some ⟨gv,1,none⟩),.pointer (some ⟨gv,2,none⟩)]) (.int .i64 0)).run Tryz.prog W=.ok (.pointer (some ⟨gv,0,none⟩)) W:=fun W=>by kernel_rfl
    have hl:(0:Int)<(ps.length:Int):=by have:=LEN.out;omega
    have H:=REST.out;clear REST;replace H:=Option.bind_eq_some_iff.mp H;obtain⟨⟨n,ok⟩,hpn,H⟩:=H;have PN:=zA hpn;clear hpn;cases ok with
    | false=>
     replace H:some impl_ParseVer.no=some (r1,r2,r3,r4,r5):=H;simp only[impl_ParseVer.no,Option.some.injEq,Prod.mk.injEq] at H;obtain⟨rfl,rfl,rfl,rfl,rfl⟩:=H;go_wp2_with (fail)
     (with_reducible refine(impl_ParseNum.calls k (rdOf ByteArray.empty ps 0) 9999 n false _ ?hgw PN.out).mono ?_);(case hgw=>exact GW.below HG.out (zB));rintro e w5 ⟨rfl,hb⟩;have a1:=zA (below_step (zB) hb);have a2:=zA (blk_below (zK BR.out) hb);have a3:=zA (blk_below (zK BV.out) hb);have a4:=zA (Kd.R_below (d:=Kd.string) (e:=9) (base:=w.heap.size) (ok:=fun _=>True) (zR HO.out) hb);clear HB BR BV HO;have HB:=a1;have BR:=a2;have BV:=a3;have HO:=a4;clear a1 a2 a3 a4 hb;have hnb:=NE.out;have hnc:=NE.out.symm;have b3:=zc0 BV.out;have b4:=zF BV.out 0;have b5:=zc0 BR.out;have b6:=zc1 BR.out;have b7:=zc2 BR.out;have b8:=zc3 BR.out;have b9:=zF BR.out 0;have c0:=zF BR.out 1;have c1:=zF BR.out 2;have c2:=zF BR.out 3;go_wp2;refine bodyPost_ret (results_ct rfl _ _ gr 30 #[.int .i64 0,.int .i64 0,.int .i64 0,.slice none 0 0] (0,0) _ rfl (zk4 BR.out) Tryz.underlying30 rfl (by kernel_rfl)) rfl ?_;exact⟨_,rfl,Kd.R_nil _ _ _ _ _,zW HB.out⟩
    | true=>
     have RST:=zA H;clear H;go_wp2_with (fail)
     (with_reducible refine(impl_ParseNum.calls k (rdOf ByteArray.empty ps 0) 9999 n true _ ?hgw PN.out).mono ?_);(case hgw=>exact GW.below HG.out (zB));rintro e w5 ⟨rfl,hb⟩;have a1:=zA (below_step (zB) hb);have a2:=zA (blk_below (zK BR.out) hb);have a3:=zA (blk_below (zK BV.out) hb);have a4:=zA (Kd.R_below (d:=Kd.string) (e:=9) (base:=w.heap.size) (ok:=fun _=>True) (zR HO.out) hb);clear HB BR BV HO;have HB:=a1;have BR:=a2;have BV:=a3;have HO:=a4;clear a1 a2 a3 a4 hb;have hnb:=NE.out;have hnc:=NE.out.symm;have b3:=zc0 BV.out;have b4:=zF BV.out 0;have b5:=zc0 BR.out;have b6:=zc1 BR.out;have b7:=zc2 BR.out;have b8:=zc3 BR.out;have b9:=zF BR.out 0;have c0:=zF BR.out 1;have c1:=zF BR.out 2;have c2:=zF BR.out 3;go_wp2;go_roundg 2
     case measure=>omega
     case rel=>exact⟨2,n,0,0,by omega,by omega,by first|rfl|go_num,by first|omega|(intro _;omega),by first|omega|(intro _;first|rfl|omega),by first|omega|(intro _;first|rfl|omega),RST,⟨zW HB.out⟩,
      ⟨by(with_reducible repeat(first|refine blk_drewN ?_ _|refine blk_drew ?_|refine blk_alloc ?_ _));refine blk_far ?_ NE.out _;(with_reducible repeat(first|refine blk_drewN ?_ _|refine blk_drew ?_|refine blk_alloc ?_ _));exact BR.out⟩,⟨by(with_reducible repeat(first|refine blk_drewN ?_ _|refine blk_drew ?_|refine blk_alloc ?_ _));refine blk_put (cs:=#[.int .i64 0,.int .i64 0,.int .i64 0,.slice none 0 0]) ?_ 0 _ rfl;(with_reducible repeat(first|refine blk_drewN ?_ _|refine blk_drew ?_|refine blk_alloc ?_ _));exact BV.out⟩,⟨Kd.R_set (zR HO.out) BV.out (by decide) _ _⟩⟩
 rw[if_neg hlen] at h;simp only[impl_ParseVer.no,Option.some.injEq,Prod.mk.injEq] at h;obtain⟨rfl,rfl,rfl,rfl,rfl⟩:=h;have d4:((ps.length:Int) == 3)=false:=by simpa using fun e=>hlen (by omega)
 have hl3':((ps.length:Int) != 3)=true:=by simpa using fun e=>hlen (by omega)
 clear hlen;go_enter Tryz.func87,Tryz.ntmps87
 go_wp2_with (first
  | ((with_reducible refine gate_dst (N:=2) rfl ?_);refine box_event ?hg (N:=2) ?hd (cs:=#[.int .i64 0,.int .i64 0,.int .i64 0,.slice none 0 0]) (t:=30) ?hr ?_;(case hd=>rfl);(case hg=>rfl);(case hr=>first|(go_simp;done)|(go_simp;rfl));intro gr hg w1 hbox hb;have a1:=zA (below_step HB.out hb);have BR:=zA hbox;have GR:=zA ((by rw[hg];exact Nat.le_refl _):w.heap.size≤gr);clear HB;have HB:=a1;clear a1;clear hb hbox hg)
  | (go_at_call 134;(with_reducible refine(strings_Cut.calls a0 (⟨#[45]⟩:ByteArray) num pre has _ ?hgw CUT.out).mono ?_);(case hgw=>exact GW.below HG.out HB.out);rintro e w2 ⟨rfl,hb⟩;have a1:=zA (below_step HB.out hb);have a2:=zA (blk_below BR.out hb);clear HB BR;have HB:=a1;have BR:=a2;clear a1 a2 hb)
  | (go_at_call 41;(with_reducible refine(strings_Split.calls num (⟨#[46]⟩:ByteArray) ps _ ?hgw SPL.out).mono ?_);(case hgw=>exact GW.below HG.out HB.out);rintro e w3 ⟨v3,rfl,ho,hb⟩;have a1:=zA (below_step HB.out hb);have a2:=zA (blk_below BR.out hb);have HO:=zA (Kd.R_lower ho (below_size HB.out));clear HB BR;have HB:=a1;have BR:=a2;clear a1 a2 hb ho;obtain⟨Ao,co,eo⟩:=Kd.R_slice HO.out;subst eo;have hnb_:=trivial;have c6:=zc0 BR.out;have c7:=zF BR.out 0;have c8:=zc1 BR.out;have c9:=zF BR.out 1;have d0:=zc2 BR.out;have d1:=zF BR.out 2;have d2:=zc3 BR.out;have d3:=zF BR.out 3))
 refine bodyPost_ret (results_ct rfl _ _ gr 30 #[.int .i64 0,.int .i64 0,.int .i64 0,.slice none 0 0] (0,0) _ rfl (zk4 BR.out) Tryz.underlying30 rfl (by kernel_rfl)) rfl ?_;exact⟨_,rfl,Kd.R_nil _ _ _ _ _,zW HB.out⟩
/-! ### strings_CutPrefix: function 136 -/
def strings_CutPrefix.f (a0 a1:ByteArray):Option (ByteArray × Bool):=some (⟨(Lib.trimPrefix a0.data.toList a1.data.toList).toArray⟩,Lib.hasPrefix a0.data.toList a1.data.toList)
theorem strings_CutPrefix.calls (a0 a1 r1:ByteArray) (r2:Bool) (w:World) (h:strings_CutPrefix.f a0 a1=some (r1,r2)) :
  Calls Tryz.prog 136 #[.string a0,.string a1] w fun e w'=>e=.returned (.tuple #[.string r1,.bool r2])∧Drawn0 w w':=by
 obtain⟨rfl,rfl⟩:=Prod.mk.inj (Option.some.inj h);refine(Tryz.strings_CutPrefix a0 a1 w).mono ?_;rintro e w' ⟨rfl,rfl⟩;exact⟨rfl,Drawn0.refl _⟩
/-! ### impl_partOf: function 137 -/
def impl_partOf.no:Int × Int × Int × List ByteArray × Int × Bool:=(0,0,0,[],0,false)
/-- So many pieces are left where the signs 'x' at the end fall away. -/
def impl_partOf.back (ps:List ByteArray):Nat→Nat
 | 0=>0
 | 1=>1
 | t+2=>if (rdOf ByteArray.empty ps ((t+1:Nat):Int)).toList=([120]:List UInt8) then impl_partOf.back ps (t+1) else t+2
/-- The last d of t pieces are still to be read; what is read so far. -/
def impl_partOf.rest (k:Nat) (ps:List ByteArray) (t:Nat):Nat→Int→Int→Option (Int × Int × Int × List ByteArray × Int × Bool)
 | 0,x,y=>some (x,y,0,[],(t:Int),true)
 | d+1,x,y=>(impl_ParseNum.f k (rdOf ByteArray.empty ps ((t-(d+1):Nat):Int)) 9999).bind fun n=>if n.2=true then (if t-(d+1)=0 then impl_partOf.rest k ps t d n.1 y else impl_partOf.rest k ps t d x n.1) else some impl_partOf.no
def impl_partOf.nums (k:Nat) (ps:List ByteArray) (t:Nat):Option (Int × Int × Int × List ByteArray × Int × Bool):=if t≤2 then impl_partOf.rest k ps t t 0 0 else some impl_partOf.no
def impl_partOf.f (k:Nat) (a0:ByteArray):Option (Int × Int × Int × List ByteArray × Int × Bool):=
 (impl_ParseVer.f k a0).bind fun v=>if v.2.2.2.2=true then some (v.1,v.2.1,v.2.2.1,v.2.2.2.1,3,true)
  else (strings_Split.f a0 (⟨#[46]⟩:ByteArray)).bind fun ps=>if ps.length=0 then none else if 3<ps.length then some impl_partOf.no else impl_partOf.nums k ps (impl_partOf.back ps ps.length)
theorem impl_partOf.back_le (ps:List ByteArray):∀ t,impl_partOf.back ps t≤t
 | 0=>Nat.le_refl _
 | 1=>Nat.le_refl _
 | t+2=>by
  unfold impl_partOf.back
  split
  ·have:=impl_partOf.back_le ps (t+1)
   omega
  ·omega
theorem impl_partOf.calls (k:Nat) (a0:ByteArray) (r1 r2 r3:Int) (r4:List ByteArray) (r5:Int) (r6:Bool) (w:World) (hG:GW w) (h:impl_partOf.f k a0=some (r1,r2,r3,r4,r5,r6)) :
  Calls Tryz.prog 137 #[.string a0] w fun e w'=>∃ c7:Value,e=.returned (.tuple #[.agg #[.int .i64 r1,.int .i64 r2,.int .i64 r3,c7],.int .i64 r5,.bool r6])∧Kd.R Kd.string 9 w' w.heap.size (fun _=>True) c7 r4∧Below w.heap.size w w':=by
 have hu_:=Tryz.underlying30;have HG:=zA hG;have HB:=zA (Below.refl w.heap.size w);clear hG;unfold impl_partOf.f at h;replace h:=Option.bind_eq_some_iff.mp h;obtain⟨t,hpv,h⟩:=h;obtain⟨va,vb,vc,vl,vok⟩:=t;have PV:=zA hpv;clear hpv;cases vok with
 | true=>
  replace h:some (va,vb,vc,vl,(3:Int),true)=some (r1,r2,r3,r4,r5,r6):=h;simp only[Option.some.injEq,Prod.mk.injEq] at h;obtain⟨rfl,rfl,rfl,rfl,rfl,rfl⟩:=h;go_enter Tryz.func137,Tryz.ntmps137
  go_wp2_with (first
   | ((with_reducible refine zd 2 ?_);refine ze 2 30 #[.int .i64 0,.int .i64 0,.int .i64 0,.slice none 0 0] ?_;intro gr hg w1 hbox hb;have a1:=zA (below_step (zW HB.out) hb);have BR:=zA hbox;have GR:=zA ((by rw[hg];exact below_size (zW HB.out)):w.heap.size≤gr);clear HB;have HB:=a1;clear a1 hb hbox hg)
   | (go_at_call 87;(with_reducible refine(impl_ParseVer.calls k a0 va vb vc vl _ _ ?hgw PV.out).mono ?_);(case hgw=>exact GW.below HG.out (zW HB.out));rintro e w2 ⟨v2,rfl,ho,hb⟩;have a1:=zA (below_step (zW HB.out) hb);have a2:=zA (blk_below (zK BR.out) hb);have HP:=zA (Kd.R_lower ho (below_size (zW HB.out)));clear HB BR;have HB:=a1;have BR:=a2;clear a1 a2 hb ho;obtain⟨Ao,co,eo⟩:=Kd.R_slice HP.out;subst eo;have a4:=zc0 BR.out;have a5:=zF BR.out 0;have a6:=zc1 BR.out;have a7:=zF BR.out 1;have a8:=zc2 BR.out;have a9:=zF BR.out 2;have b0:=zc3 BR.out;have b1:=zF BR.out 3)
   | ((with_reducible refine zd 5 ?_);refine ze 5 30 #[.int .i64 0,.int .i64 0,.int .i64 0,.slice none 0 0] ?_;intro gv hg w4 hbox hb;have a1:=zA (below_step (zW HB.out) hb);have a2:=zA (blk_below (zK BR.out) hb);have a3:=zA (Kd.R_types (Kd.R_below (zR HP.out) hb) hbox (by decide));have BV:=zA hbox;have GV:=zA ((by rw[hg];exact below_size (zW HB.out)):w.heap.size≤gv);have NE:=zA ((by rw[hg];exact Nat.ne_of_lt (blk_lt (zK BR.out))):gr≠gv);clear HB HP BR a4 a6 a8 b0 a5 a7 a9 b1;have HB:=a1;have HP:=a3;have BR:=a2;clear a1 a3 a2 hb hbox hg;have hnv:=trivial;have c8:=NE.out;have c9:=NE.out.symm;have a4:=zc0 BR.out;have a5:=zF BR.out 0;have a6:=zc1 BR.out;have a7:=zF BR.out 1;have a8:=zc2 BR.out;have a9:=zF BR.out 2;have b0:=zc3 BR.out;have b1:=zF BR.out 3;have b4:=zc0 BV.out;have b5:=zF BV.out 0;have b6:=zc1 BV.out;have b7:=zF BV.out 1;have b8:=zc2 BV.out;have b9:=zF BV.out 2;have c0:=zc3 BV.out;have c1:=zF BV.out 3))
  refine bodyPost_ret (results_ctt rfl _ _ gr 30 #[.int .i64 va,.int .i64 vb,.int .i64 vc,.slice Ao vl.length co] (0,0) _ rfl (zk4 BR.out) Tryz.underlying30 rfl (by kernel_rfl)) rfl ?_;exact⟨_,rfl,by refine Kd.R_mono (?_:Kd.R Kd.string 9 _ w.heap.size (fun k_=>(True∧k_≠gv)∧k_≠gr) _ _) (fun _ _=>trivial);(with_reducible repeat(first|apply Kd.R_alloc|apply Kd.R_drewN|apply Kd.R_drew|refine Kd.R_far ?_ (fun _ hk=>(by first|exact hk.2|exact hk.1.2)) _));exact Kd.R_types HP.out BR.out (by decide),zW HB.out⟩
 | false=>
  replace h:((strings_Split.f a0 (⟨#[46]⟩:ByteArray)).bind fun ps=>if ps.length=0 then none else if 3<ps.length then some impl_partOf.no else impl_partOf.nums k ps (impl_partOf.back ps ps.length))=some (r1,r2,r3,r4,r5,r6):=h;replace h:=Option.bind_eq_some_iff.mp h;obtain⟨ps,hsp,h⟩:=h;have SP:=zA hsp;clear hsp;have hne:¬ps.length=0:=fun e=>by rw[if_pos e] at h;cases h
  rw[if_neg hne] at h;have d0:=zA hne;clear hne;by_cases h3:3<ps.length
  ·rw[if_pos h3] at h;simp only[impl_partOf.no,Option.some.injEq,Prod.mk.injEq] at h;obtain⟨rfl,rfl,rfl,rfl,rfl,rfl⟩:=h;have d1:(ps.length:Int)>3:=by omega
   clear h3;go_enter Tryz.func137,Tryz.ntmps137
   go_wp2_with (first
    | ((with_reducible refine zd 2 ?_);refine ze 2 30 #[.int .i64 0,.int .i64 0,.int .i64 0,.slice none 0 0] ?_;intro gr hg w1 hbox hb;have a1:=zA (below_step (zW HB.out) hb);have BR:=zA hbox;have GR:=zA ((by rw[hg];exact below_size (zW HB.out)):w.heap.size≤gr);clear HB;have HB:=a1;clear a1 hb hbox hg)
    | (go_at_call 87;(with_reducible refine(impl_ParseVer.calls k a0 va vb vc vl _ _ ?hgw PV.out).mono ?_);(case hgw=>exact GW.below HG.out (zW HB.out));rintro e w2 ⟨v2,rfl,ho,hb⟩;have a1:=zA (below_step (zW HB.out) hb);have a2:=zA (blk_below (zK BR.out) hb);have HP:=zA (Kd.R_lower ho (below_size (zW HB.out)));clear HB BR;have HB:=a1;have BR:=a2;clear a1 a2 hb ho;obtain⟨Ao,co,eo⟩:=Kd.R_slice HP.out;subst eo;have a4:=zc0 BR.out;have a5:=zF BR.out 0;have a6:=zc1 BR.out;have a7:=zF BR.out 1;have a8:=zc2 BR.out;have a9:=zF BR.out 2;have b0:=zc3 BR.out;have b1:=zF BR.out 3)
    | ((with_reducible refine zd 5 ?_);refine ze 5 30 #[.int .i64 0,.int .i64 0,.int .i64 0,.slice none 0 0] ?_;intro gv hg w4 hbox hb;have a1:=zA (below_step (zW HB.out) hb);have a2:=zA (blk_below (zK BR.out) hb);have a3:=zA (Kd.R_types (Kd.R_below (zR HP.out) hb) hbox (by decide));have BV:=zA hbox;have GV:=zA ((by rw[hg];exact below_size (zW HB.out)):w.heap.size≤gv);have NE:=zA ((by rw[hg];exact Nat.ne_of_lt (blk_lt (zK BR.out))):gr≠gv);clear HB HP BR a4 a6 a8 b0 a5 a7 a9 b1;have HB:=a1;have HP:=a3;have BR:=a2;clear a1 a3 a2 hb hbox hg;have hnv:=trivial;have c8:=NE.out;have c9:=NE.out.symm;have a4:=zc0 BR.out;have a5:=zF BR.out 0;have a6:=zc1 BR.out;have a7:=zF BR.out 1;have a8:=zc2 BR.out;have a9:=zF BR.out 2;have b0:=zc3 BR.out;have b1:=zF BR.out 3;have b4:=zc0 BV.out;have b5:=zF BV.out 0;have b6:=zc1 BV.out;have b7:=zF BV.out 1;have b8:=zc2 BV.out;have b9:=zF BV.out 2;have c0:=zc3 BV.out;have c1:=zF BV.out 3)
    | (go_at_call 41;(with_reducible refine(strings_Split.calls a0 (⟨#[46]⟩:ByteArray) ps _ ?hgw SP.out).mono ?_);(case hgw=>exact GW.below HG.out (zW HB.out));rintro e w3 ⟨v3,rfl,ho,hb⟩;have a1:=zA (below_step (zW HB.out) hb);have a2:=zA (blk_below (zK BR.out) hb);have HS:=zA (Kd.R_lower ho (below_size (zW HB.out)));clear HB BR a4 a6 a8 b0 a5 a7 a9 b1 b4 b6 b8 c0 b5 b7 b9 c1;have HB:=a1;have BR:=a2;clear a1 a2 hb ho;obtain⟨As,cs,es⟩:=Kd.R_slice HS.out;subst es;have a4:=zc0 BR.out;have a5:=zF BR.out 0;have a6:=zc1 BR.out;have a7:=zF BR.out 1;have a8:=zc2 BR.out;have a9:=zF BR.out 2;have b0:=zc3 BR.out;have b1:=zF BR.out 3))
   refine bodyPost_ret (results_ctt rfl _ _ gr 30 #[.int .i64 0,.int .i64 0,.int .i64 0,.slice none 0 0] (0,0) _ rfl (zk4 BR.out) Tryz.underlying30 rfl (by kernel_rfl)) rfl ?_;exact⟨_,rfl,Kd.R_nil _ _ _ _ _,zW HB.out⟩
  rw[if_neg h3] at h;have d1:¬(ps.length:Int)>3:=by omega
  have L3:=zA h3;have REST:=zA h;clear h3 h;go_enter Tryz.func137,Tryz.ntmps137
  go_upto_block 0 with (first
   | ((with_reducible refine zd 2 ?_);refine ze 2 30 #[.int .i64 0,.int .i64 0,.int .i64 0,.slice none 0 0] ?_;intro gr hg w1 hbox hb;have a1:=zA (below_step (zW HB.out) hb);have BR:=zA hbox;have GR:=zA ((by rw[hg];exact below_size (zW HB.out)):w.heap.size≤gr);clear HB;have HB:=a1;clear a1 hb hbox hg)
   | (go_at_call 87;(with_reducible refine(impl_ParseVer.calls k a0 va vb vc vl _ _ ?hgw PV.out).mono ?_);(case hgw=>exact GW.below HG.out (zW HB.out));rintro e w2 ⟨v2,rfl,ho,hb⟩;have a1:=zA (below_step (zW HB.out) hb);have a2:=zA (blk_below (zK BR.out) hb);have HP:=zA (Kd.R_lower ho (below_size (zW HB.out)));clear HB BR;have HB:=a1;have BR:=a2;clear a1 a2 hb ho;obtain⟨Ao,co,eo⟩:=Kd.R_slice HP.out;subst eo;have a4:=zc0 BR.out;have a5:=zF BR.out 0;have a6:=zc1 BR.out;have a7:=zF BR.out 1;have a8:=zc2 BR.out;have a9:=zF BR.out 2;have b0:=zc3 BR.out;have b1:=zF BR.out 3)
   | ((with_reducible refine zd 5 ?_);refine ze 5 30 #[.int .i64 0,.int .i64 0,.int .i64 0,.slice none 0 0] ?_;intro gv hg w4 hbox hb;have a1:=zA (below_step (zW HB.out) hb);have a2:=zA (blk_below (zK BR.out) hb);have a3:=zA (Kd.R_types (Kd.R_below (zR HP.out) hb) hbox (by decide));have BV:=zA hbox;have GV:=zA ((by rw[hg];exact below_size (zW HB.out)):w.heap.size≤gv);have NE:=zA ((by rw[hg];exact Nat.ne_of_lt (blk_lt (zK BR.out))):gr≠gv);clear HB HP BR a4 a6 a8 b0 a5 a7 a9 b1;have HB:=a1;have HP:=a3;have BR:=a2;clear a1 a3 a2 hb hbox hg;have hnv:=trivial;have c8:=NE.out;have c9:=NE.out.symm;have a4:=zc0 BR.out;have a5:=zF BR.out 0;have a6:=zc1 BR.out;have a7:=zF BR.out 1;have a8:=zc2 BR.out;have a9:=zF BR.out 2;have b0:=zc3 BR.out;have b1:=zF BR.out 3;have b4:=zc0 BV.out;have b5:=zF BV.out 0;have b6:=zc1 BV.out;have b7:=zF BV.out 1;have b8:=zc2 BV.out;have b9:=zF BV.out 2;have c0:=zc3 BV.out;have c1:=zF BV.out 3)
   | (go_at_call 41;(with_reducible refine(strings_Split.calls a0 (⟨#[46]⟩:ByteArray) ps _ ?hgw SP.out).mono ?_);(case hgw=>exact GW.below HG.out (zW HB.out));rintro e w3 ⟨v3,rfl,ho,hb⟩;have a1:=zA (below_step (zW HB.out) hb);have a2:=zA (blk_below (zK BR.out) hb);have HS:=zA (Kd.R_lower ho (below_size (zW HB.out)));clear HB BR a4 a6 a8 b0 a5 a7 a9 b1 b4 b6 b8 c0 b5 b7 b9 c1;have HB:=a1;have BR:=a2;clear a1 a2 hb ho;obtain⟨As,cs,es⟩:=Kd.R_slice HS.out;subst es;have a4:=zc0 BR.out;have a5:=zF BR.out 0;have a6:=zc1 BR.out;have a7:=zF BR.out 1;have a8:=zc2 BR.out;have a9:=zF BR.out 2;have b0:=zc3 BR.out;have b1:=zF BR.out 3))
  obtain⟨gp,cap,ep,_⟩:=Kd.R_form HS.out (by have:=d0.out;omega);injection ep with ea_ _ ec_;subst ea_;subst ec_
  go_cut [8] (fun s8 wc=>∃ t:Nat,s8=.int .i64 (t:Int)∧Aside0 (1≤t∧t≤ps.length)∧Aside0 (impl_partOf.nums k ps t=some (r1,r2,r3,r4,r5,r6))∧Aside0 (Below w.heap.size w wc)∧Aside0 (wc.heap[gr]?=some (.cells #[.int .i64 0,.int .i64 0,.int .i64 0,.slice none 0 0] 30 (0,0)))∧Aside0 (Kd.string.R 9 wc w.heap.size (fun _=>True) (.slice (some ⟨gp,0,none⟩) ps.length cs) ps))
  case first=>
   go_wp2_with fail
   go_loopg [8] ps.length (fun gg s8 wr=>∃ t:Nat,t≤gg∧s8=.int .i64 (t:Int)∧Aside0 (1≤t∧t≤ps.length)∧Aside0 (impl_partOf.nums k ps (impl_partOf.back ps t)=some (r1,r2,r3,r4,r5,r6))∧Aside0 (Below w.heap.size w wr)∧Aside0 (wr.heap[gr]?=some (.cells #[.int .i64 0,.int .i64 0,.int .i64 0,.slice none 0 0] 30 (0,0)))∧Aside0 (Kd.string.R 9 wr w.heap.size (fun _=>True) (.slice (some ⟨gp,0,none⟩) ps.length cs) ps))
   case atStart=>exact⟨ps.length,Nat.le_refl _,rfl,⟨by have:=d0.out;omega,Nat.le_refl _⟩,REST,⟨zW HB.out⟩,⟨zK BR.out⟩,⟨by(with_reducible repeat(first|apply Kd.R_alloc|apply Kd.R_drewN|apply Kd.R_drew|refine Kd.R_set ?_ BN.out (by decide) _ _));exact HS.out⟩⟩
   case round=>
    clear REST HB BR HS;obtain⟨t,htg,rfl,TB,REST,HB,BR,HS⟩:=hrel;have hp_:=TB.out;by_cases h1t:t=1
    ·subst h1t;have hq:¬((1:Int)>1):=by omega
     go_wp2;go_meet
     case rel=>exact⟨1,rfl,TB,REST,⟨zW HB.out⟩,⟨zK BR.out⟩,⟨by(with_reducible repeat(first|apply Kd.R_alloc|apply Kd.R_drewN|apply Kd.R_drew|refine Kd.R_set ?_ BN.out (by decide) _ _));exact HS.out⟩⟩
    obtain⟨m,hm⟩:∃ m,t=m+1:=⟨t-1,by omega⟩;have hq:((t:Int))>1:=by omega
    have hw:wrap64 ((t:Int)-1)=(m:Int):=by unfold wrap64;omega
    have d4:(m:Int)<(ps.length:Int):=by omega
    have d5:(0:Int)≤(m:Int):=by omega
    obtain⟨pb,po,e_,hcell⟩:=Lb.C_string_plain (Kd.R_reads' HS.out).2.2 (by omega);cases e_
    have hx:wr.cell? ⟨gp,t-1,none⟩=some (.string (rdOf ByteArray.empty ps (m:Int))):=by
     rw[show t-1=m by omega]
     have:=hcell m (rdOf ByteArray.empty ps (m:Int)) (by
      unfold rdOf;rw[List.getD_eq_getElem?_getD,Int.toNat_natCast,List.getElem?_eq_getElem (show m<ps.length by omega)]
      rfl)
     rwa [Nat.zero_add] at this
    clear hcell;have hH:=REST.out
    have hback:impl_partOf.back ps t=if (rdOf ByteArray.empty ps (m:Int)).toList=([120]:List UInt8) then impl_partOf.back ps m else t:=by
     subst hm;cases m with
     | zero=>omega
     | succ m=>rfl
    rw[hback] at hH;clear REST;by_cases he:(rdOf ByteArray.empty ps (m:Int)).toList=([120]:List UInt8)
    ·rw[if_pos he] at hH;have RST:=zA hH;have s0:((rdOf ByteArray.empty ps (m:Int)).toList == ([120]:List UInt8))=true:=beq_iff_eq.mpr he;have HM:=zA hm;clear he hH hback hm;go_wp2;go_roundg m
     case measure=>have:=HM.out;omega
     case rel=>exact⟨m,Nat.le_refl _,by first|rfl|(congr 1;have:=HM.out;omega),⟨by have:=HM.out;omega,by have:=HM.out;omega⟩,RST,⟨zW HB.out⟩,⟨zK BR.out⟩,⟨by(with_reducible repeat(first|apply Kd.R_alloc|apply Kd.R_drewN|apply Kd.R_drew|refine Kd.R_set ?_ BN.out (by decide) _ _));exact HS.out⟩⟩
    rw[if_neg he] at hH;have RST:=zA hH;have s0:((rdOf ByteArray.empty ps (m:Int)).toList == ([120]:List UInt8))=false:=beq_eq_false_iff_ne.mpr he;clear he hH hback hm;go_wp2;go_meet
    case rel=>exact⟨t,rfl,TB,RST,⟨zW HB.out⟩,⟨zK BR.out⟩,⟨by(with_reducible repeat(first|apply Kd.R_alloc|apply Kd.R_drewN|apply Kd.R_drew|refine Kd.R_set ?_ BN.out (by decide) _ _));exact HS.out⟩⟩
  case rest=>
   clear REST HB BR HS;obtain⟨t,rfl,TB,REST,HB,BR,HS⟩:=hcut;have H:=REST.out;clear REST;unfold impl_partOf.nums at H;have hp_:=TB.out;by_cases h2:t≤2
   ·rw[if_pos h2] at H;have RST:=zA H;clear H;have hq:¬((t:Int)>2):=by omega
    have d6:(0:Int)≤(t:Int):=by omega
    have d7:(t:Int)≤(ps.length:Int):=by omega
    have d8:(t:Int)≤(cs:Int):=by have:=(Kd.R_reads' HS.out).2.1;omega
    have htn:((t:Int)).toNat=t:=by omega
    go_wp2_with (first
     | ((with_reducible refine zd 9 ?_);refine ze 9 170 #[.int .i64 0,.int .i64 0] ?_;intro gn hg w5 hbox hb;have a1:=zA (below_step (zW HB.out) hb);have a2:=zA (blk_below (zK BR.out) hb);have a3:=zA (Kd.R_below (by(with_reducible repeat(first|apply Kd.R_alloc|apply Kd.R_drewN|apply Kd.R_drew|refine Kd.R_set ?_ BN.out (by decide) _ _));exact HS.out) hb);have BN:=zA hbox;have GN:=zA ((by rw[hg];exact below_size (zW HB.out)):w.heap.size≤gn);have NN:=zA ((by rw[hg];exact Nat.ne_of_lt (blk_lt (zK BR.out))):gr≠gn);clear HB BR HS;have HB:=a1;have BR:=a2;have HS:=a3;clear a1 a2 a3 hb hbox hg))
    go_loopg [47] t (fun gg d2 wr=>∃ (m:Nat) (x y:Int),m≤t∧t-m≤gg∧d2=.int .i64 (m:Int)∧(m=0→x=0)∧(m≤1→y=0)∧Aside0 (impl_partOf.rest k ps t (t-m) x y=some (r1,r2,r3,r4,r5,r6))∧Aside0 (Below w.heap.size w wr)∧Aside0 (wr.heap[gr]?=some (.cells #[.int .i64 0,.int .i64 0,.int .i64 0,.slice none 0 0] 30 (0,0)))∧Aside0 (wr.heap[gn]?=some (.cells #[.int .i64 x,.int .i64 y] 170 (0,0)))∧Aside0 (Kd.string.R 9 wr w.heap.size (fun _=>True) (.slice (some ⟨gp,0,none⟩) ps.length cs) ps))
    case atStart=>exact⟨0,0,0,by omega,by omega,rfl,fun _=>rfl,fun _=>rfl,RST,⟨zW HB.out⟩,⟨zK BR.out⟩,⟨zK BN.out⟩,⟨by(with_reducible repeat(first|apply Kd.R_alloc|apply Kd.R_drewN|apply Kd.R_drew|refine Kd.R_set ?_ BN.out (by decide) _ _));exact HS.out⟩⟩
    case round=>
     clear RST HB BR HS BN;obtain⟨m,x,y,hmt,hmg,rfl,d9,d3,REST,HB,BR,BN,HS⟩:=hrel;have H:=REST.out;clear REST;by_cases hm:m=t
     ·subst hm;rw[Nat.sub_self] at H;replace H:some (x,y,(0:Int),([]:List ByteArray),(m:Int),true)=some (r1,r2,r3,r4,r5,r6):=H;simp only[zU] at H;obtain⟨rfl,rfl,rfl,rfl,rfl,rfl⟩:=H;have hlt:¬((m:Int)<(m:Int)):=by omega
      have hnn:=NN.out.symm;have c2:=zc0 BN.out;have c3:=zc1 BN.out;(have a4:=zc0 BR.out;have a5:=zF BR.out 0;have a6:=zc1 BR.out;have a7:=zF BR.out 1;have a8:=zc2 BR.out;have a9:=zF BR.out 2;have b0:=zc3 BR.out;have b1:=zF BR.out 3);go_wp2;refine bodyPost_ret (results_ctt rfl _ _ gr 30 #[.int .i64 x,.int .i64 y,.int .i64 0,.slice none 0 0] (0,0) _ rfl (zk4 BR.out) Tryz.underlying30 rfl (by kernel_rfl)) rfl ?_;exact⟨_,rfl,Kd.R_nil _ _ _ _ _,zW HB.out⟩
     obtain⟨d,hd⟩:∃ d,t-m=d+1:=⟨t-m-1,by omega⟩;rw[hd] at H;have htm:t-(d+1)=m:=by omega
     replace H:((impl_ParseNum.f k (rdOf ByteArray.empty ps ((t-(d+1):Nat):Int)) 9999).bind fun n=>if n.2=true then (if t-(d+1)=0 then impl_partOf.rest k ps t d n.1 y else impl_partOf.rest k ps t d x n.1) else some impl_partOf.no)=some (r1,r2,r3,r4,r5,r6):=H;rw[htm] at H;replace H:=Option.bind_eq_some_iff.mp H;obtain⟨⟨n,ok⟩,hpn,H⟩:=H;have PN:=zA hpn;clear hpn;have hlt:(m:Int)<(t:Int):=by omega
     have e0:(0:Int)≤(m:Int):=by omega
     obtain⟨pb,po,e_,hcell⟩:=Lb.C_string_plain (Kd.R_reads' HS.out).2.2 (by omega);cases e_
     have hx:wr.cell? ⟨gp,m,none⟩=some (.string (rdOf ByteArray.empty ps (m:Int))):=by
      have:=hcell m (rdOf ByteArray.empty ps (m:Int)) (by
       unfold rdOf;rw[List.getD_eq_getElem?_getD,Int.toNat_natCast,List.getElem?_eq_getElem (show m<ps.length by omega)]
       rfl)
      rwa [Nat.zero_add] at this
     clear hcell;cases ok with
     | false=>
      replace H:some impl_partOf.no=some (r1,r2,r3,r4,r5,r6):=H;simp only[impl_partOf.no,Option.some.injEq,Prod.mk.injEq] at H;obtain⟨rfl,rfl,rfl,rfl,rfl,rfl⟩:=H;rcases (show m=0∨m=1 by omega) with rfl|rfl
      ·have b2:=PN.out;clear PN;have PN:=zA (show impl_ParseNum.f k (rdOf ByteArray.empty ps 0) 9999=some (n,false) from b2);clear b2
       go_wp2_with (first
        | (go_at_call 135;(with_reducible refine(impl_ParseNum.calls k _ 9999 n false _ ?hgw PN.out).mono ?_);(case hgw=>exact GW.below HG.out (zW HB.out));rintro e w6 ⟨rfl,hb⟩;have a1:=zA (below_step (zW HB.out) hb);have a2:=zA (blk_below (zK BR.out) hb);have a3:=zA (Kd.R_below (by(with_reducible repeat(first|apply Kd.R_alloc|apply Kd.R_drewN|apply Kd.R_drew|refine Kd.R_set ?_ BN.out (by decide) _ _));exact HS.out) hb);have b3:=zA (blk_below (zK BN.out) hb);clear HB BR HS BN;have HB:=a1;have BR:=a2;have HS:=a3;have BN:=b3;clear a1 a2 a3 b3 hb;have hnn:=NN.out;have c4:=NN.out.symm;have a4:=zc0 BR.out;have a5:=zF BR.out 0;have a6:=zc1 BR.out;have a7:=zF BR.out 1;have a8:=zc2 BR.out;have a9:=zF BR.out 2;have b0:=zc3 BR.out;have b1:=zF BR.out 3;have c2:=zc0 BN.out;have c5:=zF BN.out 0;have c3:=zc1 BN.out;have c6:=zF BN.out 1))
       refine bodyPost_ret (results_ctt rfl _ _ gr 30 #[.int .i64 0,.int .i64 0,.int .i64 0,.slice none 0 0] (0,0) _ rfl (zk4 BR.out) Tryz.underlying30 rfl (by kernel_rfl)) rfl ?_;exact⟨_,rfl,Kd.R_nil _ _ _ _ _,zW HB.out⟩
      ·have b2:=PN.out;clear PN;have PN:=zA (show impl_ParseNum.f k (rdOf ByteArray.empty ps 1) 9999=some (n,false) from b2);clear b2
       go_wp2_with (first
        | (go_at_call 135;(with_reducible refine(impl_ParseNum.calls k _ 9999 n false _ ?hgw PN.out).mono ?_);(case hgw=>exact GW.below HG.out (zW HB.out));rintro e w6 ⟨rfl,hb⟩;have a1:=zA (below_step (zW HB.out) hb);have a2:=zA (blk_below (zK BR.out) hb);have a3:=zA (Kd.R_below (by(with_reducible repeat(first|apply Kd.R_alloc|apply Kd.R_drewN|apply Kd.R_drew|refine Kd.R_set ?_ BN.out (by decide) _ _));exact HS.out) hb);have b3:=zA (blk_below (zK BN.out) hb);clear HB BR HS BN;have HB:=a1;have BR:=a2;have HS:=a3;have BN:=b3;clear a1 a2 a3 b3 hb;have hnn:=NN.out;have c4:=NN.out.symm;have a4:=zc0 BR.out;have a5:=zF BR.out 0;have a6:=zc1 BR.out;have a7:=zF BR.out 1;have a8:=zc2 BR.out;have a9:=zF BR.out 2;have b0:=zc3 BR.out;have b1:=zF BR.out 3;have c2:=zc0 BN.out;have c5:=zF BN.out 0;have c3:=zc1 BN.out;have c6:=zF BN.out 1))
       refine bodyPost_ret (results_ctt rfl _ _ gr 30 #[.int .i64 0,.int .i64 0,.int .i64 0,.slice none 0 0] (0,0) _ rfl (zk4 BR.out) Tryz.underlying30 rfl (by kernel_rfl)) rfl ?_;exact⟨_,rfl,Kd.R_nil _ _ _ _ _,zW HB.out⟩
     | true=>
      replace H:(if m=0 then impl_partOf.rest k ps t d n y else impl_partOf.rest k ps t d x n)=some (r1,r2,r3,r4,r5,r6):=H;rcases (show m=0∨m=1 by omega) with rfl|rfl
      ·rw[if_pos rfl] at H;have b2:=PN.out;clear PN;have PN:=zA (show impl_ParseNum.f k (rdOf ByteArray.empty ps 0) 9999=some (n,true) from b2);clear b2;have RST:=zA (show impl_partOf.rest k ps t (t-1) n y=some (r1,r2,r3,r4,r5,r6) by rw[show t-1=d by omega];exact H);clear H
       go_wp2_with (first
        | (go_at_call 135;(with_reducible refine(impl_ParseNum.calls k _ 9999 n true _ ?hgw PN.out).mono ?_);(case hgw=>exact GW.below HG.out (zW HB.out));rintro e w6 ⟨rfl,hb⟩;have a1:=zA (below_step (zW HB.out) hb);have a2:=zA (blk_below (zK BR.out) hb);have a3:=zA (Kd.R_below (by(with_reducible repeat(first|apply Kd.R_alloc|apply Kd.R_drewN|apply Kd.R_drew|refine Kd.R_set ?_ BN.out (by decide) _ _));exact HS.out) hb);have b3:=zA (blk_below (zK BN.out) hb);clear HB BR HS BN;have HB:=a1;have BR:=a2;have HS:=a3;have BN:=b3;clear a1 a2 a3 b3 hb;have hnn:=NN.out;have c4:=NN.out.symm;have a4:=zc0 BR.out;have a5:=zF BR.out 0;have a6:=zc1 BR.out;have a7:=zF BR.out 1;have a8:=zc2 BR.out;have a9:=zF BR.out 2;have b0:=zc3 BR.out;have b1:=zF BR.out 3;have c2:=zc0 BN.out;have c5:=zF BN.out 0;have c3:=zc1 BN.out;have c6:=zF BN.out 1))
       go_roundg (t-1)
       case measure=>omega
       case rel=>exact⟨1,n,y,by omega,by omega,by first|rfl|go_num,fun h_=>by omega,fun _=>d3 (by omega),RST,⟨zW HB.out⟩,⟨zK BR.out⟩,⟨by(with_reducible repeat(first|refine blk_drewN ?_ _|refine blk_drew ?_|refine blk_alloc ?_ _));refine blk_put (cs:=#[.int .i64 x,.int .i64 y]) ?_ 0 _ rfl;(with_reducible repeat(first|refine blk_drewN ?_ _|refine blk_drew ?_|refine blk_alloc ?_ _));exact BN.out⟩,⟨by(with_reducible repeat(first|apply Kd.R_alloc|apply Kd.R_drewN|apply Kd.R_drew|refine Kd.R_set ?_ BN.out (by decide) _ _));exact HS.out⟩⟩
      ·rw[if_neg (by omega)] at H;have b2:=PN.out;clear PN;have PN:=zA (show impl_ParseNum.f k (rdOf ByteArray.empty ps 1) 9999=some (n,true) from b2);clear b2;have RST:=zA (show impl_partOf.rest k ps t (t-2) x n=some (r1,r2,r3,r4,r5,r6) by rw[show t-2=d by omega];exact H);clear H
       go_wp2_with (first
        | (go_at_call 135;(with_reducible refine(impl_ParseNum.calls k _ 9999 n true _ ?hgw PN.out).mono ?_);(case hgw=>exact GW.below HG.out (zW HB.out));rintro e w6 ⟨rfl,hb⟩;have a1:=zA (below_step (zW HB.out) hb);have a2:=zA (blk_below (zK BR.out) hb);have a3:=zA (Kd.R_below (by(with_reducible repeat(first|apply Kd.R_alloc|apply Kd.R_drewN|apply Kd.R_drew|refine Kd.R_set ?_ BN.out (by decide) _ _));exact HS.out) hb);have b3:=zA (blk_below (zK BN.out) hb);clear HB BR HS BN;have HB:=a1;have BR:=a2;have HS:=a3;have BN:=b3;clear a1 a2 a3 b3 hb;have hnn:=NN.out;have c4:=NN.out.symm;have a4:=zc0 BR.out;have a5:=zF BR.out 0;have a6:=zc1 BR.out;have a7:=zF BR.out 1;have a8:=zc2 BR.out;have a9:=zF BR.out 2;have b0:=zc3 BR.out;have b1:=zF BR.out 3;have c2:=zc0 BN.out;have c5:=zF BN.out 0;have c3:=zc1 BN.out;have c6:=zF BN.out 1))
       go_roundg (t-2)
       case measure=>omega
       case rel=>exact⟨2,x,n,by omega,by omega,by first|rfl|go_num,fun h_=>by omega,fun h_=>by omega,RST,⟨zW HB.out⟩,⟨zK BR.out⟩,⟨by(with_reducible repeat(first|refine blk_drewN ?_ _|refine blk_drew ?_|refine blk_alloc ?_ _));refine blk_put (cs:=#[.int .i64 x,.int .i64 y]) ?_ 1 _ rfl;(with_reducible repeat(first|refine blk_drewN ?_ _|refine blk_drew ?_|refine blk_alloc ?_ _));exact BN.out⟩,⟨by(with_reducible repeat(first|apply Kd.R_alloc|apply Kd.R_drewN|apply Kd.R_drew|refine Kd.R_set ?_ BN.out (by decide) _ _));exact HS.out⟩⟩
   rw[if_neg h2] at H;simp only[impl_partOf.no,Option.some.injEq,Prod.mk.injEq] at H;obtain⟨rfl,rfl,rfl,rfl,rfl,rfl⟩:=H;have hq:(t:Int)>2:=by omega
   (have a4:=zc0 BR.out;have a5:=zF BR.out 0;have a6:=zc1 BR.out;have a7:=zF BR.out 1;have a8:=zc2 BR.out;have a9:=zF BR.out 2;have b0:=zc3 BR.out;have b1:=zF BR.out 3);go_wp2;refine bodyPost_ret (results_ctt rfl _ _ gr 30 #[.int .i64 0,.int .i64 0,.int .i64 0,.slice none 0 0] (0,0) _ rfl (zk4 BR.out) Tryz.underlying30 rfl (by kernel_rfl)) rfl ?_;exact⟨_,rfl,Kd.R_nil _ _ _ _ _,zW HB.out⟩
/-! ### impl_nextOf: function 167 -/
def impl_nextOf.f (a0 a2 a3:Int) (a4:List ByteArray) (a1:Int):Option (Int × Int × Int × List ByteArray):=if a1=1 then (some (wrap64 (a0+1),0,0,([]:List ByteArray))) else (if a1=2 then (some (a0,wrap64 (a2+1),0,([]:List ByteArray))) else (some (a0,a2,wrap64 (a3+1),([]:List ByteArray))))
theorem impl_nextOf.calls (a0 a3 a5:Int) (a9:Option Addr) (b0:Nat) (a2:List ByteArray) (a1 r1 r2 r3:Int) (r4:List ByteArray) (w:World) (b4:Kd.C Kd.string w a9 a2.length a2) (b5:a2.length≤b0) (h:impl_nextOf.f a0 a3 a5 a2 a1=some (r1,r2,r3,r4)) :
  Calls Tryz.prog 167 #[.agg #[.int .i64 a0,.int .i64 a3,.int .i64 a5,.slice a9 a2.length b0],.int .i64 a1] w fun e w'=>∃ b6:Value,e=.returned (.agg #[.int .i64 r1,.int .i64 r2,.int .i64 r3,b6])∧Kd.R Kd.string 9 w' w.heap.size (fun _=>True) b6 r4∧Below w.heap.size w w':=by
 have b9:=Tryz.underlying30;have c0:=zA b4;have c1:=zA b5;clear b4 b5;have HB:=zA (Below.refl w.heap.size w);unfold impl_nextOf.f at h;have H:=h;clear h;go_enter Tryz.func167,Tryz.ntmps167;go_upto_if 6 with (first|((with_reducible refine zd 2 ?_);refine ze 2 30 #[.int .i64 a0,.int .i64 a3,.int .i64 a5,.slice a9 a2.length b0] ?_;intro c2 hg w4 hbox hb;have a4:=zA (hbox);have c4:=zi HB hg;have c5:=zi HB hg;replace HB:=zA (below_step (zB) hb);clear hb hbox hg)|((with_reducible refine zd 4 ?_);refine ze 4 30 #[.int .i64 0,.int .i64 0,.int .i64 0,.slice none 0 0] ?_;intro b1 hg w5 hbox hb;have a6:=zA (hbox);have c6:=zi HB hg;have c7:=zi HB hg;replace HB:=zh HB hb;have b7:=zA (zL hg (zK a4.out));have b8:=zA (zJ hg (zK a4.out));replace a4:=zb a4 hb;clear hb hbox hg;have c8:=b7.out;have d0:=b8.out;obtain⟨d1,d2,d3,d4,d5,d6,d7,d8⟩:=ze4 a4.out;obtain⟨d9,e0,e1,e2,e3,e4,e5,e6⟩:=ze4 a6.out))
 (try simp only[Act.put,zT]);replace H:=zI1 H;rcases H with ⟨c3,H⟩|⟨c3,H⟩
 ·have a7:=beq_iff_eq.mpr c3;have a8:=bne_eq_false_iff_eq.mpr c3;clear c3;simp only[zU] at H;obtain⟨rfl,rfl,rfl,rfl⟩:=H;(try simp only[a7,a8]);go_wp2;refine bodyPost_ret (results_cell_row rfl _ _ b1 30 #[.int .i64 (wrap64 (a0+1)),.int .i64 0,.int .i64 0,.slice none 0 0] (0,0) _ rfl (zk4 a6.out) Tryz.underlying30 rfl (by kernel_rfl)) rfl ?_;exact⟨_,zE,by first|exact Kd.R_nil _ _ _ _ _|exact Kd.N_nil _ _ _ _ _|exact Kd.V_nil _ _ _ _ _|exact Kd.Q_nil _ _ _ _ _|exact Kd.S_nil _ _ _ _ _,zW HB.out⟩
 have a7:=beq_eq_false_iff_ne.mpr c3;have a8:=bne_iff_ne.mpr c3;replace H:=zI1 H;rcases H with ⟨c9,H⟩|⟨c9,H⟩
 ·have b2:=beq_iff_eq.mpr c9;have b3:=bne_eq_false_iff_eq.mpr c9;clear c9;simp only[zU] at H;obtain⟨rfl,rfl,rfl,rfl⟩:=H;(try simp only[a7,a8,b2,b3]);go_wp2;refine bodyPost_ret (results_cell_row rfl _ _ b1 30 #[.int .i64 a0,.int .i64 (wrap64 (a3+1)),.int .i64 0,.slice none 0 0] (0,0) _ rfl (zk4 a6.out) Tryz.underlying30 rfl (by kernel_rfl)) rfl ?_;exact⟨_,zE,by first|exact Kd.R_nil _ _ _ _ _|exact Kd.N_nil _ _ _ _ _|exact Kd.V_nil _ _ _ _ _|exact Kd.Q_nil _ _ _ _ _|exact Kd.S_nil _ _ _ _ _,zW HB.out⟩
 have b2:=beq_eq_false_iff_ne.mpr c9;have b3:=bne_iff_ne.mpr c9;simp only[zU] at H;obtain⟨rfl,rfl,rfl,rfl⟩:=H;(try simp only[a7,a8,b2,b3]);go_wp2;refine bodyPost_ret (results_cell_row rfl _ _ b1 30 #[.int .i64 a0,.int .i64 a3,.int .i64 (wrap64 (a5+1)),.slice none 0 0] (0,0) _ rfl (zk4 a6.out) Tryz.underlying30 rfl (by kernel_rfl)) rfl ?_;exact⟨_,zE,by first|exact Kd.R_nil _ _ _ _ _|exact Kd.N_nil _ _ _ _ _|exact Kd.V_nil _ _ _ _ _|exact Kd.Q_nil _ _ _ _ _|exact Kd.S_nil _ _ _ _ _,zW HB.out⟩
/-! ### impl_below: function 168 -/
def impl_below.f (a0 a1 a2:Int) (a3:List ByteArray):Option (Int × Int × Int × Int × List ByteArray):=some (1,a0,a1,a2,(([(⟨#[48]⟩:ByteArray)]:List ByteArray)))
theorem impl_below.calls (a1 a2 a3:Int) (a9:Option Addr) (b0:Nat) (a4:List ByteArray) (r1 r2 r3 r4:Int) (r5:List ByteArray) (w:World) (b4:Kd.C Kd.string w a9 a4.length a4) (b5:a4.length≤b0) (h:impl_below.f a1 a2 a3 a4=some (r1,r2,r3,r4,r5)) :
  Calls Tryz.prog 168 #[.agg #[.int .i64 a1,.int .i64 a2,.int .i64 a3,.slice a9 a4.length b0]] w fun e w'=>∃ b6:Value,e=.returned (.agg #[.int .i64 r1,.int .i64 r2,.int .i64 r3,.int .i64 r4,b6])∧Kd.R Kd.string 9 w' w.heap.size (fun _=>True) b6 r5∧Below w.heap.size w w':=by
 have c3:=Tryz.underlying30;have c4:=Tryz.underlying34;have c5:=zA b4;have c6:=zA b5;clear b4 b5;have HB:=zA (Below.refl w.heap.size w);unfold impl_below.f at h;have H:=h;clear h;obtain⟨a8,b1⟩:∃ y_:List ByteArray,y_=(([(⟨#[48]⟩:ByteArray)]:List ByteArray)):=⟨_,rfl⟩;replace H:(some (1,a1,a2,a3,a8))=some (r1,r2,r3,r4,r5):=zY b1 H;have b7:=zA b1;clear b1;simp only[zU] at H;obtain⟨rfl,rfl,rfl,rfl,rfl⟩:=H;go_enter Tryz.func168,Tryz.ntmps168;go_wp2_with (first|((with_reducible refine zd 1 ?_);refine ze 1 30 #[.int .i64 a1,.int .i64 a2,.int .i64 a3,.slice a9 a4.length b0] ?_;intro b9 hg w2 hbox hb;have a0:=zA (hbox);have c7:=zi HB hg;have c8:=zi HB hg;replace HB:=zA (below_step (zB) hb);clear hb hbox hg)|((with_reducible refine zd 2 ?_);refine ze 2 34 #[.int .i64 0,.int .i64 0,.int .i64 0,.int .i64 0,.slice none 0 0] ?_;intro a5 hg w3 hbox hb;have a6:=zA (hbox);have c9:=zi HB hg;have d0:=zi HB hg;replace HB:=zh HB hb;have c0:=zA (zL hg (zK a0.out));have c1:=zA (zJ hg (zK a0.out));replace a0:=zb a0 hb;clear hb hbox hg)|((with_reducible refine gate_dst (N:=3) rfl ?_);refine Kd.R_lit Kd.string _ 9 ?hg (N:=3) ?hd (xs:=([(⟨#[48]⟩:ByteArray)]:List ByteArray)) (inner:=[.string (⟨#[48]⟩:ByteArray)]) (ok:=fun _=>True) ?hr ?hp (fun _ hk=>hk) trivial (Below.refl _ _) (Nat.le_refl _) (by simp) ?_;(case hd=>rfl);(case hg=>rfl);(case hr=>first|(go_simp;done)|(go_simp;rfl));(case hp=>exact(Reps.one (show Kd.M Kd.string _ _ _ (⟨#[48]⟩:ByteArray) [.string (⟨#[48]⟩:ByteArray)] from rfl) (Reps.none _ _)));intro d1 w4 a7 hb hg_ hnew_;clear hg_ hnew_;(first|rw[← b7.out] at a7|(simp only[Int.reduceToNat] at a7;rw[← b7.out] at a7));have b8:=zA (Kd.R_lower a7 (below_size (zW HB.out)));replace a0:=zb a0 hb;replace a6:=zb a6 hb;replace HB:=zh HB hb;clear hb a7;obtain⟨b2,b3,c2⟩:=Kd.R_slice b8.out;subst c2;have d2:=c0.out;have d3:=c1.out;obtain⟨d4,d5,d6,d7,d8,d9,e0,e1⟩:=ze4 a0.out;obtain⟨e2,e3,e4,e5,e6,e7,e8,e9,f0,f1⟩:=ze5 a6.out))
 refine bodyPost_ret (results_cell_row rfl _ _ a5 34 #[.int .i64 1,.int .i64 a1,.int .i64 a2,.int .i64 a3,.slice b2 a8.length b3] (0,0) _ rfl (zk5 a6.out) Tryz.underlying34 rfl (by kernel_rfl)) rfl ?_;exact⟨_,zE,zR (Kd.R_mono (Kd.R_far (p:=⟨a5,4,none⟩) (Kd.R_far (p:=⟨a5,3,none⟩) (Kd.R_far (p:=⟨a5,2,none⟩) (Kd.R_far (p:=⟨a5,1,none⟩) (Kd.R_far (p:=⟨a5,0,none⟩) (Kd.R_far (p:=⟨b9,3,none⟩) (Kd.R_types (Kd.R_types b8.out a0.out (by decide)) a6.out (by decide)) (fun _ hk=>hk.1.2) (.slice b2 a8.length b3)) (fun _ hk=>hk.2) (.int .i64 1)) (fun _ hk=>hk.2) (.int .i64 a1)) (fun _ hk=>hk.2) (.int .i64 a2)) (fun _ hk=>hk.2) (.int .i64 a3)) (fun _ hk=>hk.2) (.slice b2 a8.length b3)) (fun _ hk=>trivial)),zW HB.out⟩
/-! ### impl_caret: function 169 -/
def impl_caret.j0:Nat→Int→Bool→Int→Int→Int→List ByteArray→Option (Int × Int × Int × List ByteArray)
 | 0,_,_,_,_,_,_=>none
 | k+1,x1,x5,a1,a0,a2,a3=>if x5=true then (some (wrap64 (a1+1),0,0,([]:List ByteArray))) else (if a0=0 then (if x1=2 then (some (0,wrap64 (a0+1),0,([]:List ByteArray))) else (some (0,0,wrap64 (a2+1),([]:List ByteArray)))) else (some (0,wrap64 (a0+1),0,([]:List ByteArray))))
def impl_caret.f (k:Nat) (a0 a2 a3:Int) (a4:List ByteArray) (a1:Int):Option (Int × Int × Int × List ByteArray):=if a0=0 then (impl_caret.j0 k a1 (a1 == 1) a0 a2 a3 a4) else (impl_caret.j0 k a1 true a0 a2 a3 a4)
theorem impl_caret.calls (k:Nat) (a5 a4 a6:Int) (b3:Option Addr) (b4:Nat) (a3:List ByteArray) (a1 r1 r2 r3:Int) (r4:List ByteArray) (w:World) (b7:Kd.C Kd.string w b3 a3.length a3) (b8:a3.length≤b4) (h:impl_caret.f k a5 a4 a6 a3 a1=some (r1,r2,r3,r4)) :
  Calls Tryz.prog 169 #[.agg #[.int .i64 a5,.int .i64 a4,.int .i64 a6,.slice b3 a3.length b4],.int .i64 a1] w fun e w'=>∃ b9:Value,e=.returned (.agg #[.int .i64 r1,.int .i64 r2,.int .i64 r3,b9])∧Kd.R Kd.string 9 w' w.heap.size (fun _=>True) b9 r4∧Below w.heap.size w w':=by
 have e6:=Tryz.underlying30;have e7:=zA b7;have e8:=zA b8;clear b7 b8;have HB:=zA (Below.refl w.heap.size w);unfold impl_caret.f at h;have H:=h;clear h;have b5:=zA H;clear H;go_enter Tryz.func169,Tryz.ntmps169;go_upto_region 1 with (first|((with_reducible refine zd 2 ?_);refine ze 2 30 #[.int .i64 a5,.int .i64 a4,.int .i64 a6,.slice b3 a3.length b4] ?_;intro c2 hg w4 hbox hb;have a0:=zA (hbox);have e9:=zi HB hg;have f0:=zi HB hg;replace HB:=zA (below_step (zB) hb);clear hb hbox hg)|((with_reducible refine zd 4 ?_);refine ze 4 30 #[.int .i64 0,.int .i64 0,.int .i64 0,.slice none 0 0] ?_;intro b2 hg w5 hbox hb;have a2:=zA (hbox);have f1:=zi HB hg;have f2:=zi HB hg;replace HB:=zh HB hb;have a7:=zA (zL hg (zK a0.out));have a8:=zA (zJ hg (zK a0.out));replace a0:=zb a0 hb;clear hb hbox hg))
 (try simp only[Act.put,zT]);go_cut [5] (fun v5 wc=>∃ (kq:Nat) (b6:Bool),v5=.bool b6∧Aside0 (impl_caret.j0 kq a1 b6 a5 a4 a6 a3=some (r1,r2,r3,r4))∧Aside0 (kq≤k)∧Aside0 (wc.heap[c2]?=some (.cells #[.int .i64 a5,.int .i64 a4,.int .i64 a6,(.slice b3 a3.length b4)] 30 (0,0)))∧Aside0 (wc.heap[b2]?=some (.cells #[.int .i64 0,.int .i64 0,.int .i64 0,(.slice none 0 0)] 30 (0,0)))∧Aside0 (Below w.heap.size w wc))
 case first=>
  have H:=b5.out;clear b5;replace H:=zI1 H;rcases H with ⟨c6,H⟩|⟨c6,H⟩
  ·have a9:=beq_iff_eq.mpr c6;have c0:=bne_eq_false_iff_eq.mpr c6;clear c6;(first|rw[a9]|(simp only[i64_w,i32_w];rw[a9])|skip);have H':=zA H;clear H;have f3:=a7.out;have f4:=a8.out;obtain⟨c3,c4,c5,c8,d0,d1,d2,d3⟩:=ze4 a0.out;go_wp2;go_meet
   case rel=>exact⟨_,((a1 == 1)),zS,(by first|exact H'|(subst_vars;exact H')),⟨by first|omega|exact Nat.le_refl _⟩,⟨zK a0.out⟩,⟨zK a2.out⟩,⟨zW HB.out⟩⟩
  have a9:=beq_eq_false_iff_ne.mpr c6;have c0:=bne_iff_ne.mpr c6;(first|rw[a9]|(simp only[i64_w,i32_w];rw[a9])|skip);have H':=zA H;clear H;have f5:=a7.out;have f6:=a8.out;obtain⟨d4,d5,d6,d7,d8,d9,e0,e1⟩:=ze4 a0.out;go_wp2;go_meet
  case rel=>exact⟨_,(true),zS,(by first|exact H'|(subst_vars;exact H')),⟨by first|omega|exact Nat.le_refl _⟩,⟨zK a0.out⟩,⟨zK a2.out⟩,⟨zW HB.out⟩⟩
 case rest=>
  clear b5;obtain⟨kq,b6,rfl,HA,f7,a0,a2,HB⟩:=hcut;cases kq with
  | zero=>exact absurd HA.out (by simp[impl_caret.j0])
  | succ f8=>
   have H:=HA.out;clear HA;simp only[impl_caret.j0] at H;replace H:=zB0 H;rcases H with ⟨rfl,H⟩|⟨rfl,H⟩
   ·simp only[zU] at H;obtain⟨rfl,rfl,rfl,rfl⟩:=H;have f9:=a7.out;have g0:=a8.out;obtain⟨g1,g2,g3,g4,g5,g6,g7,g8⟩:=ze4 a0.out;obtain⟨g9,h0,h1,h2,h3,h4,h5,h6⟩:=ze4 a2.out;go_wp2;refine bodyPost_ret (results_cell_row rfl _ _ b2 30 #[.int .i64 (wrap64 (a5+1)),.int .i64 0,.int .i64 0,.slice none 0 0] (0,0) _ rfl (zk4 a2.out) Tryz.underlying30 rfl (by kernel_rfl)) rfl ?_;exact⟨_,zE,by first|exact Kd.R_nil _ _ _ _ _|exact Kd.N_nil _ _ _ _ _|exact Kd.V_nil _ _ _ _ _|exact Kd.Q_nil _ _ _ _ _|exact Kd.S_nil _ _ _ _ _,zW HB.out⟩
   replace H:=zI1 H;rcases H with ⟨b0,H⟩|⟨b0,H⟩
   ·have e2:=beq_iff_eq.mpr b0;have e3:=bne_eq_false_iff_eq.mpr b0;clear b0;replace H:=zI1 H;rcases H with ⟨b1,H⟩|⟨b1,H⟩
    ·have e4:=beq_iff_eq.mpr b1;have e5:=bne_eq_false_iff_eq.mpr b1;clear b1;simp only[zU] at H;obtain⟨rfl,rfl,rfl,rfl⟩:=H;have h7:=a7.out;have h8:=a8.out;obtain⟨h9,i0,i1,i2,i3,i4,i5,i6⟩:=ze4 a0.out;obtain⟨i7,i8,i9,j1,j2,j3,j4,j5⟩:=ze4 a2.out;go_wp2;refine bodyPost_ret (results_cell_row rfl _ _ b2 30 #[.int .i64 0,.int .i64 (wrap64 (a4+1)),.int .i64 0,.slice none 0 0] (0,0) _ rfl (zk4 a2.out) Tryz.underlying30 rfl (by kernel_rfl)) rfl ?_;exact⟨_,zE,by first|exact Kd.R_nil _ _ _ _ _|exact Kd.N_nil _ _ _ _ _|exact Kd.V_nil _ _ _ _ _|exact Kd.Q_nil _ _ _ _ _|exact Kd.S_nil _ _ _ _ _,zW HB.out⟩
    have e4:=beq_eq_false_iff_ne.mpr b1;have e5:=bne_iff_ne.mpr b1;simp only[zU] at H;obtain⟨rfl,rfl,rfl,rfl⟩:=H;have j6:=a7.out;have j7:=a8.out;obtain⟨j8,j9,k0,k1,k2,k3,k4,k5⟩:=ze4 a0.out;obtain⟨k6,k7,k8,k9,l0,l1,l2,l3⟩:=ze4 a2.out;go_wp2;refine bodyPost_ret (results_cell_row rfl _ _ b2 30 #[.int .i64 0,.int .i64 0,.int .i64 (wrap64 (a6+1)),.slice none 0 0] (0,0) _ rfl (zk4 a2.out) Tryz.underlying30 rfl (by kernel_rfl)) rfl ?_;exact⟨_,zE,by first|exact Kd.R_nil _ _ _ _ _|exact Kd.N_nil _ _ _ _ _|exact Kd.V_nil _ _ _ _ _|exact Kd.Q_nil _ _ _ _ _|exact Kd.S_nil _ _ _ _ _,zW HB.out⟩
   have e2:=beq_eq_false_iff_ne.mpr b0;have e3:=bne_iff_ne.mpr b0;simp only[zU] at H;obtain⟨rfl,rfl,rfl,rfl⟩:=H;have l4:=a7.out;have l5:=a8.out;obtain⟨l6,l7,l8,l9,m0,m1,m2,m3⟩:=ze4 a0.out;obtain⟨m4,m5,m6,m7,m8,m9,n0,n1⟩:=ze4 a2.out;go_wp2;refine bodyPost_ret (results_cell_row rfl _ _ b2 30 #[.int .i64 0,.int .i64 (wrap64 (a4+1)),.int .i64 0,.slice none 0 0] (0,0) _ rfl (zk4 a2.out) Tryz.underlying30 rfl (by kernel_rfl)) rfl ?_;exact⟨_,zE,by first|exact Kd.R_nil _ _ _ _ _|exact Kd.N_nil _ _ _ _ _|exact Kd.V_nil _ _ _ _ _|exact Kd.Q_nil _ _ _ _ _|exact Kd.S_nil _ _ _ _ _,zW HB.out⟩
end Go.Proofs.YtglhniiabhknoaaGreatDoor.PGB

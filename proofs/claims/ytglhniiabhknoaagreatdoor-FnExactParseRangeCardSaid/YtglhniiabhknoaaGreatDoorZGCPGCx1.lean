/- The walks of the functions that these laws reach, and what each comes to: printed by this session's program. -/
import Derived.Test.YtglhniiabhknoaaGreatDoorZGCPGCx0
import Derived.Test.YtglhniiabhknoaaGreatDoorZGCSays
import Derived.Test.YtglhniiabhknoaaGreatDoorZGCRegs
import Derived.Deep.CutBlock
namespace Go.Proofs.YtglhniiabhknoaaGreatDoor.PGC
open Go.RowKit YtglhniiabhknoaaGreatDoorW.PrintWords YtglhniiabhknoaaGreatDoorW.PrintLast YtglhniiabhknoaaGreatDoorW.PrintMore
attribute [local go_sem high] Mine.str_gtr Mine.str_leq Mine.str_geq
attribute [local go_sem] max2_int min2_int max_two min_two max_three min_three max_four min_four   -- for this text's walks alone
set_option linter.unusedVariables false
set_option maxHeartbeats 8000000
set_option maxRecDepth 100000
set_option linter.unusedSimpArgs false
/-! ### strings_Split: function 41 -/
def strings_Split.f (a0 a1:ByteArray):Option (List ByteArray):=if a0.size<4294967281∧1≤a1.size then some (Lib.splitB a1 0 (Lib.countB a0 a1) a0) else none
theorem strings_Split.calls (a0 a1:ByteArray) (r:List ByteArray) (w:World) (hG:GW w) (h:strings_Split.f a0 a1=some r) :
  Calls Tryz.prog 41 #[.string a0,.string a1] w fun e w'=>∃ a2:Value,e=.returned (a2)∧Kd.R Kd.string 9 w' w.heap.size (fun _=>True) a2 r∧Below w.heap.size w w':=by
 unfold strings_Split.f at h;split at h
 ·rename_i hs;obtain rfl:=Option.some.inj h;obtain⟨m,hm⟩:=hG.maxLen;refine(Tryz.strings_Split a0 a1 m w hs.1 hm hs.2).mono ?_;rintro e w' ⟨rfl,rfl⟩;have hl:=Lib.splitB_all a1 hs.2 0 _ a0 rfl;have hle:=Lib.countB_le a1 hs.2 a0.size a0 (Nat.le_refl _);exact⟨_,rfl,Lb.split_R w 9 _ _ hl (by omega),below_alloc (Below.refl _ _) _⟩
 ·cases h
/-! ### impl_inRange: function 94 -/
def impl_inRange.f (a0 a1 a2:Int):Option (Bool):=if a0≥a1 then (some (decide (a0≤a2))) else (some false)
theorem impl_inRange.calls (a0 a1 a2:Int) (r:Bool) (w:World) (h:impl_inRange.f a0 a1 a2=some r) :
  Calls Tryz.prog 94 #[.int .i64 a0,.int .i64 a1,.int .i64 a2] w fun e w'=>e=.returned (.bool r)∧Drawn0 w w':=by
 unfold impl_inRange.f at h;have H:=h;clear h;replace H:=zI1 H;rcases H with ⟨c4,H⟩|⟨c4,H⟩
 ·have a3:decide (a1≤a0)=true:=decide_eq_true c4;clear c4;obtain rfl:=zm H;go_enter Tryz.func94,Tryz.ntmps94;go_wp2;go_ret;exact⟨by first|rfl|(simp;done)|(simp[*];done)|(simp;rw[Bool.eq_iff_iff];simp;done),zv0⟩
 have a3:decide (a1≤a0)=false:=decide_eq_false c4;clear c4;obtain rfl:=zm H;go_enter Tryz.func94,Tryz.ntmps94;go_wp2;go_ret;exact⟨by first|rfl|(simp;done)|(simp[*];done)|(simp;rw[Bool.eq_iff_iff];simp;done),zv0⟩
/-! ### impl_isSmall: function 115 -/
def impl_isSmall.f (a0:Int):Option (Bool):=if a0≥97 then (some (decide (a0≤122))) else (some false)
theorem impl_isSmall.calls (a0:Int) (r:Bool) (w:World) (h:impl_isSmall.f a0=some r) :
  Calls Tryz.prog 115 #[.int .u8 a0] w fun e w'=>e=.returned (.bool r)∧Drawn0 w w':=by
 unfold impl_isSmall.f at h;have H:=h;clear h;replace H:=zI1 H;rcases H with ⟨c2,H⟩|⟨c2,H⟩
 ·have a1:decide (97≤a0)=true:=decide_eq_true c2;clear c2;obtain rfl:=zm H;go_enter Tryz.func115,Tryz.ntmps115;go_wp2;go_ret;exact⟨by first|rfl|(simp;done)|(simp[*];done)|(simp;rw[Bool.eq_iff_iff];simp;done),zv0⟩
 have a1:decide (97≤a0)=false:=decide_eq_false c2;clear c2;obtain rfl:=zm H;go_enter Tryz.func115,Tryz.ntmps115;go_wp2;go_ret;exact⟨by first|rfl|(simp;done)|(simp[*];done)|(simp;rw[Bool.eq_iff_iff];simp;done),zv0⟩
/-! ### impl_isFigure: function 116 -/
def impl_isFigure.f (a0:Int):Option (Bool):=if a0≥48 then (some (decide (a0≤57))) else (some false)
theorem impl_isFigure.calls (a0:Int) (r:Bool) (w:World) (h:impl_isFigure.f a0=some r) :
  Calls Tryz.prog 116 #[.int .u8 a0] w fun e w'=>e=.returned (.bool r)∧Drawn0 w w':=by
 unfold impl_isFigure.f at h;have H:=h;clear h;replace H:=zI1 H;rcases H with ⟨c2,H⟩|⟨c2,H⟩
 ·have a1:decide (48≤a0)=true:=decide_eq_true c2;clear c2;obtain rfl:=zm H;go_enter Tryz.func116,Tryz.ntmps116;go_wp2;go_ret;exact⟨by first|rfl|(simp;done)|(simp[*];done)|(simp;rw[Bool.eq_iff_iff];simp;done),zv0⟩
 have a1:decide (48≤a0)=false:=decide_eq_false c2;clear c2;obtain rfl:=zm H;go_enter Tryz.func116,Tryz.ntmps116;go_wp2;go_ret;exact⟨by first|rfl|(simp;done)|(simp[*];done)|(simp;rw[Bool.eq_iff_iff];simp;done),zv0⟩
/-! ### impl_isFigures: function 142 -/
def impl_isFigures.l0:Nat→ByteArray→Int→Option (Bool)
 | 0,_,_=>none
 | k+1,x0,x3=>if x3<(x0.size:Int) then (if 0≤x3 then ((impl_isFigure.f (bt x0 x3)).bind fun a0=>(if a0=true then (impl_isFigures.l0 k x0 (wrap64 (x3+1))) else (some false))) else (none)) else (some (x0.toList != ([]:List UInt8)))
def impl_isFigures.f (k:Nat) (a0:ByteArray):Option (Bool):=impl_isFigures.l0 k a0 0
theorem impl_isFigures.calls (k:Nat) (a0:ByteArray) (r:Bool) (w:World) (h:impl_isFigures.f k a0=some r) :
  Calls Tryz.prog 142 #[.string a0] w fun e w'=>e=.returned (.bool r)∧Drawn0 w w':=by
 unfold impl_isFigures.f at h;have H:=h;clear h;have H':=zA H;clear H;go_enter Tryz.func142,Tryz.ntmps142;go_wp2;go_loopg [3] k (fun kq v3 w'=>∃ (a1:Int),v3=.int .i64 a1∧Aside0 (impl_isFigures.l0 kq a0 a1=some r)∧Aside0 (kq≤k)∧Drawn0 w w')
 case atStart=>exact⟨(0),zS,H',⟨Nat.le_refl _⟩,zv0⟩
 case round=>
  clear H';obtain⟨a1,rfl,HA,a2,⟨m1,rfl⟩⟩:=hrel;cases gk with
  | zero=>exact absurd HA.out (by simp[impl_isFigures.l0])
  | succ k1=>
   have H:=HA.out;clear HA;simp only[impl_isFigures.l0] at H;replace H:=zI0 H;rcases H with ⟨a4,H⟩|⟨a4,H⟩
   ·replace H:=zD0 H;obtain⟨a6,H⟩:=H;replace H:=Option.bind_eq_some_iff.mp H;obtain⟨a7,a3,H⟩:=H;(try dsimp only at H);have A5:=zA a3;clear a3;replace H:=zB0 H;rcases H with ⟨rfl,H⟩|⟨rfl,H⟩
    ·have H':=zA H;clear H;have p4:0≤(a1:Int):=zD;have q4:a1<(a0.size:Int):=zD;have a5:=bt_at a0 a1;replace p4:=eq_true p4;replace q4:=eq_true q4;go_wp2_with (first|((with_reducible refine zq 116 ?_);refine zg (some 13) Tryz.func116 #[.int .u8 (bt a0 a1)] ?_;(with_reducible refine(impl_isFigure.calls (bt a0 a1) true _ A5.out).mono ?_);rintro e w' ⟨rfl,⟨nd,rfl⟩⟩;refine⟨_,rfl,?_⟩))
     go_roundg k1
     case measure=>have:=a2.out;omega
     case rel=>exact⟨(wrap64 (a1+1)),zS,H',⟨by have:=a2.out;omega⟩,zv0⟩
    obtain rfl:=zm H;have p4:0≤(a1:Int):=zD;have q4:a1<(a0.size:Int):=zD;have a5:=bt_at a0 a1;replace p4:=eq_true p4;replace q4:=eq_true q4;go_wp2_with (first|((with_reducible refine zq 116 ?_);refine zg (some 13) Tryz.func116 #[.int .u8 (bt a0 a1)] ?_;(with_reducible refine(impl_isFigure.calls (bt a0 a1) false _ A5.out).mono ?_);rintro e w' ⟨rfl,⟨nd,rfl⟩⟩;refine⟨_,rfl,?_⟩))
    go_ret;exact⟨by first|rfl|(simp;done)|(simp[*];done)|(simp;rw[Bool.eq_iff_iff];simp;done),zv0⟩
   obtain rfl:=zm H;go_wp2;go_ret;exact⟨by first|rfl|(simp;done)|(simp[*];done)|(simp;rw[Bool.eq_iff_iff];simp;done),zv0⟩
/-! ### impl_preOk: function 93 -/
mutual
def impl_preOk.l0:Nat→ByteArray→Int→Option (Bool)
 | 0,_,_=>none
 | k+1,x0,x3=>if x3<(x0.size:Int) then (impl_preOk.j1 k x0 x3) else ((impl_inRange.f (x0.size:Int) 1 8).bind fun a0=>(if a0=true then ((impl_isFigures.f k x0).bind fun a1=>(if a1=true then (if x0.toList=([48]:List UInt8) then (some true) else (if 0<(x0.size:Int) then (some ((bt x0 0) != 48)) else (none))) else (some true))) else (some false)))
def impl_preOk.j1:Nat→ByteArray→Int→Option (Bool)
 | 0,_,_=>none
 | k+1,x0,x3=>if 0≤x3 then (if x3<(x0.size:Int) then ((impl_isSmall.f (bt x0 x3)).bind fun a2=>(if a2=true then (impl_preOk.l0 k x0 (wrap64 (x3+1))) else (if (bt x0 x3)≥65 then (if ((bt x0 x3)≤90) then (impl_preOk.l0 k x0 (wrap64 (x3+1))) else ((impl_isFigure.f (bt x0 x3)).bind fun a3=>(if a3=true then (impl_preOk.l0 k x0 (wrap64 (x3+1))) else (if (bt x0 x3)=45 then (impl_preOk.l0 k x0 (wrap64 (x3+1))) else (some false))))) else ((impl_isFigure.f (bt x0 x3)).bind fun a4=>(if a4=true then (impl_preOk.l0 k x0 (wrap64 (x3+1))) else (if (bt x0 x3)=45 then (impl_preOk.l0 k x0 (wrap64 (x3+1))) else (some false))))))) else (none)) else (none)
end
def impl_preOk.f (k:Nat) (a0:ByteArray):Option (Bool):=impl_preOk.l0 k a0 0
theorem impl_preOk.calls (k:Nat) (a0:ByteArray) (r:Bool) (w:World) (h:impl_preOk.f k a0=some r) :
  Calls Tryz.prog 93 #[.string a0] w fun e w'=>e=.returned (.bool r)∧Drawn0 w w':=by
 unfold impl_preOk.f at h;have H:=h;clear h;have H':=zA H;clear H;go_enter Tryz.func93,Tryz.ntmps93;go_wp2;go_loopg [3] k (fun kq v3 w'=>∃ (a1:Int),v3=.int .i64 a1∧Aside0 (impl_preOk.l0 kq a0 a1=some r)∧Aside0 (kq≤k)∧Drawn0 w w')
 case atStart=>exact⟨(0),zS,H',⟨Nat.le_refl _⟩,zv0⟩
 case round=>
  clear H';obtain⟨a1,rfl,HA,a4,⟨m1,rfl⟩⟩:=hrel;cases gk with
  | zero=>exact absurd HA.out (by simp[impl_preOk.l0])
  | succ k1=>
   have H:=HA.out;clear HA;simp only[impl_preOk.l0] at H;have b5:=zA H;clear H;go_upto_if 8 with (fail)
   go_cut [] (fun wc=>∃ (kq:Nat),Aside0 (impl_preOk.j1 kq a0 a1=some r)∧Aside0 (kq≤k1)∧Drawn0 w wc)
   case first=>
    have H:=b5.out;clear b5;replace H:=zI0 H;rcases H with ⟨a8,H⟩|⟨a8,H⟩
    ·(first|rw[a8]|(simp only[i64_w,i32_w];rw[a8])|skip);have H':=zA H;clear H;go_wp2;go_meet
     case rel=>exact⟨_,(by first|exact H'|(subst_vars;exact H')),⟨by have:=a4.out;first|omega|exact Nat.le_refl _⟩,zv0⟩
    (first|rw[a8]|(simp only[i64_w,i32_w];rw[a8])|skip);replace H:=Option.bind_eq_some_iff.mp H;obtain⟨e1,b9,H⟩:=H;(try dsimp only at H);have A4:=zA b9;clear b9;replace H:=zB0 H;rcases H with ⟨rfl,H⟩|⟨rfl,H⟩
    ·replace H:=Option.bind_eq_some_iff.mp H;obtain⟨e2,c0,H⟩:=H;(try dsimp only at H);have A6:=zA c0;clear c0;replace H:=zB0 H;rcases H with ⟨rfl,H⟩|⟨rfl,H⟩
     ·replace H:=zI1 H;rcases H with ⟨c8,H⟩|⟨c8,H⟩
      ·have c1:=beq_iff_eq.mpr c8;have c2:=bne_eq_false_iff_eq.mpr c8;clear c8;obtain rfl:=zm H;go_wp2_with (first|((with_reducible refine zq 94 ?_);refine zg (some 37) Tryz.func94 #[.int .i64 (a0.size:Int),.int .i64 1,.int .i64 8] ?_;(with_reducible refine(impl_inRange.calls (a0.size:Int) 1 8 true _ A4.out).mono ?_);rintro e w' ⟨rfl,⟨nd,rfl⟩⟩;refine⟨_,rfl,?_⟩)|(go_at_call 142;(with_reducible refine(impl_isFigures.calls k1 a0 true _ A6.out).mono ?_);rintro e w' ⟨rfl,⟨nd,rfl⟩⟩))
       go_ret;exact⟨by first|rfl|(simp;done)|(simp[*];done)|(simp;rw[Bool.eq_iff_iff];simp;done),zv0⟩
      have c1:=beq_eq_false_iff_ne.mpr c8;have c2:=bne_iff_ne.mpr c8;replace H:=zC0 H;obtain⟨c9,H⟩:=H;have d1:=decide_eq_true c9;have d2:decide (0<a0.size)=true:=decide_eq_true (by omega);clear c9;obtain rfl:=zm H;go_wp2_with (first|((with_reducible refine zq 94 ?_);refine zg (some 37) Tryz.func94 #[.int .i64 (a0.size:Int),.int .i64 1,.int .i64 8] ?_;(with_reducible refine(impl_inRange.calls (a0.size:Int) 1 8 true _ A4.out).mono ?_);rintro e w' ⟨rfl,⟨nd,rfl⟩⟩;refine⟨_,rfl,?_⟩)|(go_at_call 142;(with_reducible refine(impl_isFigures.calls k1 a0 true _ A6.out).mono ?_);rintro e w' ⟨rfl,⟨nd,rfl⟩⟩;have b6:0≤(0:Int):=(by omega);have b4:0<a0.size:=(by have:(0:Int)<(a0.size:Int):=zD;omega);have d3:∀ h:0<a0.size,((a0[0]'h).toNat:Int)=bt a0 0:=bt_at a0 0;clear b6;have d4:(0<(a0.size:Int))=True:=eq_true (zD);replace b4:=eq_true b4))
      go_ret;exact⟨by first|rfl|(simp;done)|(simp[*];done)|(simp;rw[Bool.eq_iff_iff];simp;done),zv0⟩
     obtain rfl:=zm H;go_wp2_with (first|((with_reducible refine zq 94 ?_);refine zg (some 37) Tryz.func94 #[.int .i64 (a0.size:Int),.int .i64 1,.int .i64 8] ?_;(with_reducible refine(impl_inRange.calls (a0.size:Int) 1 8 true _ A4.out).mono ?_);rintro e w' ⟨rfl,⟨nd,rfl⟩⟩;refine⟨_,rfl,?_⟩)|(go_at_call 142;(with_reducible refine(impl_isFigures.calls k1 a0 false _ A6.out).mono ?_);rintro e w' ⟨rfl,⟨nd,rfl⟩⟩))
     go_ret;exact⟨by first|rfl|(simp;done)|(simp[*];done)|(simp;rw[Bool.eq_iff_iff];simp;done),zv0⟩
    obtain rfl:=zm H;go_wp2_with (first|((with_reducible refine zq 94 ?_);refine zg (some 37) Tryz.func94 #[.int .i64 (a0.size:Int),.int .i64 1,.int .i64 8] ?_;(with_reducible refine(impl_inRange.calls (a0.size:Int) 1 8 false _ A4.out).mono ?_);rintro e w' ⟨rfl,⟨nd,rfl⟩⟩;refine⟨_,rfl,?_⟩))
    go_ret;exact⟨by first|rfl|(simp;done)|(simp[*];done)|(simp;rw[Bool.eq_iff_iff];simp;done),zv0⟩
   case rest=>
    clear b5;obtain⟨kq,HA,a5,⟨e3,rfl⟩⟩:=hcut;cases kq with
    | zero=>exact absurd HA.out (by simp[impl_preOk.j1])
    | succ a9=>
     have H:=HA.out;clear HA;simp only[impl_preOk.j1] at H;replace H:=zD0 H;obtain⟨e4,H⟩:=H;replace H:=zD0 H;obtain⟨e5,H⟩:=H;replace H:=Option.bind_eq_some_iff.mp H;obtain⟨e6,c4,H⟩:=H;(try dsimp only at H);have a6:=zA c4;clear c4;replace H:=zB0 H;rcases H with ⟨rfl,H⟩|⟨rfl,H⟩
     ·have H':=zA H;clear H;have a2:0≤(a1:Int):=zD;have a3:a1<(a0.size:Int):=zD;have a7:=bt_at a0 a1;replace a2:=eq_true a2;replace a3:=eq_true a3;go_wp2_with (first|((with_reducible refine zq 115 ?_);refine zg (some 15) Tryz.func115 #[.int .u8 (bt a0 a1)] ?_;(with_reducible refine(impl_isSmall.calls (bt a0 a1) true _ a6.out).mono ?_);rintro e w' ⟨rfl,⟨nd,rfl⟩⟩;refine⟨_,rfl,?_⟩))
      go_roundg a9
      case measure=>have:=a4.out;have:=a5.out;omega
      case rel=>exact⟨(wrap64 (a1+1)),zS,H',⟨by have:=a4.out;have:=a5.out;omega⟩,zv0⟩
     replace H:=zI1 H;rcases H with ⟨b2,H⟩|⟨b2,H⟩
     ·have d5:decide (65≤(bt a0 a1))=true:=decide_eq_true b2;clear b2;replace H:=zI1 H;rcases H with ⟨b3,H⟩|⟨b3,H⟩
      ·have d6:decide ((bt a0 a1)≤90)=true:=decide_eq_true b3;clear b3;have H':=zA H;clear H;have a2:0≤(a1:Int):=zD;have a3:a1<(a0.size:Int):=zD;have a7:=bt_at a0 a1;replace a2:=eq_true a2;replace a3:=eq_true a3;go_wp2_with (first|((with_reducible refine zq 115 ?_);refine zg (some 15) Tryz.func115 #[.int .u8 (bt a0 a1)] ?_;(with_reducible refine(impl_isSmall.calls (bt a0 a1) false _ a6.out).mono ?_);rintro e w' ⟨rfl,⟨nd,rfl⟩⟩;refine⟨_,rfl,?_⟩))
       go_roundg a9
       case measure=>have:=a4.out;have:=a5.out;omega
       case rel=>exact⟨(wrap64 (a1+1)),zS,H',⟨by have:=a4.out;have:=a5.out;omega⟩,zv0⟩
      have d6:decide ((bt a0 a1)≤90)=false:=decide_eq_false b3;clear b3;replace H:=Option.bind_eq_some_iff.mp H;obtain⟨e7,c6,H⟩:=H;(try dsimp only at H);have b7:=zA c6;clear c6;replace H:=zB0 H;rcases H with ⟨rfl,H⟩|⟨rfl,H⟩
      ·have H':=zA H;clear H;have a2:0≤(a1:Int):=zD;have a3:a1<(a0.size:Int):=zD;have a7:=bt_at a0 a1;replace a2:=eq_true a2;replace a3:=eq_true a3;go_wp2_with (first|((with_reducible refine zq 115 ?_);refine zg (some 15) Tryz.func115 #[.int .u8 (bt a0 a1)] ?_;(with_reducible refine(impl_isSmall.calls (bt a0 a1) false _ a6.out).mono ?_);rintro e w' ⟨rfl,⟨nd,rfl⟩⟩;refine⟨_,rfl,?_⟩)|(go_at_call 116;(with_reducible refine(impl_isFigure.calls (bt a0 a1) true _ b7.out).mono ?_);rintro e w' ⟨rfl,⟨nd,rfl⟩⟩))
       go_roundg a9
       case measure=>have:=a4.out;have:=a5.out;omega
       case rel=>exact⟨(wrap64 (a1+1)),zS,H',⟨by have:=a4.out;have:=a5.out;omega⟩,zv0⟩
      replace H:=zI1 H;rcases H with ⟨b0,H⟩|⟨b0,H⟩
      ·have d7:=beq_iff_eq.mpr b0;have d8:=bne_eq_false_iff_eq.mpr b0;clear b0;have H':=zA H;clear H;have a2:0≤(a1:Int):=zD;have a3:a1<(a0.size:Int):=zD;have a7:=bt_at a0 a1;replace a2:=eq_true a2;replace a3:=eq_true a3;go_wp2_with (first|((with_reducible refine zq 115 ?_);refine zg (some 15) Tryz.func115 #[.int .u8 (bt a0 a1)] ?_;(with_reducible refine(impl_isSmall.calls (bt a0 a1) false _ a6.out).mono ?_);rintro e w' ⟨rfl,⟨nd,rfl⟩⟩;refine⟨_,rfl,?_⟩)|(go_at_call 116;(with_reducible refine(impl_isFigure.calls (bt a0 a1) false _ b7.out).mono ?_);rintro e w' ⟨rfl,⟨nd,rfl⟩⟩))
       go_roundg a9
       case measure=>have:=a4.out;have:=a5.out;omega
       case rel=>exact⟨(wrap64 (a1+1)),zS,H',⟨by have:=a4.out;have:=a5.out;omega⟩,zv0⟩
      have d7:=beq_eq_false_iff_ne.mpr b0;have d8:=bne_iff_ne.mpr b0;obtain rfl:=zm H;have a2:0≤(a1:Int):=zD;have a3:a1<(a0.size:Int):=zD;have a7:=bt_at a0 a1;replace a2:=eq_true a2;replace a3:=eq_true a3;go_wp2_with (first|((with_reducible refine zq 115 ?_);refine zg (some 15) Tryz.func115 #[.int .u8 (bt a0 a1)] ?_;(with_reducible refine(impl_isSmall.calls (bt a0 a1) false _ a6.out).mono ?_);rintro e w' ⟨rfl,⟨nd,rfl⟩⟩;refine⟨_,rfl,?_⟩)|(go_at_call 116;(with_reducible refine(impl_isFigure.calls (bt a0 a1) false _ b7.out).mono ?_);rintro e w' ⟨rfl,⟨nd,rfl⟩⟩))
      go_ret;exact⟨by first|rfl|(simp;done)|(simp[*];done)|(simp;rw[Bool.eq_iff_iff];simp;done),zv0⟩
     have d5:decide (65≤(bt a0 a1))=false:=decide_eq_false b2;clear b2;replace H:=Option.bind_eq_some_iff.mp H;obtain⟨e8,d0,H⟩:=H;(try dsimp only at H);have b8:=zA d0;clear d0;replace H:=zB0 H;rcases H with ⟨rfl,H⟩|⟨rfl,H⟩
     ·have H':=zA H;clear H;have a2:0≤(a1:Int):=zD;have a3:a1<(a0.size:Int):=zD;have a7:=bt_at a0 a1;replace a2:=eq_true a2;replace a3:=eq_true a3;go_wp2_with (first|((with_reducible refine zq 115 ?_);refine zg (some 15) Tryz.func115 #[.int .u8 (bt a0 a1)] ?_;(with_reducible refine(impl_isSmall.calls (bt a0 a1) false _ a6.out).mono ?_);rintro e w' ⟨rfl,⟨nd,rfl⟩⟩;refine⟨_,rfl,?_⟩)|(go_at_call 116;(with_reducible refine(impl_isFigure.calls (bt a0 a1) true _ b8.out).mono ?_);rintro e w' ⟨rfl,⟨nd,rfl⟩⟩))
      go_roundg a9
      case measure=>have:=a4.out;have:=a5.out;omega
      case rel=>exact⟨(wrap64 (a1+1)),zS,H',⟨by have:=a4.out;have:=a5.out;omega⟩,zv0⟩
     replace H:=zI1 H;rcases H with ⟨b1,H⟩|⟨b1,H⟩
     ·have d9:=beq_iff_eq.mpr b1;have e0:=bne_eq_false_iff_eq.mpr b1;clear b1;have H':=zA H;clear H;have a2:0≤(a1:Int):=zD;have a3:a1<(a0.size:Int):=zD;have a7:=bt_at a0 a1;replace a2:=eq_true a2;replace a3:=eq_true a3;go_wp2_with (first|((with_reducible refine zq 115 ?_);refine zg (some 15) Tryz.func115 #[.int .u8 (bt a0 a1)] ?_;(with_reducible refine(impl_isSmall.calls (bt a0 a1) false _ a6.out).mono ?_);rintro e w' ⟨rfl,⟨nd,rfl⟩⟩;refine⟨_,rfl,?_⟩)|(go_at_call 116;(with_reducible refine(impl_isFigure.calls (bt a0 a1) false _ b8.out).mono ?_);rintro e w' ⟨rfl,⟨nd,rfl⟩⟩))
      go_roundg a9
      case measure=>have:=a4.out;have:=a5.out;omega
      case rel=>exact⟨(wrap64 (a1+1)),zS,H',⟨by have:=a4.out;have:=a5.out;omega⟩,zv0⟩
     have d9:=beq_eq_false_iff_ne.mpr b1;have e0:=bne_iff_ne.mpr b1;obtain rfl:=zm H;have a2:0≤(a1:Int):=zD;have a3:a1<(a0.size:Int):=zD;have a7:=bt_at a0 a1;replace a2:=eq_true a2;replace a3:=eq_true a3;go_wp2_with (first|((with_reducible refine zq 115 ?_);refine zg (some 15) Tryz.func115 #[.int .u8 (bt a0 a1)] ?_;(with_reducible refine(impl_isSmall.calls (bt a0 a1) false _ a6.out).mono ?_);rintro e w' ⟨rfl,⟨nd,rfl⟩⟩;refine⟨_,rfl,?_⟩)|(go_at_call 116;(with_reducible refine(impl_isFigure.calls (bt a0 a1) false _ b8.out).mono ?_);rintro e w' ⟨rfl,⟨nd,rfl⟩⟩))
     go_ret;exact⟨by first|rfl|(simp;done)|(simp[*];done)|(simp;rw[Bool.eq_iff_iff];simp;done),zv0⟩
/-! ### impl_VerOk: function 54 -/
def impl_VerOk.l0:Nat→List ByteArray→Int→Int→Int→Int→Int→List ByteArray→Option (Bool)
 | 0,_,_,_,_,_,_,_=>none
 | k+1,x6,x7,x8,a0,a1,a2,a3=>if x8<x7 then (if 0≤x8 then (if x8<(x6.length:Int) then ((impl_preOk.f k (rdOf ByteArray.empty x6 x8)).bind fun a4=>(if a4=true then (impl_VerOk.l0 k x6 x7 (wrap64 (x8+1)) a0 a1 a2 a3) else (some false))) else (none)) else (none)) else ((impl_inRange.f a0 0 9999).bind fun a5=>(if a5=true then ((impl_inRange.f a1 0 9999).bind fun a6=>(if a6=true then ((impl_inRange.f a2 0 9999).bind fun a7=>(if a7=true then (some (decide ((a3.length:Int)≤3))) else (some false))) else (some false))) else (some false)))
def impl_VerOk.f (k:Nat) (a1 a2 a3:Int) (a0:List ByteArray):Option (Bool):=impl_VerOk.l0 k a0 (a0.length:Int) 0 a1 a2 a3 a0
theorem impl_VerOk.calls (k:Nat) (a2 a3 a5:Int) (a9:Option Addr) (b0:Nat) (a0:List ByteArray) (r:Bool) (w:World) (b3:Kd.C Kd.string w a9 a0.length a0) (b4:a0.length≤b0) (h:impl_VerOk.f k a2 a3 a5 a0=some r) :
  Calls Tryz.prog 54 #[.agg #[.int .i64 a2,.int .i64 a3,.int .i64 a5,.slice a9 a0.length b0]] w fun e w'=>e=.returned (.bool r)∧Below w.heap.size w w':=by
 have d3:=Tryz.underlying30;have b5:=zA b3;have d4:=zA b4;clear b3 b4;have HB:=zA (Below.refl w.heap.size w);unfold impl_VerOk.f at h;have H:=h;clear h;have H':=zA H;clear H;go_enter Tryz.func54,Tryz.ntmps54;go_wp2_with (first|((with_reducible refine gate_dst (N:=1) rfl ?_);(try(refine gate_guard (by rfl) ?_;dsimp only));refine box_event ?hg (N:=1) ?hd (cs:=#[.int .i64 a2,.int .i64 a3,.int .i64 a5,.slice a9 a0.length b0]) (t:=30) ?hr ?_;(case hd=>rfl);(case hg=>rfl);(case hr=>first|(go_simp;done)|(go_simp;rfl));intro c2 hg w2 hbox hb;have a4:=zA (hbox);have d5:=zi HB hg;have d6:=zi HB hg;replace HB:=zA (below_step (zB) hb);clear hb hbox hg;obtain⟨c3,c4,c5,c6,c7,c8,c9,d0⟩:=ze4 a4.out))
 go_loopg [8] k (fun kq v8 w'=>∃ (a1:Int),v8=.int .i64 a1∧Aside0 (impl_VerOk.l0 kq a0 (a0.length:Int) a1 a2 a3 a5 a0=some r)∧Aside0 (kq≤k)∧Aside0 (w'.heap[c2]?=some (.cells #[.int .i64 a2,.int .i64 a3,.int .i64 a5,(.slice a9 a0.length b0)] 30 (0,0)))∧Aside0 (Below w.heap.size w w'))
 case atStart=>exact⟨(0),zS,H',⟨Nat.le_refl _⟩,⟨zK a4.out⟩,⟨zW HB.out⟩⟩
 case round=>
  clear H';(try clear c3 c4 c5 c6 c7 c8 c9 d0);obtain⟨a1,rfl,HA,b6,a4,HB⟩:=hrel;cases gk with
  | zero=>exact absurd HA.out (by simp[impl_VerOk.l0])
  | succ k1=>
   have H:=HA.out;clear HA;simp only[impl_VerOk.l0] at H;replace H:=zI0 H;rcases H with ⟨d1,H⟩|⟨d1,H⟩
   ·replace H:=zD0 H;obtain⟨d7,H⟩:=H;replace H:=zD0 H;obtain⟨d8,H⟩:=H;replace H:=Option.bind_eq_some_iff.mp H;obtain⟨d9,b7,H⟩:=H;(try dsimp only at H);have A7:=zA b7;clear b7;replace H:=zB0 H;rcases H with ⟨rfl,H⟩|⟨rfl,H⟩
    ·have H':=zA H;clear H;have a6:0≤(a1:Int):=zD;have a7:a1<(a0.length:Int):=zD;obtain⟨d2,b1,a8⟩:=Kd.at_string b5.out a1 a6 a7;cases b1;replace a8:=zx HB a8;replace a6:=eq_true a6;replace a7:=eq_true a7;go_wp2_with (first|((with_reducible refine zq 93 ?_);refine zg (some 13) Tryz.func93 #[.string (rdOf ByteArray.empty a0 a1)] ?_;(with_reducible refine(impl_preOk.calls k1 (rdOf ByteArray.empty a0 a1) true _ A7.out).mono ?_);rintro e w' ⟨rfl,⟨nd,rfl⟩⟩;refine⟨_,rfl,?_⟩))
     go_roundg k1
     case measure=>have:=b6.out;omega
     case rel=>exact⟨(wrap64 (a1+1)),zS,H',⟨by have:=b6.out;omega⟩,⟨zK a4.out⟩,⟨zW HB.out⟩⟩
    obtain rfl:=zm H;have a6:0≤(a1:Int):=zD;have a7:a1<(a0.length:Int):=zD;obtain⟨d2,b1,a8⟩:=Kd.at_string b5.out a1 a6 a7;cases b1;replace a8:=zx HB a8;replace a6:=eq_true a6;replace a7:=eq_true a7;go_wp2_with (first|((with_reducible refine zq 93 ?_);refine zg (some 13) Tryz.func93 #[.string (rdOf ByteArray.empty a0 a1)] ?_;(with_reducible refine(impl_preOk.calls k1 (rdOf ByteArray.empty a0 a1) false _ A7.out).mono ?_);rintro e w' ⟨rfl,⟨nd,rfl⟩⟩;refine⟨_,rfl,?_⟩))
    go_ret;exact⟨zE,zW HB.out⟩
   replace H:=Option.bind_eq_some_iff.mp H;obtain⟨e0,b8,H⟩:=H;(try dsimp only at H);have A9:=zA b8;clear b8;replace H:=zB0 H;rcases H with ⟨rfl,H⟩|⟨rfl,H⟩
   ·replace H:=Option.bind_eq_some_iff.mp H;obtain⟨e1,b9,H⟩:=H;(try dsimp only at H);have b2:=zA b9;clear b9;replace H:=zB0 H;rcases H with ⟨rfl,H⟩|⟨rfl,H⟩
    ·replace H:=Option.bind_eq_some_iff.mp H;obtain⟨e2,c0,H⟩:=H;(try dsimp only at H);have c1:=zA c0;clear c0;replace H:=zB0 H;rcases H with ⟨rfl,H⟩|⟨rfl,H⟩
     ·obtain rfl:=zm H;obtain⟨e3,e4,e5,e6,e7,e8,e9,f0⟩:=ze4 a4.out;go_wp2_with (first|((with_reducible refine zq 94 ?_);refine zg (some 18) Tryz.func94 #[.int .i64 a2,.int .i64 0,.int .i64 9999] ?_;(with_reducible refine(impl_inRange.calls a2 0 9999 true _ A9.out).mono ?_);rintro e w' ⟨rfl,⟨nd,rfl⟩⟩;refine⟨_,rfl,?_⟩)|(go_at_call 94;(with_reducible refine(impl_inRange.calls a3 0 9999 true _ b2.out).mono ?_);rintro e w' ⟨rfl,⟨nd,rfl⟩⟩)|(go_at_call 94;(with_reducible refine(impl_inRange.calls a5 0 9999 true _ c1.out).mono ?_);rintro e w' ⟨rfl,⟨nd,rfl⟩⟩))
      go_ret;exact⟨zE,zW HB.out⟩
     obtain rfl:=zm H;obtain⟨f1,f2,f3,f4,f5,f6,f7,f8⟩:=ze4 a4.out;go_wp2_with (first|((with_reducible refine zq 94 ?_);refine zg (some 18) Tryz.func94 #[.int .i64 a2,.int .i64 0,.int .i64 9999] ?_;(with_reducible refine(impl_inRange.calls a2 0 9999 true _ A9.out).mono ?_);rintro e w' ⟨rfl,⟨nd,rfl⟩⟩;refine⟨_,rfl,?_⟩)|(go_at_call 94;(with_reducible refine(impl_inRange.calls a3 0 9999 true _ b2.out).mono ?_);rintro e w' ⟨rfl,⟨nd,rfl⟩⟩)|(go_at_call 94;(with_reducible refine(impl_inRange.calls a5 0 9999 false _ c1.out).mono ?_);rintro e w' ⟨rfl,⟨nd,rfl⟩⟩))
     go_ret;exact⟨zE,zW HB.out⟩
    obtain rfl:=zm H;obtain⟨f9,g0,g1,g2,g3,g4,g5,g6⟩:=ze4 a4.out;go_wp2_with (first|((with_reducible refine zq 94 ?_);refine zg (some 18) Tryz.func94 #[.int .i64 a2,.int .i64 0,.int .i64 9999] ?_;(with_reducible refine(impl_inRange.calls a2 0 9999 true _ A9.out).mono ?_);rintro e w' ⟨rfl,⟨nd,rfl⟩⟩;refine⟨_,rfl,?_⟩)|(go_at_call 94;(with_reducible refine(impl_inRange.calls a3 0 9999 false _ b2.out).mono ?_);rintro e w' ⟨rfl,⟨nd,rfl⟩⟩))
    go_ret;exact⟨zE,zW HB.out⟩
   obtain rfl:=zm H;obtain⟨g7,g8,g9,h0,h1,h2,h3,h4⟩:=ze4 a4.out;go_wp2_with (first|((with_reducible refine zq 94 ?_);refine zg (some 18) Tryz.func94 #[.int .i64 a2,.int .i64 0,.int .i64 9999] ?_;(with_reducible refine(impl_inRange.calls a2 0 9999 false _ A9.out).mono ?_);rintro e w' ⟨rfl,⟨nd,rfl⟩⟩;refine⟨_,rfl,?_⟩))
   go_ret;exact⟨zE,zW HB.out⟩
/-! ### strings_Trim: function 86 -/
def strings_Trim.f (a0 a1:ByteArray):Option ByteArray:=if a1.size=1∧bt a1 0<128∧a0.size≤9223372036854775807 then some ⟨(Lib.trimB a0.data.toList (bt a1 0).toNat.toUInt8).toArray⟩ else none
theorem strings_Trim.calls (a0 a1 r:ByteArray) (w:World) (h:strings_Trim.f a0 a1=some r) :
  Calls Tryz.prog 86 #[.string a0,.string a1] w fun e w'=>e=.returned (.string r)∧Drawn0 w w':=by
 unfold strings_Trim.f at h;split at h
 ·rename_i hs;obtain rfl:=Option.some.inj h;obtain⟨c,rfl⟩:=Lb.one_byte hs.1;rw[Lb.bt_one] at hs ⊢;refine(Tryz.strings_Trim_one a0 c (by omega) w hs.2.2).mono ?_;rintro e w' ⟨rfl,hw⟩;refine⟨by simp,?_⟩;rcases hw with rfl|rfl
  ·exact Drawn0.refl _
  ·exact⟨⟨1,rfl⟩⟩
 ·cases h
/-! ### strings_Join: function 63 -/
def strings_Join.f (l0:List ByteArray) (a1:ByteArray):Option ByteArray:=if (Lib.join (l0.map (·.data.toList)) a1.data.toList).length≤140737488355328∧l0.length≤140737488355328 then some ⟨(Lib.join (l0.map (·.data.toList)) a1.data.toList).toArray⟩ else none
theorem strings_Join.calls (A0:Option Addr) (c0:Nat) (l0:List ByteArray) (a1 r:ByteArray) (w:World) (a0:Kd.C Kd.string w A0 l0.length l0) (a2:l0.length≤c0) (h:strings_Join.f l0 a1=some r) :
  Calls Tryz.prog 63 #[.slice A0 l0.length c0,.string a1] w fun e w'=>e=.returned (.string r)∧Below w.heap.size w w':=by
 unfold strings_Join.f at h;split at h
 ·rename_i hs;obtain rfl:=Option.some.inj h;rcases l0 with _|⟨x,l⟩
  ·refine(Tryz.strings_Join_none A0 c0 a1 w).mono ?_;rintro e w' ⟨rfl,rfl⟩;exact⟨rfl,Below.refl _ _⟩
  ·obtain⟨b,o,rfl,hcell⟩:=Lb.C_string_plain a0 (by simp);exact Tryz.strings_Join b o c0 (x :: l) a1 w hcell (World.block_lt_of_cell? w _ (hcell 0 x rfl)) hs.2 a2 hs.1
 ·cases h
/-! ### strconv_Itoa: function 147 -/
def strconv_Itoa.f (a0:Int):Option ByteArray:=if -9223372036854775808≤a0∧a0≤9223372036854775807 then some ⟨(Lib.itoa a0).toArray⟩ else none
theorem strconv_Itoa.calls (a0:Int) (r:ByteArray) (w:World) (hG:GW w) (h:strconv_Itoa.f a0=some r) :
  Calls Tryz.prog 147 #[.int .i64 a0] w fun e w'=>e=.returned (.string r)∧Below w.heap.size w w':=by
 unfold strconv_Itoa.f at h;split at h
 ·rename_i hs;obtain rfl:=Option.some.inj h;refine(Tryz.strconv_Itoa a0 hs.1 hs.2 w hG.pow10).mono ?_;rintro e w' ⟨rfl,k,os,rfl⟩;exact⟨rfl,Lb.below_grow w k os⟩
 ·cases h
/-! ### impl_NumText: function 102 -/
def impl_NumText.f (a0:Int):Option (ByteArray):=(strconv_Itoa.f (mx a0 0)).bind fun a1=>(some a1)
theorem impl_NumText.calls (a0:Int) (r:ByteArray) (w:World) (hG:GW w) (h:impl_NumText.f a0=some r) :
  Calls Tryz.prog 102 #[.int .i64 a0] w fun e w'=>e=.returned (.string r)∧Below w.heap.size w w':=by
 have HG:=zA hG;clear hG;have HB:=zA (Below.refl w.heap.size w);unfold impl_NumText.f at h;have H:=h;clear h;obtain⟨a1,a2⟩:∃ j_:Int,(mx a0 0)=j_:=⟨_,rfl⟩;replace H:((strconv_Itoa.f (a1)).bind fun a3=>(some a3))=some r:=by first|(rw[a2] at H;exact H)|(simp only[a2] at H ⊢;exact H)
 (try(have hji2l:0≤a1:=by(rw[← a2];unfold mx;(repeat' split) <;> omega)));(try(have hji2m:0≤a1:=by omega));have a5:(if a0<0 then 0 else a0)=a1:=a2;replace H:=Option.bind_eq_some_iff.mp H;obtain⟨a3,a4,H⟩:=H;(try dsimp only at H);have A3:=zA a4;clear a4;obtain rfl:=zm H;go_enter Tryz.func102,Tryz.ntmps102;go_wp2_with (first|((with_reducible refine gate_callee (f:=147) rfl ?_);refine goesL_ (some 5) rfl rfl Tryz.func147 (by kernel_rfl) rfl #[.int .i64 a1] rfl (by(try simp only[List.map_toArray,List.map_cons,List.map_nil]);first|done|(simp only[a2];rfl)|rfl|(simp only[List.length_drop,List.length_take];rfl)) ?_;(with_reducible refine(strconv_Itoa.calls a1 a3 _ ?s1 A3.out).mono ?_);(case s1=>exact GW.below HG.out (zB));rintro e w4 ⟨rfl,hb⟩;refine⟨_,rfl,?_⟩;replace HB:=zA (below_step (zB) hb);(try clear hb)))
 go_ret;exact⟨by first|rfl|(simp[errW_none,errW_some] <;> rfl)|(simp only[← a2];first|rfl|(simp[errW_none,errW_some] <;> rfl))|(simp[*,errW_none,errW_some] <;> rfl),zB⟩
/-! ### impl_VerText: function 62 -/
def impl_VerText.j0:Nat→Int→Int→Int→List ByteArray→Option (ByteArray)
 | 0,_,_,_,_=>none
 | k+1,a5,a6,a7,a4=>(impl_NumText.f a5).bind fun a0=>(if a0.size+1≤9223372036854775807 then ((impl_NumText.f a6).bind fun a1=>(if (a0++(⟨#[46]⟩:ByteArray)).size+a1.size≤9223372036854775807 then (if ((a0++(⟨#[46]⟩:ByteArray))++a1).size+1≤9223372036854775807 then ((impl_NumText.f a7).bind fun a2=>(if (((a0++(⟨#[46]⟩:ByteArray))++a1)++(⟨#[46]⟩:ByteArray)).size+a2.size≤9223372036854775807 then (if (a4.length:Int)>0 then ((strings_Join.f a4 (⟨#[46]⟩:ByteArray)).bind fun a3=>(if 1+a3.size≤9223372036854775807 then (if ((((a0++(⟨#[46]⟩:ByteArray))++a1)++(⟨#[46]⟩:ByteArray))++a2).size+((⟨#[45]⟩:ByteArray)++a3).size≤9223372036854775807 then (some (((((a0++(⟨#[46]⟩:ByteArray))++a1)++(⟨#[46]⟩:ByteArray))++a2)++((⟨#[45]⟩:ByteArray)++a3))) else (none)) else (none))) else (some ((((a0++(⟨#[46]⟩:ByteArray))++a1)++(⟨#[46]⟩:ByteArray))++a2))) else (none))) else (none)) else (none))) else (none))
def impl_VerText.f (k:Nat) (a0 a1 a2:Int) (a3:List ByteArray):Option (ByteArray):=(impl_VerOk.f k a0 a1 a2 a3).bind fun a4=>(if a4=true then (impl_VerText.j0 k a0 a1 a2 a3) else (some (⟨#[]⟩:ByteArray)))
def impl_VerText.T3:Bool × List (List Nat × List Nat):=(true,[([],[]),([0],[0]),([1],[1]),([2],[2]),([],[]),([4],[4]),([5,2],[5]),([3,6],[3,6]),([7],[7]),([],[]),([9],[9]),([10,6],[10]),([8,11],[8,11]),([12,11,0,1,2,3,4,5,6,7,8,9,10,11,12],[12])])
def impl_VerText.B3:List Nat:=[0,1,3,7,0,16,55,127,255,0,512,1655,4095,8191]
theorem impl_VerText.tab3:rtab .any (opsOf Tryz.f62 3)=impl_VerText.T3:=by kernel_rfl
theorem impl_VerText.bits3:waitsOk impl_VerText.T3.2 impl_VerText.B3=true:=by kernel_rfl
theorem impl_VerText.calls (k:Nat) (a2 a3 a4:Int) (a8:Option Addr) (a9:Nat) (a1:List ByteArray) (r:ByteArray) (w:World) (b9:Kd.C Kd.string w a8 a1.length a1) (c0:a1.length≤a9) (hG:GW w) (h:impl_VerText.f k a2 a3 a4 a1=some r) :
  Calls Tryz.prog 62 #[.agg #[.int .i64 a2,.int .i64 a3,.int .i64 a4,.slice a8 a1.length a9]] w fun e w'=>e=.returned (.string r)∧Below w.heap.size w w':=by
 have e6:=Tryz.underlying30;have c1:=zA b9;have c2:=zA c0;clear b9 c0;have HG:=zA hG;clear hG;have HB:=zA (Below.refl w.heap.size w);unfold impl_VerText.f at h;have H:=h;clear h;replace H:=Option.bind_eq_some_iff.mp H;obtain⟨d4,c3,H⟩:=H;(try dsimp only at H);have A2:=zA c3;clear c3;have b7:=zA H;clear H;go_enter Tryz.func62,Tryz.ntmps62;go_upto_if 6 with (first|((with_reducible refine zd 1 ?_);refine ze 1 30 #[.int .i64 a2,.int .i64 a3,.int .i64 a4,.slice a8 a1.length a9] ?_;intro a7 hg w4 hbox hb;have a0:=zA (hbox);have e7:=zi HB hg;have e8:=zi HB hg;replace HB:=zA (below_step (zB) hb);clear hb hbox hg;obtain⟨d5,d6,d7,d8,d9,e0,e1,e2⟩:=ze4 a0.out)|((with_reducible refine zq 54 ?_);refine zg (some 5) Tryz.func54 #[.agg #[.int .i64 a2,.int .i64 a3,.int .i64 a4,.slice a8 a1.length a9]] ?_;(with_reducible refine(impl_VerOk.calls k a2 a3 a4 _ _ a1 d4 _ ?s1 ?s2 A2.out).mono ?_);(case s1=>exact zC (Kd.C_below c1.out HB.out));(case s2=>exact c2.out);rintro e w6 ⟨rfl,hb⟩;refine⟨_,rfl,?_⟩;replace a0:=zb a0 hb;replace HB:=zh HB hb;(try clear hb)))
 (try simp only[Act.put,zT]);go_cut [] (fun wc=>∃ (kq:Nat),Aside0 (impl_VerText.j0 kq a2 a3 a4 a1=some r)∧Aside0 (kq≤k)∧Aside0 (wc.heap[a7]?=some (.cells #[.int .i64 a2,.int .i64 a3,.int .i64 a4,(.slice a8 a1.length a9)] 30 (0,0)))∧Aside0 (Below w.heap.size w wc))
 case first=>
  have H:=b7.out;clear b7;replace H:=zB0 H;rcases H with ⟨rfl,H⟩|⟨rfl,H⟩
  ·have H':=zA H;clear H;go_wp2;go_meet
   case rel=>exact⟨_,(by first|exact H'|(subst_vars;exact H')),⟨by first|omega|exact Nat.le_refl _⟩,⟨zK a0.out⟩,⟨zW HB.out⟩⟩
  obtain rfl:=zm H;go_wp2;go_ret;exact⟨zE,zW HB.out⟩
 case rest=>
  clear b7;(try clear d5 d6 d7 d8 d9 e0 e1 e2);obtain⟨kq,HA,e9,a0,HB⟩:=hcut;cases kq with
  | zero=>exact absurd HA.out (by simp[impl_VerText.j0])
  | succ f0=>
   have H:=HA.out;clear HA;simp only[impl_VerText.j0] at H;replace H:=Option.bind_eq_some_iff.mp H;obtain⟨a5,c4,H⟩:=H;(try dsimp only at H);have A8:=zA c4;clear c4;replace H:=zC0 H;obtain⟨c9,H⟩:=H;have f1:=eq_true c9;have f2:=decide_eq_true c9;(try have f3:(9223372036854775807<a5.size+1)=False:=eq_false (Nat.not_lt.2 c9));replace H:=Option.bind_eq_some_iff.mp H;obtain⟨a6,c8,H⟩:=H;(try dsimp only at H);have d0:=zA c8;clear c8;replace H:=zC0 H;obtain⟨b2,H⟩:=H;have f4:=eq_true b2;have f5:=decide_eq_true b2;(try have f6:(9223372036854775807<(a5++(⟨#[46]⟩:ByteArray)).size+a6.size)=False:=eq_false (Nat.not_lt.2 b2));(try have f7:(9223372036854775807<a5.size+1+a6.size)=False:=(by have z_:=b2;(try simp only[ByteArray.size_append] at z_);exact eq_false (Nat.not_lt.2 z_)));replace H:=zC0 H;obtain⟨b3,H⟩:=H;have f8:=eq_true b3;have f9:=decide_eq_true b3;(try have g0:(9223372036854775807<((a5++(⟨#[46]⟩:ByteArray))++a6).size+1)=False:=eq_false (Nat.not_lt.2 b3));(try have g1:(9223372036854775807<a5.size+1+a6.size+1)=False:=(by have z_:=b3;(try simp only[ByteArray.size_append] at z_);exact eq_false (Nat.not_lt.2 z_)));replace H:=Option.bind_eq_some_iff.mp H;obtain⟨b0,d1,H⟩:=H;(try dsimp only at H);have d2:=zA d1;clear d1;replace H:=zC0 H;obtain⟨b4,H⟩:=H;have g2:=eq_true b4;have g3:=decide_eq_true b4;(try have g4:(9223372036854775807<(((a5++(⟨#[46]⟩:ByteArray))++a6)++(⟨#[46]⟩:ByteArray)).size+b0.size)=False:=eq_false (Nat.not_lt.2 b4));(try have g5:(9223372036854775807<a5.size+1+a6.size+1+b0.size)=False:=(by have z_:=b4;(try simp only[ByteArray.size_append] at z_);exact eq_false (Nat.not_lt.2 z_)));replace H:=zI1 H;rcases H with ⟨b1,H⟩|⟨b1,H⟩
   ·have e3:decide (0<(a1.length:Int))=true:=decide_eq_true b1;have e4:decide (0<a1.length)=true:=decide_eq_true (by omega);clear b1;replace H:=Option.bind_eq_some_iff.mp H;obtain⟨b5,d3,H⟩:=H;(try dsimp only at H);have e5:=zA d3;clear d3;replace H:=zC0 H;obtain⟨b8,H⟩:=H;have g6:=eq_true b8;have g7:=decide_eq_true b8;(try have g8:(9223372036854775807<1+b5.size)=False:=eq_false (Nat.not_lt.2 b8));replace H:=zC0 H;obtain⟨b6,H⟩:=H;have g9:=eq_true b6;have h0:=decide_eq_true b6;(try have h1:(9223372036854775807<((((a5++(⟨#[46]⟩:ByteArray))++a6)++(⟨#[46]⟩:ByteArray))++b0).size+((⟨#[45]⟩:ByteArray)++b5).size)=False:=eq_false (Nat.not_lt.2 b6));(try have h2:(9223372036854775807<a5.size+1+a6.size+1+b0.size+(1+b5.size))=False:=(by have z_:=b6;(try simp only[ByteArray.size_append] at z_);exact eq_false (Nat.not_lt.2 z_)));obtain rfl:=zm H;(try go_wp2);replace a0:=zA (blk_drew a0.out);replace HB:=zA (below_drew1 HB.out);refine start_ (n:=14) (S:=fun w'=>w'.cell? ⟨a7,0,none⟩=some (.int .i64 a2)∧w'.cell? ⟨a7,1,none⟩=some (.int .i64 a3)∧w'.cell? ⟨a7,2,none⟩=some (.int .i64 a4)∧w'.cell? ⟨a7,3,none⟩=some (.slice a8 a1.length a9)) (ds:=[]) (Array.replicate 14 false) (by kernel_rfl) rfl rfl zO fun hHeld=>?_;refine with_tabW impl_VerText.tab3 impl_VerText.bits3 (fun HT_ HW_=>?_);generalize wc.drew=h3 at a0 HB hHeld ⊢;refine zp 0 7 ?_;refine zp 4 11 ?_;refine zp 9 16 ?_;refine zt 1 8 ?_;refine zt 5 12 ?_;refine zt 10 17 ?_;refine zo 2 (some 9) fun K hK=>?_;refine goes_ Tryz.func102 (by kernel_rfl) rfl #[.int .i64 a2] (by rfl) rfl rfl zM ?_;(with_reducible refine(impl_NumText.calls a2 a5 _ ?s1 A8.out).mono ?_);(case s1=>exact GW.below HG.out (zW HB.out));rintro e h4 ⟨rfl,hb⟩;refine⟨_,rfl,?_⟩;replace a0:=zb a0 hb;replace HB:=zh HB hb;(try clear hb);refine hK.out _ _ zO fun hHeld=>?_;clear hK K;refine zn ?_;refine zp 3 10 ?_;refine zo 6 (some 13) fun K hK=>?_;refine goes_ Tryz.func102 (by kernel_rfl) rfl #[.int .i64 a3] (by rfl) rfl rfl zM ?_;(with_reducible refine(impl_NumText.calls a3 a6 _ ?s1 d0.out).mono ?_);(case s1=>exact GW.below HG.out (zW HB.out));rintro e h5 ⟨rfl,hb⟩;refine⟨_,rfl,?_⟩;replace a0:=zb a0 hb;replace HB:=zh HB hb;(try clear hb);refine hK.out _ _ zO fun hHeld=>?_;clear hK K;refine zn ?_;refine zp 7 14 ?_;refine zp 8 15 ?_;refine zo 11 (some 18) fun K hK=>?_;refine goes_ Tryz.func102 (by kernel_rfl) rfl #[.int .i64 a4] (by rfl) rfl rfl zM ?_;(with_reducible refine(impl_NumText.calls a4 b0 _ ?s1 d2.out).mono ?_);(case s1=>exact GW.below HG.out (zW HB.out));rintro e h6 ⟨rfl,hb⟩;refine⟨_,rfl,?_⟩;replace a0:=zb a0 hb;replace HB:=zh HB hb;(try clear hb);refine hK.out _ _ zO fun hHeld=>?_;clear hK K;refine zn ?_;refine zp 12 19 ?_;refine zp 13 3 ?_;refine done_ (done_of HT_.out (by kernel_rfl)) ?_;obtain⟨h7,h8,h9,i0,i1,i2,i3,i4⟩:=ze4 a0.out;(try go_wp2_with (first|((with_reducible refine zq 63 ?_);refine zg (some 27) Tryz.func63 #[.slice a8 a1.length a9,.string (⟨#[46]⟩:ByteArray)] ?_;(with_reducible refine(strings_Join.calls _ _ a1 (⟨#[46]⟩:ByteArray) b5 _ ?s1 ?s2 e5.out).mono ?_);(case s1=>exact zC (Kd.C_below c1.out HB.out));(case s2=>exact c2.out);rintro e i5 ⟨rfl,hb⟩;refine⟨_,rfl,?_⟩;replace a0:=zb a0 hb;replace HB:=zh HB hb;(try clear hb))));go_ret;exact⟨zE,zW HB.out⟩
   have e3:decide (0<(a1.length:Int))=false:=decide_eq_false b1;have e4:decide (0<a1.length)=false:=decide_eq_false (by omega);clear b1;obtain rfl:=zm H;(try go_wp2);replace a0:=zA (blk_drew a0.out);replace HB:=zA (below_drew1 HB.out);refine start_ (n:=14) (S:=fun w'=>w'.cell? ⟨a7,0,none⟩=some (.int .i64 a2)∧w'.cell? ⟨a7,1,none⟩=some (.int .i64 a3)∧w'.cell? ⟨a7,2,none⟩=some (.int .i64 a4)∧w'.cell? ⟨a7,3,none⟩=some (.slice a8 a1.length a9)) (ds:=[]) (Array.replicate 14 false) (by kernel_rfl) rfl rfl zO fun hHeld=>?_;refine with_tabW impl_VerText.tab3 impl_VerText.bits3 (fun HT_ HW_=>?_);generalize wc.drew=i6 at a0 HB hHeld ⊢;refine zp 0 7 ?_;refine zp 4 11 ?_;refine zp 9 16 ?_;refine zt 1 8 ?_;refine zt 5 12 ?_;refine zt 10 17 ?_;refine zo 2 (some 9) fun K hK=>?_;refine goes_ Tryz.func102 (by kernel_rfl) rfl #[.int .i64 a2] (by rfl) rfl rfl zM ?_;(with_reducible refine(impl_NumText.calls a2 a5 _ ?s1 A8.out).mono ?_);(case s1=>exact GW.below HG.out (zW HB.out));rintro e i7 ⟨rfl,hb⟩;refine⟨_,rfl,?_⟩;replace a0:=zb a0 hb;replace HB:=zh HB hb;(try clear hb);refine hK.out _ _ zO fun hHeld=>?_;clear hK K;refine zn ?_;refine zp 3 10 ?_;refine zo 6 (some 13) fun K hK=>?_;refine goes_ Tryz.func102 (by kernel_rfl) rfl #[.int .i64 a3] (by rfl) rfl rfl zM ?_;(with_reducible refine(impl_NumText.calls a3 a6 _ ?s1 d0.out).mono ?_);(case s1=>exact GW.below HG.out (zW HB.out));rintro e i8 ⟨rfl,hb⟩;refine⟨_,rfl,?_⟩;replace a0:=zb a0 hb;replace HB:=zh HB hb;(try clear hb);refine hK.out _ _ zO fun hHeld=>?_;clear hK K;refine zn ?_;refine zp 7 14 ?_;refine zp 8 15 ?_;refine zo 11 (some 18) fun K hK=>?_;refine goes_ Tryz.func102 (by kernel_rfl) rfl #[.int .i64 a4] (by rfl) rfl rfl zM ?_;(with_reducible refine(impl_NumText.calls a4 b0 _ ?s1 d2.out).mono ?_);(case s1=>exact GW.below HG.out (zW HB.out));rintro e i9 ⟨rfl,hb⟩;refine⟨_,rfl,?_⟩;replace a0:=zb a0 hb;replace HB:=zh HB hb;(try clear hb);refine hK.out _ _ zO fun hHeld=>?_;clear hK K;refine zn ?_;refine zp 12 19 ?_;refine zp 13 3 ?_;refine done_ (done_of HT_.out (by kernel_rfl)) ?_;obtain⟨j1,j2,j3,j4,j5,j6,j7,j8⟩:=ze4 a0.out;(try go_wp2);go_ret;exact⟨zE,zW HB.out⟩
/-! ### strings_Cut: function 134 -/
def strings_Cut.f (a0 a1:ByteArray):Option (ByteArray × ByteArray × Bool):=if a0.size<4294967281 then some (⟨(Lib.cut a0.data.toList a1.data.toList).1.toArray⟩,⟨(Lib.cut a0.data.toList a1.data.toList).2.1.toArray⟩,(Lib.cut a0.data.toList a1.data.toList).2.2) else none
theorem strings_Cut.calls (a0 a1 r1 r2:ByteArray) (r3:Bool) (w:World) (hG:GW w) (h:strings_Cut.f a0 a1=some (r1,r2,r3)) :
  Calls Tryz.prog 134 #[.string a0,.string a1] w fun e w'=>e=.returned (.tuple #[.string r1,.string r2,.bool r3])∧Below w.heap.size w w':=by
 unfold strings_Cut.f at h;split at h
 ·rename_i hs;obtain⟨rfl,h2⟩:=Prod.mk.inj (Option.some.inj h);obtain⟨rfl,rfl⟩:=Prod.mk.inj h2;obtain⟨m,hm⟩:=hG.maxLen;refine(Tryz.strings_Cut a0 a1 m w hs hm).mono ?_;rintro e w' ⟨rfl,k,rfl⟩;exact⟨rfl,pw_below_drewN (Below.refl _ _) _⟩
 ·cases h
/-! ### impl_ParseNum: function 135 -/
mutual
def impl_ParseNum.j0:Nat→ByteArray→Int→Option (Int × Bool)
 | 0,_,_=>none
 | k+1,x0,x1=>impl_ParseNum.l0 k x0 x1 0 0
def impl_ParseNum.l0:Nat→ByteArray→Int→Int→Int→Option (Int × Bool)
 | 0,_,_,_,_=>none
 | k+1,x0,x1,x6,x7=>if x7<(x0.size:Int) then (if 0≤x7 then ((impl_isFigure.f (bt x0 x7)).bind fun a0=>(if a0=true then (impl_ParseNum.l0 k x0 x1 (wrap64 ((wrap64 (x6*10))+(((bt x0 x7)-48) % 256))) (wrap64 (x7+1))) else (some (0,false)))) else (none)) else ((impl_NumText.f x6).bind fun a1=>(if a1.toList=x0.toList then (if x6>x1 then (some (0,false)) else (some (x6,true))) else (some (0,false))))
end
def impl_ParseNum.f (k:Nat) (a0:ByteArray) (a1:Int):Option (Int × Bool):=(impl_inRange.f (a0.size:Int) 1 7).bind fun a2=>(if a2=true then (impl_ParseNum.j0 k a0 a1) else (some (0,false)))
theorem impl_ParseNum.calls (k:Nat) (a0:ByteArray) (a1 r1:Int) (r2:Bool) (w:World) (hG:GW w) (h:impl_ParseNum.f k a0 a1=some (r1,r2)) :
  Calls Tryz.prog 135 #[.string a0,.int .i64 a1] w fun e w'=>e=.returned (.tuple #[.int .i64 r1,.bool r2])∧Below w.heap.size w w':=by
 have HG:=zA hG;clear hG;have HB:=zA (Below.refl w.heap.size w);unfold impl_ParseNum.f at h;have H:=h;clear h;replace H:=Option.bind_eq_some_iff.mp H;obtain⟨b7,a9,H⟩:=H;(try dsimp only at H);have A3:=zA a9;clear a9;have a6:=zA H;clear H;go_enter Tryz.func135,Tryz.ntmps135;go_upto_if 11 with (first|((with_reducible refine zq 94 ?_);refine zg (some 10) Tryz.func94 #[.int .i64 (a0.size:Int),.int .i64 1,.int .i64 7] ?_;(with_reducible refine(impl_inRange.calls (a0.size:Int) 1 7 b7 _ A3.out).mono ?_);rintro e w' ⟨rfl,⟨nd,rfl⟩⟩;refine⟨_,rfl,?_⟩))
 (try simp only[Act.put,zT]);go_cut [] (fun wc=>∃ (kq:Nat),Aside0 (impl_ParseNum.j0 kq a0 a1=some (r1,r2))∧Aside0 (kq≤k)∧Aside0 (Below w.heap.size w wc))
 case first=>
  have H:=a6.out;clear a6;replace H:=zB0 H;rcases H with ⟨rfl,H⟩|⟨rfl,H⟩
  ·have H':=zA H;clear H;go_wp2;go_meet
   case rel=>exact⟨_,(by first|exact H'|(subst_vars;exact H')),⟨by first|omega|exact Nat.le_refl _⟩,⟨zB⟩⟩
  simp only[zU] at H;obtain⟨rfl,rfl⟩:=H;go_wp2;go_ret2;exact⟨zE,zB⟩
 case rest=>
  clear a6;obtain⟨kq,HA,b0,HB⟩:=hcut;cases kq with
  | zero=>exact absurd HA.out (by simp[impl_ParseNum.j0])
  | succ b1=>
   have H:=HA.out;clear HA;simp only[impl_ParseNum.j0] at H;have H':=zA H;clear H;go_wp2;go_loopg [6,7] b1 (fun kq v6 v7 w'=>∃ (a3:Int) (a2:Int),v6=.int .i64 a3∧v7=.int .i64 a2∧Aside0 (impl_ParseNum.l0 kq a0 a1 a3 a2=some (r1,r2))∧Aside0 (kq≤b1)∧Aside0 (Below w.heap.size w w'))
   case atStart=>exact⟨(0),(0),zS,zS,H',⟨Nat.le_refl _⟩,⟨zB⟩⟩
   case round=>
    clear H';obtain⟨a3,a2,rfl,rfl,HA,b2,HB⟩:=hrel;cases gk with
    | zero=>exact absurd HA.out (by simp[impl_ParseNum.l0])
    | succ k2=>
     have H:=HA.out;clear HA;simp only[impl_ParseNum.l0] at H;replace H:=zI0 H;rcases H with ⟨b8,H⟩|⟨b8,H⟩
     ·replace H:=zD0 H;obtain⟨c4,H⟩:=H;replace H:=Option.bind_eq_some_iff.mp H;obtain⟨c6,b3,H⟩:=H;(try dsimp only at H);have A9:=zA b3;clear b3;replace H:=zB0 H;rcases H with ⟨rfl,H⟩|⟨rfl,H⟩
      ·have H':=zA H;clear H;have p8:0≤(a2:Int):=zD;have q8:a2<(a0.size:Int):=zD;have b9:=bt_at a0 a2;replace p8:=eq_true p8;replace q8:=eq_true q8;go_wp2_with (first|((with_reducible refine zq 116 ?_);refine zg (some 21) Tryz.func116 #[.int .u8 (bt a0 a2)] ?_;(with_reducible refine(impl_isFigure.calls (bt a0 a2) true _ A9.out).mono ?_);rintro e w' ⟨rfl,⟨nd,rfl⟩⟩;refine⟨_,rfl,?_⟩;have b4:0≤(a2:Int):=zD;have b5:a2<(a0.size:Int):=zD;have c7:=bt_at a0 a2;replace b4:=eq_true b4;replace b5:=eq_true b5))
       go_roundg k2
       case measure=>have:=b0.out;have:=b2.out;omega
       case rel=>exact⟨(wrap64 ((wrap64 (a3*10))+(((bt a0 a2)-48) % 256))),(wrap64 (a2+1)),zS,zS,H',⟨by have:=b0.out;have:=b2.out;omega⟩,⟨zB⟩⟩
      simp only[zU] at H;obtain⟨rfl,rfl⟩:=H;have p8:0≤(a2:Int):=zD;have q8:a2<(a0.size:Int):=zD;have b9:=bt_at a0 a2;replace p8:=eq_true p8;replace q8:=eq_true q8;go_wp2_with (first|((with_reducible refine zq 116 ?_);refine zg (some 21) Tryz.func116 #[.int .u8 (bt a0 a2)] ?_;(with_reducible refine(impl_isFigure.calls (bt a0 a2) false _ A9.out).mono ?_);rintro e w' ⟨rfl,⟨nd,rfl⟩⟩;refine⟨_,rfl,?_⟩))
      go_ret2;exact⟨zE,zB⟩
     replace H:=Option.bind_eq_some_iff.mp H;obtain⟨a7,b6,H⟩:=H;(try dsimp only at H);have a8:=zA b6;clear b6;replace H:=zI1 H;rcases H with ⟨a4,H⟩|⟨a4,H⟩
     ·have c0:=beq_iff_eq.mpr a4;have c2:=bne_eq_false_iff_eq.mpr a4;clear a4;replace H:=zI1 H;rcases H with ⟨a5,H⟩|⟨a5,H⟩
      ·have c3:decide (a1<a3)=true:=decide_eq_true a5;clear a5;simp only[zU] at H;obtain⟨rfl,rfl⟩:=H;go_wp2_with (first|((with_reducible refine zq 102 ?_);refine zg (some 32) Tryz.func102 #[.int .i64 a3] ?_;(with_reducible refine(impl_NumText.calls a3 a7 _ ?s1 a8.out).mono ?_);(case s1=>exact GW.below HG.out (zB));rintro e c8 ⟨rfl,hb⟩;refine⟨_,rfl,?_⟩;replace HB:=zA (below_step (zB) hb);(try clear hb)))
       go_ret2;exact⟨zE,zB⟩
      have c3:decide (a1<a3)=false:=decide_eq_false a5;clear a5;simp only[zU] at H;obtain⟨rfl,rfl⟩:=H;go_wp2_with (first|((with_reducible refine zq 102 ?_);refine zg (some 32) Tryz.func102 #[.int .i64 a3] ?_;(with_reducible refine(impl_NumText.calls a3 a7 _ ?s1 a8.out).mono ?_);(case s1=>exact GW.below HG.out (zB));rintro e c9 ⟨rfl,hb⟩;refine⟨_,rfl,?_⟩;replace HB:=zA (below_step (zB) hb);(try clear hb)))
      go_ret2;exact⟨zE,zB⟩
     have c0:=beq_eq_false_iff_ne.mpr a4;have c2:=bne_iff_ne.mpr a4;simp only[zU] at H;obtain⟨rfl,rfl⟩:=H;go_wp2_with (first|((with_reducible refine zq 102 ?_);refine zg (some 32) Tryz.func102 #[.int .i64 a3] ?_;(with_reducible refine(impl_NumText.calls a3 a7 _ ?s1 a8.out).mono ?_);(case s1=>exact GW.below HG.out (zB));rintro e d0 ⟨rfl,hb⟩;refine⟨_,rfl,?_⟩;replace HB:=zA (below_step (zB) hb);(try clear hb)))
     go_ret2;exact⟨zE,zB⟩
/-! ### impl_ParseVer: function 87 -/
def impl_ParseVer.no:Int × Int × Int × List ByteArray × Bool:=(0,0,0,[],false)
/-- The numbers are read: what stands behind the dash, and whether all is told so. -/
def impl_ParseVer.fin (k:Nat) (a0 pre:ByteArray) (has:Bool) (a b c:Int):Option (Int × Int × Int × List ByteArray × Bool):=
 if has=true then (strings_Split.f pre (⟨#[46]⟩:ByteArray)).bind fun q=>(impl_VerText.f k a b c q).bind fun t=>if t.toList=a0.toList then some (a,b,c,q,true) else some impl_ParseVer.no
 else (impl_VerText.f k a b c []).bind fun t=>if t.toList=a0.toList then some (a,b,c,[],true) else some impl_ParseVer.no
def impl_ParseVer.n1 (k:Nat) (a0 pre:ByteArray) (has:Bool) (ps:List ByteArray) (a b:Int):Option (Int × Int × Int × List ByteArray × Bool):=(impl_ParseNum.f k (rdOf ByteArray.empty ps 2) 9999).bind fun t=>if t.2=true then impl_ParseVer.fin k a0 pre has a b t.1 else some impl_ParseVer.no
def impl_ParseVer.n2 (k:Nat) (a0 pre:ByteArray) (has:Bool) (ps:List ByteArray) (a:Int):Option (Int × Int × Int × List ByteArray × Bool):=(impl_ParseNum.f k (rdOf ByteArray.empty ps 1) 9999).bind fun t=>if t.2=true then impl_ParseVer.n1 k a0 pre has ps a t.1 else some impl_ParseVer.no
def impl_ParseVer.n3 (k:Nat) (a0 pre:ByteArray) (has:Bool) (ps:List ByteArray):Option (Int × Int × Int × List ByteArray × Bool):=(impl_ParseNum.f k (rdOf ByteArray.empty ps 0) 9999).bind fun t=>if t.2=true then impl_ParseVer.n2 k a0 pre has ps t.1 else some impl_ParseVer.no
/-- So many numbers are still to be read; what is read so far. -/
def impl_ParseVer.rest (k:Nat) (a0 pre:ByteArray) (has:Bool) (ps:List ByteArray) (m:Nat) (a b c:Int):Option (Int × Int × Int × List ByteArray × Bool):=
 match m with
 | 0=>impl_ParseVer.fin k a0 pre has a b c
 | 1=>impl_ParseVer.n1 k a0 pre has ps a b
 | 2=>impl_ParseVer.n2 k a0 pre has ps a
 | _=>impl_ParseVer.n3 k a0 pre has ps
def impl_ParseVer.f (k:Nat) (a0:ByteArray):Option (Int × Int × Int × List ByteArray × Bool):=
 (strings_Cut.f a0 (⟨#[45]⟩:ByteArray)).bind fun t=>(strings_Split.f t.1 (⟨#[46]⟩:ByteArray)).bind fun ps=>if ps.length=3 then impl_ParseVer.n3 k a0 t.2.1 t.2.2 ps else some impl_ParseVer.no
theorem impl_ParseVer.calls (k:Nat) (a0:ByteArray) (r1 r2 r3:Int) (r4:List ByteArray) (r5:Bool) (w:World) (hG:GW w) (h:impl_ParseVer.f k a0=some (r1,r2,r3,r4,r5)) :
  Calls Tryz.prog 87 #[.string a0] w fun e w'=>∃ c4:Value,e=.returned (.tuple #[.agg #[.int .i64 r1,.int .i64 r2,.int .i64 r3,c4],.bool r5])∧Kd.R Kd.string 9 w' w.heap.size (fun _=>True) c4 r4∧Below w.heap.size w w':=by
 have hu_:=Tryz.underlying30;have HG:=zA hG;have HB:=zA (Below.refl w.heap.size w);clear hG;unfold impl_ParseVer.f at h;replace h:=Option.bind_eq_some_iff.mp h;obtain⟨t,hcut,h⟩:=h;replace h:=Option.bind_eq_some_iff.mp h;obtain⟨ps,hsplit,h⟩:=h;obtain⟨num,pre,has⟩:=t;have CUT:=zA hcut;have SPL:=zA hsplit;clear hcut hsplit;by_cases hlen:ps.length=3
 ·rw[if_pos hlen] at h;have REST:=zA h;have LEN:=zA hlen;have d4:((ps.length:Int) == 3)=true:=by rw[hlen];rfl
  have hl3':((ps.length:Int) != 3)=false:=by rw[hlen];rfl
  clear h hlen;go_enter Tryz.func87,Tryz.ntmps87
  go_wp2_with (first
   | ((with_reducible refine gate_dst (N:=2) rfl ?_);refine box_event ?hg (N:=2) ?hd (cs:=#[.int .i64 0,.int .i64 0,.int .i64 0,.slice none 0 0]) (t:=30) ?hr ?_;(case hd=>rfl);(case hg=>rfl);(case hr=>first|(go_simp;done)|(go_simp;rfl));intro gr hg w1 hbox hb;have a1:=zA (below_step HB.out hb);have BR:=zA hbox;have GR:=zA ((by rw[hg];exact Nat.le_refl _):w.heap.size≤gr);clear HB;have HB:=a1;clear a1;clear hb hbox hg)
   | (go_at_call 134;(with_reducible refine(strings_Cut.calls a0 (⟨#[45]⟩:ByteArray) num pre has _ ?hgw CUT.out).mono ?_);(case hgw=>exact GW.below HG.out HB.out);rintro e w2 ⟨rfl,hb⟩;have a1:=zA (below_step HB.out hb);have a2:=zA (blk_below BR.out hb);clear HB BR;have HB:=a1;have BR:=a2;clear a1 a2 hb)
   | (go_at_call 41;(with_reducible refine(strings_Split.calls num (⟨#[46]⟩:ByteArray) ps _ ?hgw SPL.out).mono ?_);(case hgw=>exact GW.below HG.out HB.out);rintro e w3 ⟨v3,rfl,ho,hb⟩;have a1:=zA (below_step HB.out hb);have a2:=zA (blk_below BR.out hb);have HO:=zA (Kd.R_lower ho (below_size HB.out));clear HB BR;have HB:=a1;have BR:=a2;clear a1 a2 hb ho;obtain⟨Ao,co,eo⟩:=Kd.R_slice HO.out;subst eo)
   | ((with_reducible refine gate_dst (N:=8) rfl ?_);refine box_event ?hg (N:=8) ?hd (cs:=#[.int .i64 0,.int .i64 0,.int .i64 0,.slice none 0 0]) (t:=30) ?hr ?_;(case hd=>rfl);(case hg=>rfl);(case hr=>first|(go_simp;done)|(go_simp;rfl));intro gv hg w4 hbox hb;have a1:=zA (below_step HB.out hb);have a2:=zA (blk_below BR.out hb);have a3:=zA (Kd.R_below HO.out hb);have BV:=zA hbox;have GV:=zA ((by rw[hg];exact below_size HB.out):w.heap.size≤gv);have NE:=zA ((by rw[hg];exact Nat.ne_of_lt (blk_lt BR.out)):gr≠gv);clear HB BR HO;have HB:=a1;have BR:=a2;have HO:=a3;clear a1 a2 a3;clear hb hbox hg))
  go_loopg [29] 3 (fun gg d5 wr=>∃ (m:Nat) (a b c:Int),m≤3∧m≤gg∧d5=.int .i64 ((3-m:Nat):Int)∧(m=3→a=0)∧(2≤m→b=0)∧(1≤m→c=0)∧Aside0 (impl_ParseVer.rest k a0 pre has ps m a b c=some (r1,r2,r3,r4,r5))∧Aside0 (Below w.heap.size w wr) ∧
   Aside0 (wr.heap[gr]?=some (.cells #[.int .i64 0,.int .i64 0,.int .i64 0,.slice none 0 0] 30 (0,0)))∧Aside0 (wr.heap[gv]?=some (.cells #[.int .i64 a,.int .i64 b,.int .i64 c,.slice none 0 0] 30 (0,0))) ∧
   Aside0 (Kd.string.R 9 wr w.heap.size (fun _=>True) (.slice Ao ps.length co) ps))
  case atStart=>exact⟨3,0,0,0,Nat.le_refl _,Nat.le_refl _,rfl,fun _=>rfl,fun _=>rfl,fun _=>rfl,REST,HB,BR,BV,HO⟩
  case round=>
   clear HB BR BV HO;obtain⟨m,a,b,c,d6,hmg,rfl,ha,c5,c3,REST,HB,BR,BV,HO⟩:=hrel;rcases m with _|_|_|m
   ·
    have H:=REST.out;clear REST;replace H:impl_ParseVer.fin k a0 pre has a b c=some (r1,r2,r3,r4,r5):=H;unfold impl_ParseVer.fin at H;cases has with
    | true=>
     simp only[if_true] at H;replace H:=Option.bind_eq_some_iff.mp H;obtain⟨q,hq,H⟩:=H;replace H:=Option.bind_eq_some_iff.mp H;obtain⟨t,ht,H⟩:=H;have SQ:=zA hq;have VT:=zA ht;clear hq ht;go_wp2_with (fail)
     (with_reducible refine(strings_Split.calls pre (⟨#[46]⟩:ByteArray) q _ ?hgw SQ.out).mono ?_);(case hgw=>exact GW.below HG.out (zW HB.out));rintro e w5 ⟨v5,rfl,ho,hb⟩;replace BR:=zb BR hb;replace BV:=zb BV hb;have HQ:=zA (Kd.R_lower ho (below_size (zW HB.out)));replace HB:=zh HB hb;clear HO ho hb;obtain⟨Aq,cq,eq_⟩:=Kd.R_slice HQ.out;subst eq_;have hnb:=NE.out;have hnc:=NE.out.symm;have a5:=zc0 BV.out;have a6:=zF BV.out 0;have a7:=zc1 BV.out;have a8:=zF BV.out 1;have a9:=zc2 BV.out;have b0:=zF BV.out 2;have b1:=zc3 BV.out;have b2:=zF BV.out 3;go_wp2_with (fail)
     (with_reducible refine(impl_VerText.calls k a b c _ _ q t _ ?s1 ?s2 ?hgw VT.out).mono ?_);(case s1=>exact(Kd.R_reads' (Kd.R_set (zR HQ.out) BV.out (by decide) _ _)).2.2);(case s2=>exact(Kd.R_reads' HQ.out).2.1);(case hgw=>exact GW.below HG.out (zW HB.out));rintro e w6 ⟨rfl,hb⟩;replace HB:=zh HB hb;replace BR:=zA (blk_below (g:=gr) (o:=.cells #[.int .i64 0,.int .i64 0,.int .i64 0,.slice none 0 0] 30 (0,0)) (by(with_reducible repeat(first|refine blk_drewN ?_ _|refine blk_drew ?_|refine blk_alloc ?_ _));refine blk_far ?_ NE.out _;(with_reducible repeat(first|refine blk_drewN ?_ _|refine blk_drew ?_|refine blk_alloc ?_ _));exact BR.out) hb);replace HQ:=zA (Kd.R_below (Kd.R_set (zR HQ.out) BV.out (by decide) _ _) hb);replace BV:=zA (blk_below (g:=gv) (o:=.cells #[.int .i64 a,.int .i64 b,.int .i64 c,.slice Aq q.length cq] 30 (0,0)) (by(with_reducible repeat(first|refine blk_drewN ?_ _|refine blk_drew ?_|refine blk_alloc ?_ _));refine blk_put (cs:=#[.int .i64 a,.int .i64 b,.int .i64 c,.slice none 0 0]) ?_ 3 _ rfl;(with_reducible repeat(first|refine blk_drewN ?_ _|refine blk_drew ?_|refine blk_alloc ?_ _));exact BV.out) hb);clear a5 a7 a9 b1 a6 a8 b0 b2 hb;have a5:=zc0 BV.out;have a6:=zF BV.out 0;have a7:=zc1 BV.out;have a8:=zF BV.out 1;have a9:=zc2 BV.out;have b0:=zF BV.out 2;have b1:=zc3 BV.out;have b2:=zF BV.out 3;have c6:=zc0 BR.out;have c7:=zF BR.out 0;have c8:=zc1 BR.out;have c9:=zF BR.out 1;have d0:=zc2 BR.out;have d1:=zF BR.out 2;have d2:=zc3 BR.out;have d3:=zF BR.out 3;by_cases hs:t.toList=a0.toList
     ·rw[if_pos hs] at H;simp only[zU] at H;obtain⟨rfl,rfl,rfl,rfl,rfl⟩:=H;have s0:(t.toList == a0.toList)=true:=beq_iff_eq.mpr hs;have s1:(t.toList != a0.toList)=false:=bne_eq_false_iff_eq.mpr hs;clear hs;go_wp2;refine bodyPost_ret (results_ct rfl _ _ gr 30 #[.int .i64 a,.int .i64 b,.int .i64 c,.slice Aq q.length cq] (0,0) _ rfl (zk4 BR.out) Tryz.underlying30 rfl (by kernel_rfl)) rfl ?_;exact⟨_,rfl,zR (Kd.R_mono (Kd.R_far (p:=⟨gr,3,none⟩) (Kd.R_far (p:=⟨gr,2,none⟩) (Kd.R_far (p:=⟨gr,1,none⟩) (Kd.R_far (p:=⟨gr,0,none⟩) (Kd.R_types HQ.out BR.out (by decide)) (fun _ hk=>hk.2) (.int .i64 a)) (fun _ hk=>hk.2) (.int .i64 b)) (fun _ hk=>hk.2) (.int .i64 c)) (fun _ hk=>hk.2) (.slice Aq q.length cq)) (fun _ _=>trivial)),zW HB.out⟩
     rw[if_neg hs] at H;simp only[impl_ParseVer.no,Option.some.injEq,Prod.mk.injEq] at H;obtain⟨rfl,rfl,rfl,rfl,rfl⟩:=H;have s0:(t.toList == a0.toList)=false:=beq_eq_false_iff_ne.mpr hs;have s1:(t.toList != a0.toList)=true:=bne_iff_ne.mpr hs;clear hs;go_wp2;refine bodyPost_ret (results_ct rfl _ _ gr 30 #[.int .i64 0,.int .i64 0,.int .i64 0,.slice none 0 0] (0,0) _ rfl (zk4 BR.out) Tryz.underlying30 rfl (by kernel_rfl)) rfl ?_;exact⟨_,rfl,Kd.R_nil _ _ _ _ _,zW HB.out⟩
    | false=>
     simp only[Bool.false_eq_true,if_false] at H;replace H:=Option.bind_eq_some_iff.mp H;obtain⟨t,ht,H⟩:=H;have VT:=zA ht;clear ht HO;have hnb:=NE.out;have hnc:=NE.out.symm;have a5:=zc0 BV.out;have a6:=zF BV.out 0;have a7:=zc1 BV.out;have a8:=zF BV.out 1;have a9:=zc2 BV.out;have b0:=zF BV.out 2;have b1:=zc3 BV.out;have b2:=zF BV.out 3;go_wp2_with (fail)
     (refine(impl_VerText.calls k a b c none 0 [] t _ ?s1 ?s2 ?hgw VT.out).mono ?_);(case s1=>exact Kd.C_nil _ _);(case s2=>exact Nat.le_refl _);(case hgw=>exact GW.below HG.out (zW HB.out));rintro e w6 ⟨rfl,hb⟩;replace HB:=zh HB hb;replace BR:=zb BR hb;replace BV:=zb BV hb;clear a5 a7 a9 b1 a6 a8 b0 b2 hb;have a5:=zc0 BV.out;have a6:=zF BV.out 0;have a7:=zc1 BV.out;have a8:=zF BV.out 1;have a9:=zc2 BV.out;have b0:=zF BV.out 2;have b1:=zc3 BV.out;have b2:=zF BV.out 3;have c6:=zc0 BR.out;have c7:=zF BR.out 0;have c8:=zc1 BR.out;have c9:=zF BR.out 1;have d0:=zc2 BR.out;have d1:=zF BR.out 2;have d2:=zc3 BR.out;have d3:=zF BR.out 3;by_cases hs:t.toList=a0.toList
     ·rw[if_pos hs] at H;simp only[zU] at H;obtain⟨rfl,rfl,rfl,rfl,rfl⟩:=H;have s0:(t.toList == a0.toList)=true:=beq_iff_eq.mpr hs;have s1:(t.toList != a0.toList)=false:=bne_eq_false_iff_eq.mpr hs;clear hs;go_wp2;refine bodyPost_ret (results_ct rfl _ _ gr 30 #[.int .i64 a,.int .i64 b,.int .i64 c,.slice none 0 0] (0,0) _ rfl (zk4 BR.out) Tryz.underlying30 rfl (by kernel_rfl)) rfl ?_;exact⟨_,rfl,Kd.R_nil _ _ _ _ _,zW HB.out⟩
     rw[if_neg hs] at H;simp only[impl_ParseVer.no,Option.some.injEq,Prod.mk.injEq] at H;obtain⟨rfl,rfl,rfl,rfl,rfl⟩:=H;have s0:(t.toList == a0.toList)=false:=beq_eq_false_iff_ne.mpr hs;have s1:(t.toList != a0.toList)=true:=bne_iff_ne.mpr hs;clear hs;go_wp2;refine bodyPost_ret (results_ct rfl _ _ gr 30 #[.int .i64 0,.int .i64 0,.int .i64 0,.slice none 0 0] (0,0) _ rfl (zk4 BR.out) Tryz.underlying30 rfl (by kernel_rfl)) rfl ?_;exact⟨_,rfl,Kd.R_nil _ _ _ _ _,zW HB.out⟩
   ·
    obtain rfl:=c3 (by omega);obtain⟨pb,po,e_,hcell⟩:=Lb.C_string_plain (Kd.R_reads' HO.out).2.2 (by have:=LEN.out;omega);cases e_
    have hx:wr.cell? ⟨pb,po+2,none⟩=some (.string (rdOf ByteArray.empty ps 2)):=hcell 2 _ (by
     unfold rdOf;rw[List.getD_eq_getElem?_getD,show (2:Int).toNat=2 from rfl,List.getElem?_eq_getElem (show 2<ps.length by have:=LEN.out;omega)]
     rfl)
    clear hcell;have hidx:∀ W:World,(Instr.index 144 (.agg #[.pointer (some ⟨gv,0,none⟩),.pointer (some ⟨gv,1,none⟩),.pointer (some ⟨gv,2,none⟩)]) (.int .i64 2)).run Tryz.prog W=.ok (.pointer (some ⟨gv,2,none⟩)) W:=fun W=>by kernel_rfl
    have hl:(2:Int)<(ps.length:Int):=by have:=LEN.out;omega
    have H:=REST.out;clear REST;replace H:=Option.bind_eq_some_iff.mp H;obtain⟨⟨n,ok⟩,hpn,H⟩:=H;have PN:=zA hpn;clear hpn;cases ok with
    | false=>
     replace H:some impl_ParseVer.no=some (r1,r2,r3,r4,r5):=H;simp only[impl_ParseVer.no,Option.some.injEq,Prod.mk.injEq] at H;obtain⟨rfl,rfl,rfl,rfl,rfl⟩:=H;go_wp2_with (fail)
     (with_reducible refine(impl_ParseNum.calls k (rdOf ByteArray.empty ps 2) 9999 n false _ ?hgw PN.out).mono ?_);(case hgw=>exact GW.below HG.out (zB));rintro e w5 ⟨rfl,hb⟩;have a1:=zA (below_step (zB) hb);have a2:=zA (blk_below (zK BR.out) hb);have a3:=zA (blk_below (zK BV.out) hb);have a4:=zA (Kd.R_below (d:=Kd.string) (e:=9) (base:=w.heap.size) (ok:=fun _=>True) (zR HO.out) hb);clear HB BR BV HO;have HB:=a1;have BR:=a2;have BV:=a3;have HO:=a4;clear a1 a2 a3 a4 hb;have hnb:=NE.out;have hnc:=NE.out.symm;have b3:=zc2 BV.out;have b4:=zF BV.out 2;have b5:=zc0 BR.out;have b6:=zc1 BR.out;have b7:=zc2 BR.out;have b8:=zc3 BR.out;have b9:=zF BR.out 0;have c0:=zF BR.out 1;have c1:=zF BR.out 2;have c2:=zF BR.out 3;go_wp2;refine bodyPost_ret (results_ct rfl _ _ gr 30 #[.int .i64 0,.int .i64 0,.int .i64 0,.slice none 0 0] (0,0) _ rfl (zk4 BR.out) Tryz.underlying30 rfl (by kernel_rfl)) rfl ?_;exact⟨_,rfl,Kd.R_nil _ _ _ _ _,zW HB.out⟩
    | true=>
     have RST:=zA H;clear H;go_wp2_with (fail)
     (with_reducible refine(impl_ParseNum.calls k (rdOf ByteArray.empty ps 2) 9999 n true _ ?hgw PN.out).mono ?_);(case hgw=>exact GW.below HG.out (zB));rintro e w5 ⟨rfl,hb⟩;have a1:=zA (below_step (zB) hb);have a2:=zA (blk_below (zK BR.out) hb);have a3:=zA (blk_below (zK BV.out) hb);have a4:=zA (Kd.R_below (d:=Kd.string) (e:=9) (base:=w.heap.size) (ok:=fun _=>True) (zR HO.out) hb);clear HB BR BV HO;have HB:=a1;have BR:=a2;have BV:=a3;have HO:=a4;clear a1 a2 a3 a4 hb;have hnb:=NE.out;have hnc:=NE.out.symm;have b3:=zc2 BV.out;have b4:=zF BV.out 2;have b5:=zc0 BR.out;have b6:=zc1 BR.out;have b7:=zc2 BR.out;have b8:=zc3 BR.out;have b9:=zF BR.out 0;have c0:=zF BR.out 1;have c1:=zF BR.out 2;have c2:=zF BR.out 3;go_wp2;go_roundg 0
     case measure=>omega
     case rel=>exact⟨0,a,b,n,by omega,by omega,by first|rfl|go_num,by first|omega|(intro _;omega),by first|omega|(intro _;first|rfl|omega),by first|omega|(intro _;first|rfl|omega),RST,⟨zW HB.out⟩,
      ⟨by(with_reducible repeat(first|refine blk_drewN ?_ _|refine blk_drew ?_|refine blk_alloc ?_ _));refine blk_far ?_ NE.out _;(with_reducible repeat(first|refine blk_drewN ?_ _|refine blk_drew ?_|refine blk_alloc ?_ _));exact BR.out⟩,⟨by(with_reducible repeat(first|refine blk_drewN ?_ _|refine blk_drew ?_|refine blk_alloc ?_ _));refine blk_put (cs:=#[.int .i64 a,.int .i64 b,.int .i64 0,.slice none 0 0]) ?_ 2 _ rfl;(with_reducible repeat(first|refine blk_drewN ?_ _|refine blk_drew ?_|refine blk_alloc ?_ _));exact BV.out⟩,⟨Kd.R_set (zR HO.out) BV.out (by decide) _ _⟩⟩
   ·
    obtain rfl:=c5 (by omega);obtain rfl:=c3 (by omega);obtain⟨pb,po,e_,hcell⟩:=Lb.C_string_plain (Kd.R_reads' HO.out).2.2 (by have:=LEN.out;omega);cases e_
    have hx:wr.cell? ⟨pb,po+1,none⟩=some (.string (rdOf ByteArray.empty ps 1)):=hcell 1 _ (by
     unfold rdOf;rw[List.getD_eq_getElem?_getD,show (1:Int).toNat=1 from rfl,List.getElem?_eq_getElem (show 1<ps.length by have:=LEN.out;omega)]
     rfl)
    clear hcell;have hidx:∀ W:World,(Instr.index 144 (.agg #[.pointer (some ⟨gv,0,none⟩),.pointer (some ⟨gv,1,none⟩),.pointer (some ⟨gv,2,none⟩)]) (.int .i64 1)).run Tryz.prog W=.ok (.pointer (some ⟨gv,1,none⟩)) W:=fun W=>by kernel_rfl
    have hl:(1:Int)<(ps.length:Int):=by have:=LEN.out;omega
    have H:=REST.out;clear REST;replace H:=Option.bind_eq_some_iff.mp H;obtain⟨⟨n,ok⟩,hpn,H⟩:=H;have PN:=zA hpn;clear hpn;cases ok with
    | false=>
     replace H:some impl_ParseVer.no=some (r1,r2,r3,r4,r5):=H;simp only[impl_ParseVer.no,Option.some.injEq,Prod.mk.injEq] at H;obtain⟨rfl,rfl,rfl,rfl,rfl⟩:=H;go_wp2_with (fail)
     (with_reducible refine(impl_ParseNum.calls k (rdOf ByteArray.empty ps 1) 9999 n false _ ?hgw PN.out).mono ?_);(case hgw=>exact GW.below HG.out (zB));rintro e w5 ⟨rfl,hb⟩;have a1:=zA (below_step (zB) hb);have a2:=zA (blk_below (zK BR.out) hb);have a3:=zA (blk_below (zK BV.out) hb);have a4:=zA (Kd.R_below (d:=Kd.string) (e:=9) (base:=w.heap.size) (ok:=fun _=>True) (zR HO.out) hb);clear HB BR BV HO;have HB:=a1;have BR:=a2;have BV:=a3;have HO:=a4;clear a1 a2 a3 a4 hb;have hnb:=NE.out;have hnc:=NE.out.symm;have b3:=zc1 BV.out;have b4:=zF BV.out 1;have b5:=zc0 BR.out;have b6:=zc1 BR.out;have b7:=zc2 BR.out;have b8:=zc3 BR.out;have b9:=zF BR.out 0;have c0:=zF BR.out 1;have c1:=zF BR.out 2;have c2:=zF BR.out 3;go_wp2;refine bodyPost_ret (results_ct rfl _ _ gr 30 #[.int .i64 0,.int .i64 0,.int .i64 0,.slice none 0 0] (0,0) _ rfl (zk4 BR.out) Tryz.underlying30 rfl (by kernel_rfl)) rfl ?_;exact⟨_,rfl,Kd.R_nil _ _ _ _ _,zW HB.out⟩
    | true=>
     have RST:=zA H;clear H;go_wp2_with (fail)
     (with_reducible refine(impl_ParseNum.calls k (rdOf ByteArray.empty ps 1) 9999 n true _ ?hgw PN.out).mono ?_);(case hgw=>exact GW.below HG.out (zB));rintro e w5 ⟨rfl,hb⟩;have a1:=zA (below_step (zB) hb);have a2:=zA (blk_below (zK BR.out) hb);have a3:=zA (blk_below (zK BV.out) hb);have a4:=zA (Kd.R_below (d:=Kd.string) (e:=9) (base:=w.heap.size) (ok:=fun _=>True) (zR HO.out) hb);clear HB BR BV HO;have HB:=a1;have BR:=a2;have BV:=a3;have HO:=a4;clear a1 a2 a3 a4 hb;have hnb:=NE.out;have hnc:=NE.out.symm;have b3:=zc1 BV.out;have b4:=zF BV.out 1;have b5:=zc0 BR.out;have b6:=zc1 BR.out;have b7:=zc2 BR.out;have b8:=zc3 BR.out;have b9:=zF BR.out 0;have c0:=zF BR.out 1;have c1:=zF BR.out 2;have c2:=zF BR.out 3;go_wp2;go_roundg 1
     case measure=>omega
     case rel=>exact⟨1,a,n,0,by omega,by omega,by first|rfl|go_num,by first|omega|(intro _;omega),by first|omega|(intro _;first|rfl|omega),by first|omega|(intro _;first|rfl|omega),RST,⟨zW HB.out⟩,
      ⟨by(with_reducible repeat(first|refine blk_drewN ?_ _|refine blk_drew ?_|refine blk_alloc ?_ _));refine blk_far ?_ NE.out _;(with_reducible repeat(first|refine blk_drewN ?_ _|refine blk_drew ?_|refine blk_alloc ?_ _));exact BR.out⟩,⟨by(with_reducible repeat(first|refine blk_drewN ?_ _|refine blk_drew ?_|refine blk_alloc ?_ _));refine blk_put (cs:=#[.int .i64 a,.int .i64 0,.int .i64 0,.slice none 0 0]) ?_ 1 _ rfl;(with_reducible repeat(first|refine blk_drewN ?_ _|refine blk_drew ?_|refine blk_alloc ?_ _));exact BV.out⟩,⟨Kd.R_set (zR HO.out) BV.out (by decide) _ _⟩⟩
   ·obtain rfl:m=0:=by omega
    obtain rfl:=ha rfl;obtain rfl:=c5 (by omega);obtain rfl:=c3 (by omega);obtain⟨pb,po,e_,hcell⟩:=Lb.C_string_plain (Kd.R_reads' HO.out).2.2 (by have:=LEN.out;omega);cases e_
    have hx:wr.cell? ⟨pb,po,none⟩=some (.string (rdOf ByteArray.empty ps 0)):=hcell 0 _ (by
     unfold rdOf;rw[List.getD_eq_getElem?_getD,show (0:Int).toNat=0 from rfl,List.getElem?_eq_getElem (show 0<ps.length by have:=LEN.out;omega)]
     rfl)
    clear hcell;have hidx:∀ W:World,(Instr.index 144 (.agg #[.pointer (some ⟨gv,0,none⟩),.pointer (some ⟨gv,1,none⟩),.pointer (some ⟨gv,2,none⟩)]) (.int .i64 0)).run Tryz.prog W=.ok (.pointer (some ⟨gv,0,none⟩)) W:=fun W=>by kernel_rfl
    have hl:(0:Int)<(ps.length:Int):=by have:=LEN.out;omega
    have H:=REST.out;clear REST;replace H:=Option.bind_eq_some_iff.mp H;obtain⟨⟨n,ok⟩,hpn,H⟩:=H;have PN:=zA hpn;clear hpn;cases ok with
    | false=>
     replace H:some impl_ParseVer.no=some (r1,r2,r3,r4,r5):=H;simp only[impl_ParseVer.no,Option.some.injEq,Prod.mk.injEq] at H;obtain⟨rfl,rfl,rfl,rfl,rfl⟩:=H;go_wp2_with (fail)
     (with_reducible refine(impl_ParseNum.calls k (rdOf ByteArray.empty ps 0) 9999 n false _ ?hgw PN.out).mono ?_);(case hgw=>exact GW.below HG.out (zB));rintro e w5 ⟨rfl,hb⟩;have a1:=zA (below_step (zB) hb);have a2:=zA (blk_below (zK BR.out) hb);have a3:=zA (blk_below (zK BV.out) hb);have a4:=zA (Kd.R_below (d:=Kd.string) (e:=9) (base:=w.heap.size) (ok:=fun _=>True) (zR HO.out) hb);clear HB BR BV HO;have HB:=a1;have BR:=a2;have BV:=a3;have HO:=a4;clear a1 a2 a3 a4 hb;have hnb:=NE.out;have hnc:=NE.out.symm;have b3:=zc0 BV.out;have b4:=zF BV.out 0;have b5:=zc0 BR.out;have b6:=zc1 BR.out;have b7:=zc2 BR.out;have b8:=zc3 BR.out;have b9:=zF BR.out 0;have c0:=zF BR.out 1;have c1:=zF BR.out 2;have c2:=zF BR.out 3;go_wp2;refine bodyPost_ret (results_ct rfl _ _ gr 30 #[.int .i64 0,.int .i64 0,.int .i64 0,.slice none 0 0] (0,0) _ rfl (zk4 BR.out) Tryz.underlying30 rfl (by kernel_rfl)) rfl ?_;exact⟨_,rfl,Kd.R_nil _ _ _ _ _,zW HB.out⟩
    | true=>
     have RST:=zA H;clear H;go_wp2_with (fail)
     (with_reducible refine(impl_ParseNum.calls k (rdOf ByteArray.empty ps 0) 9999 n true _ ?hgw PN.out).mono ?_);(case hgw=>exact GW.below HG.out (zB));rintro e w5 ⟨rfl,hb⟩;have a1:=zA (below_step (zB) hb);have a2:=zA (blk_below (zK BR.out) hb);have a3:=zA (blk_below (zK BV.out) hb);have a4:=zA (Kd.R_below (d:=Kd.string) (e:=9) (base:=w.heap.size) (ok:=fun _=>True) (zR HO.out) hb);clear HB BR BV HO;have HB:=a1;have BR:=a2;have BV:=a3;have HO:=a4;clear a1 a2 a3 a4 hb;have hnb:=NE.out;have hnc:=NE.out.symm;have b3:=zc0 BV.out;have b4:=zF BV.out 0;have b5:=zc0 BR.out;have b6:=zc1 BR.out;have b7:=zc2 BR.out;have b8:=zc3 BR.out;have b9:=zF BR.out 0;have c0:=zF BR.out 1;have c1:=zF BR.out 2;have c2:=zF BR.out 3;go_wp2;go_roundg 2
     case measure=>omega
     case rel=>exact⟨2,n,0,0,by omega,by omega,by first|rfl|go_num,by first|omega|(intro _;omega),by first|omega|(intro _;first|rfl|omega),by first|omega|(intro _;first|rfl|omega),RST,⟨zW HB.out⟩,
      ⟨by(with_reducible repeat(first|refine blk_drewN ?_ _|refine blk_drew ?_|refine blk_alloc ?_ _));refine blk_far ?_ NE.out _;(with_reducible repeat(first|refine blk_drewN ?_ _|refine blk_drew ?_|refine blk_alloc ?_ _));exact BR.out⟩,⟨by(with_reducible repeat(first|refine blk_drewN ?_ _|refine blk_drew ?_|refine blk_alloc ?_ _));refine blk_put (cs:=#[.int .i64 0,.int .i64 0,.int .i64 0,.slice none 0 0]) ?_ 0 _ rfl;(with_reducible repeat(first|refine blk_drewN ?_ _|refine blk_drew ?_|refine blk_alloc ?_ _));exact BV.out⟩,⟨Kd.R_set (zR HO.out) BV.out (by decide) _ _⟩⟩
 rw[if_neg hlen] at h;simp only[impl_ParseVer.no,Option.some.injEq,Prod.mk.injEq] at h;obtain⟨rfl,rfl,rfl,rfl,rfl⟩:=h;have d4:((ps.length:Int) == 3)=false:=by simpa using fun e=>hlen (by omega)
 have hl3':((ps.length:Int) != 3)=true:=by simpa using fun e=>hlen (by omega)
 clear hlen;go_enter Tryz.func87,Tryz.ntmps87
 go_wp2_with (first
  | ((with_reducible refine gate_dst (N:=2) rfl ?_);refine box_event ?hg (N:=2) ?hd (cs:=#[.int .i64 0,.int .i64 0,.int .i64 0,.slice none 0 0]) (t:=30) ?hr ?_;(case hd=>rfl);(case hg=>rfl);(case hr=>first|(go_simp;done)|(go_simp;rfl));intro gr hg w1 hbox hb;have a1:=zA (below_step HB.out hb);have BR:=zA hbox;have GR:=zA ((by rw[hg];exact Nat.le_refl _):w.heap.size≤gr);clear HB;have HB:=a1;clear a1;clear hb hbox hg)
  | (go_at_call 134;(with_reducible refine(strings_Cut.calls a0 (⟨#[45]⟩:ByteArray) num pre has _ ?hgw CUT.out).mono ?_);(case hgw=>exact GW.below HG.out HB.out);rintro e w2 ⟨rfl,hb⟩;have a1:=zA (below_step HB.out hb);have a2:=zA (blk_below BR.out hb);clear HB BR;have HB:=a1;have BR:=a2;clear a1 a2 hb)
  | (go_at_call 41;(with_reducible refine(strings_Split.calls num (⟨#[46]⟩:ByteArray) ps _ ?hgw SPL.out).mono ?_);(case hgw=>exact GW.below HG.out HB.out);rintro e w3 ⟨v3,rfl,ho,hb⟩;have a1:=zA (below_step HB.out hb);have a2:=zA (blk_below BR.out hb);have HO:=zA (Kd.R_lower ho (below_size HB.out));clear HB BR;have HB:=a1;have BR:=a2;clear a1 a2 hb ho;obtain⟨Ao,co,eo⟩:=Kd.R_slice HO.out;subst eo;have hnb_:=trivial;have c6:=zc0 BR.out;have c7:=zF BR.out 0;have c8:=zc1 BR.out;have c9:=zF BR.out 1;have d0:=zc2 BR.out;have d1:=zF BR.out 2;have d2:=zc3 BR.out;have d3:=zF BR.out 3))
 refine bodyPost_ret (results_ct rfl _ _ gr 30 #[.int .i64 0,.int .i64 0,.int .i64 0,.slice none 0 0] (0,0) _ rfl (zk4 BR.out) Tryz.underlying30 rfl (by kernel_rfl)) rfl ?_;exact⟨_,rfl,Kd.R_nil _ _ _ _ _,zW HB.out⟩
/-! ### strings_CutPrefix: function 136 -/
def strings_CutPrefix.f (a0 a1:ByteArray):Option (ByteArray × Bool):=some (⟨(Lib.trimPrefix a0.data.toList a1.data.toList).toArray⟩,Lib.hasPrefix a0.data.toList a1.data.toList)
theorem strings_CutPrefix.calls (a0 a1 r1:ByteArray) (r2:Bool) (w:World) (h:strings_CutPrefix.f a0 a1=some (r1,r2)) :
  Calls Tryz.prog 136 #[.string a0,.string a1] w fun e w'=>e=.returned (.tuple #[.string r1,.bool r2])∧Drawn0 w w':=by
 obtain⟨rfl,rfl⟩:=Prod.mk.inj (Option.some.inj h);refine(Tryz.strings_CutPrefix a0 a1 w).mono ?_;rintro e w' ⟨rfl,rfl⟩;exact⟨rfl,Drawn0.refl _⟩
/-! ### impl_partOf: function 137 -/
def impl_partOf.no:Int × Int × Int × List ByteArray × Int × Bool:=(0,0,0,[],0,false)
/-- So many pieces are left where the signs 'x' at the end fall away. -/
def impl_partOf.back (ps:List ByteArray):Nat→Nat
 | 0=>0
 | 1=>1
 | t+2=>if (rdOf ByteArray.empty ps ((t+1:Nat):Int)).toList=([120]:List UInt8) then impl_partOf.back ps (t+1) else t+2
/-- The last d of t pieces are still to be read; what is read so far. -/
def impl_partOf.rest (k:Nat) (ps:List ByteArray) (t:Nat):Nat→Int→Int→Option (Int × Int × Int × List ByteArray × Int × Bool)
 | 0,x,y=>some (x,y,0,[],(t:Int),true)
 | d+1,x,y=>(impl_ParseNum.f k (rdOf ByteArray.empty ps ((t-(d+1):Nat):Int)) 9999).bind fun n=>if n.2=true then (if t-(d+1)=0 then impl_partOf.rest k ps t d n.1 y else impl_partOf.rest k ps t d x n.1) else some impl_partOf.no
def impl_partOf.nums (k:Nat) (ps:List ByteArray) (t:Nat):Option (Int × Int × Int × List ByteArray × Int × Bool):=if t≤2 then impl_partOf.rest k ps t t 0 0 else some impl_partOf.no
def impl_partOf.f (k:Nat) (a0:ByteArray):Option (Int × Int × Int × List ByteArray × Int × Bool):=
 (impl_ParseVer.f k a0).bind fun v=>if v.2.2.2.2=true then some (v.1,v.2.1,v.2.2.1,v.2.2.2.1,3,true)
  else (strings_Split.f a0 (⟨#[46]⟩:ByteArray)).bind fun ps=>if ps.length=0 then none else if 3<ps.length then some impl_partOf.no else impl_partOf.nums k ps (impl_partOf.back ps ps.length)
theorem impl_partOf.back_le (ps:List ByteArray):∀ t,impl_partOf.back ps t≤t
 | 0=>Nat.le_refl _
 | 1=>Nat.le_refl _
 | t+2=>by
  unfold impl_partOf.back
  split
  ·have:=impl_partOf.back_le ps (t+1)
   omega
  ·omega
theorem impl_partOf.calls (k:Nat) (a0:ByteArray) (r1 r2 r3:Int) (r4:List ByteArray) (r5:Int) (r6:Bool) (w:World) (hG:GW w) (h:impl_partOf.f k a0=some (r1,r2,r3,r4,r5,r6)) :
  Calls Tryz.prog 137 #[.string a0] w fun e w'=>∃ c7:Value,e=.returned (.tuple #[.agg #[.int .i64 r1,.int .i64 r2,.int .i64 r3,c7],.int .i64 r5,.bool r6])∧Kd.R Kd.string 9 w' w.heap.size (fun _=>True) c7 r4∧Below w.heap.size w w':=by
 have hu_:=Tryz.underlying30;have HG:=zA hG;have HB:=zA (Below.refl w.heap.size w);clear hG;unfold impl_partOf.f at h;replace h:=Option.bind_eq_some_iff.mp h;obtain⟨t,hpv,h⟩:=h;obtain⟨va,vb,vc,vl,vok⟩:=t;have PV:=zA hpv;clear hpv;cases vok with
 | true=>
  replace h:some (va,vb,vc,vl,(3:Int),true)=some (r1,r2,r3,r4,r5,r6):=h;simp only[Option.some.injEq,Prod.mk.injEq] at h;obtain⟨rfl,rfl,rfl,rfl,rfl,rfl⟩:=h;go_enter Tryz.func137,Tryz.ntmps137
  go_wp2_with (first
   | ((with_reducible refine zd 2 ?_);refine ze 2 30 #[.int .i64 0,.int .i64 0,.int .i64 0,.slice none 0 0] ?_;intro gr hg w1 hbox hb;have a1:=zA (below_step (zW HB.out) hb);have BR:=zA hbox;have GR:=zA ((by rw[hg];exact below_size (zW HB.out)):w.heap.size≤gr);clear HB;have HB:=a1;clear a1 hb hbox hg)
   | (go_at_call 87;(with_reducible refine(impl_ParseVer.calls k a0 va vb vc vl _ _ ?hgw PV.out).mono ?_);(case hgw=>exact GW.below HG.out (zW HB.out));rintro e w2 ⟨v2,rfl,ho,hb⟩;have a1:=zA (below_step (zW HB.out) hb);have a2:=zA (blk_below (zK BR.out) hb);have HP:=zA (Kd.R_lower ho (below_size (zW HB.out)));clear HB BR;have HB:=a1;have BR:=a2;clear a1 a2 hb ho;obtain⟨Ao,co,eo⟩:=Kd.R_slice HP.out;subst eo;have a4:=zc0 BR.out;have a5:=zF BR.out 0;have a6:=zc1 BR.out;have a7:=zF BR.out 1;have a8:=zc2 BR.out;have a9:=zF BR.out 2;have b0:=zc3 BR.out;have b1:=zF BR.out 3)
   | ((with_reducible refine zd 5 ?_);refine ze 5 30 #[.int .i64 0,.int .i64 0,.int .i64 0,.slice none 0 0] ?_;intro gv hg w4 hbox hb;have a1:=zA (below_step (zW HB.out) hb);have a2:=zA (blk_below (zK BR.out) hb);have a3:=zA (Kd.R_types (Kd.R_below (zR HP.out) hb) hbox (by decide));have BV:=zA hbox;have GV:=zA ((by rw[hg];exact below_size (zW HB.out)):w.heap.size≤gv);have NE:=zA ((by rw[hg];exact Nat.ne_of_lt (blk_lt (zK BR.out))):gr≠gv);clear HB HP BR a4 a6 a8 b0 a5 a7 a9 b1;have HB:=a1;have HP:=a3;have BR:=a2;clear a1 a3 a2 hb hbox hg;have hnv:=trivial;have c8:=NE.out;have c9:=NE.out.symm;have a4:=zc0 BR.out;have a5:=zF BR.out 0;have a6:=zc1 BR.out;have a7:=zF BR.out 1;have a8:=zc2 BR.out;have a9:=zF BR.out 2;have b0:=zc3 BR.out;have b1:=zF BR.out 3;have b4:=zc0 BV.out;have b5:=zF BV.out 0;have b6:=zc1 BV.out;have b7:=zF BV.out 1;have b8:=zc2 BV.out;have b9:=zF BV.out 2;have c0:=zc3 BV.out;have c1:=zF BV.out 3))
  refine bodyPost_ret (results_ctt rfl _ _ gr 30 #[.int .i64 va,.int .i64 vb,.int .i64 vc,.slice Ao vl.length co] (0,0) _ rfl (zk4 BR.out) Tryz.underlying30 rfl (by kernel_rfl)) rfl ?_;exact⟨_,rfl,by refine Kd.R_mono (?_:Kd.R Kd.string 9 _ w.heap.size (fun k_=>(True∧k_≠gv)∧k_≠gr) _ _) (fun _ _=>trivial);(with_reducible repeat(first|apply Kd.R_alloc|apply Kd.R_drewN|apply Kd.R_drew|refine Kd.R_far ?_ (fun _ hk=>(by first|exact hk.2|exact hk.1.2)) _));exact Kd.R_types HP.out BR.out (by decide),zW HB.out⟩
 | false=>
  replace h:((strings_Split.f a0 (⟨#[46]⟩:ByteArray)).bind fun ps=>if ps.length=0 then none else if 3<ps.length then some impl_partOf.no else impl_partOf.nums k ps (impl_partOf.back ps ps.length))=some (r1,r2,r3,r4,r5,r6):=h;replace h:=Option.bind_eq_some_iff.mp h;obtain⟨ps,hsp,h⟩:=h;have SP:=zA hsp;clear hsp;have hne:¬ps.length=0:=fun e=>by rw[if_pos e] at h;cases h
  rw[if_neg hne] at h;have d0:=zA hne;clear hne;by_cases h3:3<ps.length
  ·rw[if_pos h3] at h;simp only[impl_partOf.no,Option.some.injEq,Prod.mk.injEq] at h;obtain⟨rfl,rfl,rfl,rfl,rfl,rfl⟩:=h;have d1:(ps.length:Int)>3:=by omega
   clear h3;go_enter Tryz.func137,Tryz.ntmps137
   go_wp2_with (first
    | ((with_reducible refine zd 2 ?_);refine ze 2 30 #[.int .i64 0,.int .i64 0,.int .i64 0,.slice none 0 0] ?_;intro gr hg w1 hbox hb;have a1:=zA (below_step (zW HB.out) hb);have BR:=zA hbox;have GR:=zA ((by rw[hg];exact below_size (zW HB.out)):w.heap.size≤gr);clear HB;have HB:=a1;clear a1 hb hbox hg)
    | (go_at_call 87;(with_reducible refine(impl_ParseVer.calls k a0 va vb vc vl _ _ ?hgw PV.out).mono ?_);(case hgw=>exact GW.below HG.out (zW HB.out));rintro e w2 ⟨v2,rfl,ho,hb⟩;have a1:=zA (below_step (zW HB.out) hb);have a2:=zA (blk_below (zK BR.out) hb);have HP:=zA (Kd.R_lower ho (below_size (zW HB.out)));clear HB BR;have HB:=a1;have BR:=a2;clear a1 a2 hb ho;obtain⟨Ao,co,eo⟩:=Kd.R_slice HP.out;subst eo;have a4:=zc0 BR.out;have a5:=zF BR.out 0;have a6:=zc1 BR.out;have a7:=zF BR.out 1;have a8:=zc2 BR.out;have a9:=zF BR.out 2;have b0:=zc3 BR.out;have b1:=zF BR.out 3)
    | ((with_reducible refine zd 5 ?_);refine ze 5 30 #[.int .i64 0,.int .i64 0,.int .i64 0,.slice none 0 0] ?_;intro gv hg w4 hbox hb;have a1:=zA (below_step (zW HB.out) hb);have a2:=zA (blk_below (zK BR.out) hb);have a3:=zA (Kd.R_types (Kd.R_below (zR HP.out) hb) hbox (by decide));have BV:=zA hbox;have GV:=zA ((by rw[hg];exact below_size (zW HB.out)):w.heap.size≤gv);have NE:=zA ((by rw[hg];exact Nat.ne_of_lt (blk_lt (zK BR.out))):gr≠gv);clear HB HP BR a4 a6 a8 b0 a5 a7 a9 b1;have HB:=a1;have HP:=a3;have BR:=a2;clear a1 a3 a2 hb hbox hg;have hnv:=trivial;have c8:=NE.out;have c9:=NE.out.symm;have a4:=zc0 BR.out;have a5:=zF BR.out 0;have a6:=zc1 BR.out;have a7:=zF BR.out 1;have a8:=zc2 BR.out;have a9:=zF BR.out 2;have b0:=zc3 BR.out;have b1:=zF BR.out 3;have b4:=zc0 BV.out;have b5:=zF BV.out 0;have b6:=zc1 BV.out;have b7:=zF BV.out 1;have b8:=zc2 BV.out;have b9:=zF BV.out 2;have c0:=zc3 BV.out;have c1:=zF BV.out 3)
    | (go_at_call 41;(with_reducible refine(strings_Split.calls a0 (⟨#[46]⟩:ByteArray) ps _ ?hgw SP.out).mono ?_);(case hgw=>exact GW.below HG.out (zW HB.out));rintro e w3 ⟨v3,rfl,ho,hb⟩;have a1:=zA (below_step (zW HB.out) hb);have a2:=zA (blk_below (zK BR.out) hb);have HS:=zA (Kd.R_lower ho (below_size (zW HB.out)));clear HB BR a4 a6 a8 b0 a5 a7 a9 b1 b4 b6 b8 c0 b5 b7 b9 c1;have HB:=a1;have BR:=a2;clear a1 a2 hb ho;obtain⟨As,cs,es⟩:=Kd.R_slice HS.out;subst es;have a4:=zc0 BR.out;have a5:=zF BR.out 0;have a6:=zc1 BR.out;have a7:=zF BR.out 1;have a8:=zc2 BR.out;have a9:=zF BR.out 2;have b0:=zc3 BR.out;have b1:=zF BR.out 3))
   refine bodyPost_ret (results_ctt rfl _ _ gr 30 #[.int .i64 0,.int .i64 0,.int .i64 0,.slice none 0 0] (0,0) _ rfl (zk4 BR.out) Tryz.underlying30 rfl (by kernel_rfl)) rfl ?_;exact⟨_,rfl,Kd.R_nil _ _ _ _ _,zW HB.out⟩
  rw[if_neg h3] at h;have d1:¬(ps.length:Int)>3:=by omega
  have L3:=zA h3;have REST:=zA h;clear h3 h;go_enter Tryz.func137,Tryz.ntmps137
  go_upto_block 0 with (first
   | ((with_reducible refine zd 2 ?_);refine ze 2 30 #[.int .i64 0,.int .i64 0,.int .i64 0,.slice none 0 0] ?_;intro gr hg w1 hbox hb;have a1:=zA (below_step (zW HB.out) hb);have BR:=zA hbox;have GR:=zA ((by rw[hg];exact below_size (zW HB.out)):w.heap.size≤gr);clear HB;have HB:=a1;clear a1 hb hbox hg)
   | (go_at_call 87;(with_reducible refine(impl_ParseVer.calls k a0 va vb vc vl _ _ ?hgw PV.out).mono ?_);(case hgw=>exact GW.below HG.out (zW HB.out));rintro e w2 ⟨v2,rfl,ho,hb⟩;have a1:=zA (below_step (zW HB.out) hb);have a2:=zA (blk_below (zK BR.out) hb);have HP:=zA (Kd.R_lower ho (below_size (zW HB.out)));clear HB BR;have HB:=a1;have BR:=a2;clear a1 a2 hb ho;obtain⟨Ao,co,eo⟩:=Kd.R_slice HP.out;subst eo;have a4:=zc0 BR.out;have a5:=zF BR.out 0;have a6:=zc1 BR.out;have a7:=zF BR.out 1;have a8:=zc2 BR.out;have a9:=zF BR.out 2;have b0:=zc3 BR.out;have b1:=zF BR.out 3)
   | ((with_reducible refine zd 5 ?_);refine ze 5 30 #[.int .i64 0,.int .i64 0,.int .i64 0,.slice none 0 0] ?_;intro gv hg w4 hbox hb;have a1:=zA (below_step (zW HB.out) hb);have a2:=zA (blk_below (zK BR.out) hb);have a3:=zA (Kd.R_types (Kd.R_below (zR HP.out) hb) hbox (by decide));have BV:=zA hbox;have GV:=zA ((by rw[hg];exact below_size (zW HB.out)):w.heap.size≤gv);have NE:=zA ((by rw[hg];exact Nat.ne_of_lt (blk_lt (zK BR.out))):gr≠gv);clear HB HP BR a4 a6 a8 b0 a5 a7 a9 b1;have HB:=a1;have HP:=a3;have BR:=a2;clear a1 a3 a2 hb hbox hg;have hnv:=trivial;have c8:=NE.out;have c9:=NE.out.symm;have a4:=zc0 BR.out;have a5:=zF BR.out 0;have a6:=zc1 BR.out;have a7:=zF BR.out 1;have a8:=zc2 BR.out;have a9:=zF BR.out 2;have b0:=zc3 BR.out;have b1:=zF BR.out 3;have b4:=zc0 BV.out;have b5:=zF BV.out 0;have b6:=zc1 BV.out;have b7:=zF BV.out 1;have b8:=zc2 BV.out;have b9:=zF BV.out 2;have c0:=zc3 BV.out;have c1:=zF BV.out 3)
   | (go_at_call 41;(with_reducible refine(strings_Split.calls a0 (⟨#[46]⟩:ByteArray) ps _ ?hgw SP.out).mono ?_);(case hgw=>exact GW.below HG.out (zW HB.out));rintro e w3 ⟨v3,rfl,ho,hb⟩;have a1:=zA (below_step (zW HB.out) hb);have a2:=zA (blk_below (zK BR.out) hb);have HS:=zA (Kd.R_lower ho (below_size (zW HB.out)));clear HB BR a4 a6 a8 b0 a5 a7 a9 b1 b4 b6 b8 c0 b5 b7 b9 c1;have HB:=a1;have BR:=a2;clear a1 a2 hb ho;obtain⟨As,cs,es⟩:=Kd.R_slice HS.out;subst es;have a4:=zc0 BR.out;have a5:=zF BR.out 0;have a6:=zc1 BR.out;have a7:=zF BR.out 1;have a8:=zc2 BR.out;have a9:=zF BR.out 2;have b0:=zc3 BR.out;have b1:=zF BR.out 3))
  obtain⟨gp,cap,ep,_⟩:=Kd.R_form HS.out (by have:=d0.out;omega);injection ep with ea_ _ ec_;subst ea_;subst ec_
  go_cut [8] (fun s8 wc=>∃ t:Nat,s8=.int .i64 (t:Int)∧Aside0 (1≤t∧t≤ps.length)∧Aside0 (impl_partOf.nums k ps t=some (r1,r2,r3,r4,r5,r6))∧Aside0 (Below w.heap.size w wc)∧Aside0 (wc.heap[gr]?=some (.cells #[.int .i64 0,.int .i64 0,.int .i64 0,.slice none 0 0] 30 (0,0)))∧Aside0 (Kd.string.R 9 wc w.heap.size (fun _=>True) (.slice (some ⟨gp,0,none⟩) ps.length cs) ps))
  case first=>
   go_wp2_with fail
   go_loopg [8] ps.length (fun gg s8 wr=>∃ t:Nat,t≤gg∧s8=.int .i64 (t:Int)∧Aside0 (1≤t∧t≤ps.length)∧Aside0 (impl_partOf.nums k ps (impl_partOf.back ps t)=some (r1,r2,r3,r4,r5,r6))∧Aside0 (Below w.heap.size w wr)∧Aside0 (wr.heap[gr]?=some (.cells #[.int .i64 0,.int .i64 0,.int .i64 0,.slice none 0 0] 30 (0,0)))∧Aside0 (Kd.string.R 9 wr w.heap.size (fun _=>True) (.slice (some ⟨gp,0,none⟩) ps.length cs) ps))
   case atStart=>exact⟨ps.length,Nat.le_refl _,rfl,⟨by have:=d0.out;omega,Nat.le_refl _⟩,REST,⟨zW HB.out⟩,⟨zK BR.out⟩,⟨by(with_reducible repeat(first|apply Kd.R_alloc|apply Kd.R_drewN|apply Kd.R_drew|refine Kd.R_set ?_ BN.out (by decide) _ _));exact HS.out⟩⟩
   case round=>
    clear REST HB BR HS;obtain⟨t,htg,rfl,TB,REST,HB,BR,HS⟩:=hrel;have hp_:=TB.out;by_cases h1t:t=1
    ·subst h1t;have hq:¬((1:Int)>1):=by omega
     go_wp2;go_meet
     case rel=>exact⟨1,rfl,TB,REST,⟨zW HB.out⟩,⟨zK BR.out⟩,⟨by(with_reducible repeat(first|apply Kd.R_alloc|apply Kd.R_drewN|apply Kd.R_drew|refine Kd.R_set ?_ BN.out (by decide) _ _));exact HS.out⟩⟩
    obtain⟨m,hm⟩:∃ m,t=m+1:=⟨t-1,by omega⟩;have hq:((t:Int))>1:=by omega
    have hw:wrap64 ((t:Int)-1)=(m:Int):=by unfold wrap64;omega
    have d4:(m:Int)<(ps.length:Int):=by omega
    have d5:(0:Int)≤(m:Int):=by omega
    obtain⟨pb,po,e_,hcell⟩:=Lb.C_string_plain (Kd.R_reads' HS.out).2.2 (by omega);cases e_
    have hx:wr.cell? ⟨gp,t-1,none⟩=some (.string (rdOf ByteArray.empty ps (m:Int))):=by
     rw[show t-1=m by omega]
     have:=hcell m (rdOf ByteArray.empty ps (m:Int)) (by
      unfold rdOf;rw[List.getD_eq_getElem?_getD,Int.toNat_natCast,List.getElem?_eq_getElem (show m<ps.length by omega)]
      rfl)
     rwa [Nat.zero_add] at this
    clear hcell;have hH:=REST.out
    have hback:impl_partOf.back ps t=if (rdOf ByteArray.empty ps (m:Int)).toList=([120]:List UInt8) then impl_partOf.back ps m else t:=by
     subst hm;cases m with
     | zero=>omega
     | succ m=>rfl
    rw[hback] at hH;clear REST;by_cases he:(rdOf ByteArray.empty ps (m:Int)).toList=([120]:List UInt8)
    ·rw[if_pos he] at hH;have RST:=zA hH;have s0:((rdOf ByteArray.empty ps (m:Int)).toList == ([120]:List UInt8))=true:=beq_iff_eq.mpr he;have HM:=zA hm;clear he hH hback hm;go_wp2;go_roundg m
     case measure=>have:=HM.out;omega
     case rel=>exact⟨m,Nat.le_refl _,by first|rfl|(congr 1;have:=HM.out;omega),⟨by have:=HM.out;omega,by have:=HM.out;omega⟩,RST,⟨zW HB.out⟩,⟨zK BR.out⟩,⟨by(with_reducible repeat(first|apply Kd.R_alloc|apply Kd.R_drewN|apply Kd.R_drew|refine Kd.R_set ?_ BN.out (by decide) _ _));exact HS.out⟩⟩
    rw[if_neg he] at hH;have RST:=zA hH;have s0:((rdOf ByteArray.empty ps (m:Int)).toList == ([120]:List UInt8))=false:=beq_eq_false_iff_ne.mpr he;clear he hH hback hm;go_wp2;go_meet
    case rel=>exact⟨t,rfl,TB,RST,⟨zW HB.out⟩,⟨zK BR.out⟩,⟨by(with_reducible repeat(first|apply Kd.R_alloc|apply Kd.R_drewN|apply Kd.R_drew|refine Kd.R_set ?_ BN.out (by decide) _ _));exact HS.out⟩⟩
  case rest=>
   clear REST HB BR HS;obtain⟨t,rfl,TB,REST,HB,BR,HS⟩:=hcut;have H:=REST.out;clear REST;unfold impl_partOf.nums at H;have hp_:=TB.out;by_cases h2:t≤2
   ·rw[if_pos h2] at H;have RST:=zA H;clear H;have hq:¬((t:Int)>2):=by omega
    have d6:(0:Int)≤(t:Int):=by omega
    have d7:(t:Int)≤(ps.length:Int):=by omega
    have d8:(t:Int)≤(cs:Int):=by have:=(Kd.R_reads' HS.out).2.1;omega
    have htn:((t:Int)).toNat=t:=by omega
    go_wp2_with (first
     | ((with_reducible refine zd 9 ?_);refine ze 9 170 #[.int .i64 0,.int .i64 0] ?_;intro gn hg w5 hbox hb;have a1:=zA (below_step (zW HB.out) hb);have a2:=zA (blk_below (zK BR.out) hb);have a3:=zA (Kd.R_below (by(with_reducible repeat(first|apply Kd.R_alloc|apply Kd.R_drewN|apply Kd.R_drew|refine Kd.R_set ?_ BN.out (by decide) _ _));exact HS.out) hb);have BN:=zA hbox;have GN:=zA ((by rw[hg];exact below_size (zW HB.out)):w.heap.size≤gn);have NN:=zA ((by rw[hg];exact Nat.ne_of_lt (blk_lt (zK BR.out))):gr≠gn);clear HB BR HS;have HB:=a1;have BR:=a2;have HS:=a3;clear a1 a2 a3 hb hbox hg))
    go_loopg [47] t (fun gg d2 wr=>∃ (m:Nat) (x y:Int),m≤t∧t-m≤gg∧d2=.int .i64 (m:Int)∧(m=0→x=0)∧(m≤1→y=0)∧Aside0 (impl_partOf.rest k ps t (t-m) x y=some (r1,r2,r3,r4,r5,r6))∧Aside0 (Below w.heap.size w wr)∧Aside0 (wr.heap[gr]?=some (.cells #[.int .i64 0,.int .i64 0,.int .i64 0,.slice none 0 0] 30 (0,0)))∧Aside0 (wr.heap[gn]?=some (.cells #[.int .i64 x,.int .i64 y] 170 (0,0)))∧Aside0 (Kd.string.R 9 wr w.heap.size (fun _=>True) (.slice (some ⟨gp,0,none⟩) ps.length cs) ps))
    case atStart=>exact⟨0,0,0,by omega,by omega,rfl,fun _=>rfl,fun _=>rfl,RST,⟨zW HB.out⟩,⟨zK BR.out⟩,⟨zK BN.out⟩,⟨by(with_reducible repeat(first|apply Kd.R_alloc|apply Kd.R_drewN|apply Kd.R_drew|refine Kd.R_set ?_ BN.out (by decide) _ _));exact HS.out⟩⟩
    case round=>
     clear RST HB BR HS BN;obtain⟨m,x,y,hmt,hmg,rfl,d9,d3,REST,HB,BR,BN,HS⟩:=hrel;have H:=REST.out;clear REST;by_cases hm:m=t
     ·subst hm;rw[Nat.sub_self] at H;replace H:some (x,y,(0:Int),([]:List ByteArray),(m:Int),true)=some (r1,r2,r3,r4,r5,r6):=H;simp only[zU] at H;obtain⟨rfl,rfl,rfl,rfl,rfl,rfl⟩:=H;have hlt:¬((m:Int)<(m:Int)):=by omega
      have hnn:=NN.out.symm;have c2:=zc0 BN.out;have c3:=zc1 BN.out;(have a4:=zc0 BR.out;have a5:=zF BR.out 0;have a6:=zc1 BR.out;have a7:=zF BR.out 1;have a8:=zc2 BR.out;have a9:=zF BR.out 2;have b0:=zc3 BR.out;have b1:=zF BR.out 3);go_wp2;refine bodyPost_ret (results_ctt rfl _ _ gr 30 #[.int .i64 x,.int .i64 y,.int .i64 0,.slice none 0 0] (0,0) _ rfl (zk4 BR.out) Tryz.underlying30 rfl (by kernel_rfl)) rfl ?_;exact⟨_,rfl,Kd.R_nil _ _ _ _ _,zW HB.out⟩
     obtain⟨d,hd⟩:∃ d,t-m=d+1:=⟨t-m-1,by omega⟩;rw[hd] at H;have htm:t-(d+1)=m:=by omega
     replace H:((impl_ParseNum.f k (rdOf ByteArray.empty ps ((t-(d+1):Nat):Int)) 9999).bind fun n=>if n.2=true then (if t-(d+1)=0 then impl_partOf.rest k ps t d n.1 y else impl_partOf.rest k ps t d x n.1) else some impl_partOf.no)=some (r1,r2,r3,r4,r5,r6):=H;rw[htm] at H;replace H:=Option.bind_eq_some_iff.mp H;obtain⟨⟨n,ok⟩,hpn,H⟩:=H;have PN:=zA hpn;clear hpn;have hlt:(m:Int)<(t:Int):=by omega
     have e0:(0:Int)≤(m:Int):=by omega
     obtain⟨pb,po,e_,hcell⟩:=Lb.C_string_plain (Kd.R_reads' HS.out).2.2 (by omega);cases e_
     have hx:wr.cell? ⟨gp,m,none⟩=some (.string (rdOf ByteArray.empty ps (m:Int))):=by
      have:=hcell m (rdOf ByteArray.empty ps (m:Int)) (by
       unfold rdOf;rw[List.getD_eq_getElem?_getD,Int.toNat_natCast,List.getElem?_eq_getElem (show m<ps.length by omega)]
       rfl)
      rwa [Nat.zero_add] at this
     clear hcell;cases ok with
     | false=>
      replace H:some impl_partOf.no=some (r1,r2,r3,r4,r5,r6):=H;simp only[impl_partOf.no,Option.some.injEq,Prod.mk.injEq] at H;obtain⟨rfl,rfl,rfl,rfl,rfl,rfl⟩:=H;rcases (show m=0∨m=1 by omega) with rfl|rfl
      ·have b2:=PN.out;clear PN;have PN:=zA (show impl_ParseNum.f k (rdOf ByteArray.empty ps 0) 9999=some (n,false) from b2);clear b2
       go_wp2_with (first
        | (go_at_call 135;(with_reducible refine(impl_ParseNum.calls k _ 9999 n false _ ?hgw PN.out).mono ?_);(case hgw=>exact GW.below HG.out (zW HB.out));rintro e w6 ⟨rfl,hb⟩;have a1:=zA (below_step (zW HB.out) hb);have a2:=zA (blk_below (zK BR.out) hb);have a3:=zA (Kd.R_below (by(with_reducible repeat(first|apply Kd.R_alloc|apply Kd.R_drewN|apply Kd.R_drew|refine Kd.R_set ?_ BN.out (by decide) _ _));exact HS.out) hb);have b3:=zA (blk_below (zK BN.out) hb);clear HB BR HS BN;have HB:=a1;have BR:=a2;have HS:=a3;have BN:=b3;clear a1 a2 a3 b3 hb;have hnn:=NN.out;have c4:=NN.out.symm;have a4:=zc0 BR.out;have a5:=zF BR.out 0;have a6:=zc1 BR.out;have a7:=zF BR.out 1;have a8:=zc2 BR.out;have a9:=zF BR.out 2;have b0:=zc3 BR.out;have b1:=zF BR.out 3;have c2:=zc0 BN.out;have c5:=zF BN.out 0;have c3:=zc1 BN.out;have c6:=zF BN.out 1))
       refine bodyPost_ret (results_ctt rfl _ _ gr 30 #[.int .i64 0,.int .i64 0,.int .i64 0,.slice none 0 0] (0,0) _ rfl (zk4 BR.out) Tryz.underlying30 rfl (by kernel_rfl)) rfl ?_;exact⟨_,rfl,Kd.R_nil _ _ _ _ _,zW HB.out⟩
      ·have b2:=PN.out;clear PN;have PN:=zA (show impl_ParseNum.f k (rdOf ByteArray.empty ps 1) 9999=some (n,false) from b2);clear b2
       go_wp2_with (first
        | (go_at_call 135;(with_reducible refine(impl_ParseNum.calls k _ 9999 n false _ ?hgw PN.out).mono ?_);(case hgw=>exact GW.below HG.out (zW HB.out));rintro e w6 ⟨rfl,hb⟩;have a1:=zA (below_step (zW HB.out) hb);have a2:=zA (blk_below (zK BR.out) hb);have a3:=zA (Kd.R_below (by(with_reducible repeat(first|apply Kd.R_alloc|apply Kd.R_drewN|apply Kd.R_drew|refine Kd.R_set ?_ BN.out (by decide) _ _));exact HS.out) hb);have b3:=zA (blk_below (zK BN.out) hb);clear HB BR HS BN;have HB:=a1;have BR:=a2;have HS:=a3;have BN:=b3;clear a1 a2 a3 b3 hb;have hnn:=NN.out;have c4:=NN.out.symm;have a4:=zc0 BR.out;have a5:=zF BR.out 0;have a6:=zc1 BR.out;have a7:=zF BR.out 1;have a8:=zc2 BR.out;have a9:=zF BR.out 2;have b0:=zc3 BR.out;have b1:=zF BR.out 3;have c2:=zc0 BN.out;have c5:=zF BN.out 0;have c3:=zc1 BN.out;have c6:=zF BN.out 1))
       refine bodyPost_ret (results_ctt rfl _ _ gr 30 #[.int .i64 0,.int .i64 0,.int .i64 0,.slice none 0 0] (0,0) _ rfl (zk4 BR.out) Tryz.underlying30 rfl (by kernel_rfl)) rfl ?_;exact⟨_,rfl,Kd.R_nil _ _ _ _ _,zW HB.out⟩
     | true=>
      replace H:(if m=0 then impl_partOf.rest k ps t d n y else impl_partOf.rest k ps t d x n)=some (r1,r2,r3,r4,r5,r6):=H;rcases (show m=0∨m=1 by omega) with rfl|rfl
      ·rw[if_pos rfl] at H;have b2:=PN.out;clear PN;have PN:=zA (show impl_ParseNum.f k (rdOf ByteArray.empty ps 0) 9999=some (n,true) from b2);clear b2;have RST:=zA (show impl_partOf.rest k ps t (t-1) n y=some (r1,r2,r3,r4,r5,r6) by rw[show t-1=d by omega];exact H);clear H
       go_wp2_with (first
        | (go_at_call 135;(with_reducible refine(impl_ParseNum.calls k _ 9999 n true _ ?hgw PN.out).mono ?_);(case hgw=>exact GW.below HG.out (zW HB.out));rintro e w6 ⟨rfl,hb⟩;have a1:=zA (below_step (zW HB.out) hb);have a2:=zA (blk_below (zK BR.out) hb);have a3:=zA (Kd.R_below (by(with_reducible repeat(first|apply Kd.R_alloc|apply Kd.R_drewN|apply Kd.R_drew|refine Kd.R_set ?_ BN.out (by decide) _ _));exact HS.out) hb);have b3:=zA (blk_below (zK BN.out) hb);clear HB BR HS BN;have HB:=a1;have BR:=a2;have HS:=a3;have BN:=b3;clear a1 a2 a3 b3 hb;have hnn:=NN.out;have c4:=NN.out.symm;have a4:=zc0 BR.out;have a5:=zF BR.out 0;have a6:=zc1 BR.out;have a7:=zF BR.out 1;have a8:=zc2 BR.out;have a9:=zF BR.out 2;have b0:=zc3 BR.out;have b1:=zF BR.out 3;have c2:=zc0 BN.out;have c5:=zF BN.out 0;have c3:=zc1 BN.out;have c6:=zF BN.out 1))
       go_roundg (t-1)
       case measure=>omega
       case rel=>exact⟨1,n,y,by omega,by omega,by first|rfl|go_num,fun h_=>by omega,fun _=>d3 (by omega),RST,⟨zW HB.out⟩,⟨zK BR.out⟩,⟨by(with_reducible repeat(first|refine blk_drewN ?_ _|refine blk_drew ?_|refine blk_alloc ?_ _));refine blk_put (cs:=#[.int .i64 x,.int .i64 y]) ?_ 0 _ rfl;(with_reducible repeat(first|refine blk_drewN ?_ _|refine blk_drew ?_|refine blk_alloc ?_ _));exact BN.out⟩,⟨by(with_reducible repeat(first|apply Kd.R_alloc|apply Kd.R_drewN|apply Kd.R_drew|refine Kd.R_set ?_ BN.out (by decide) _ _));exact HS.out⟩⟩
      ·rw[if_neg (by omega)] at H;have b2:=PN.out;clear PN;have PN:=zA (show impl_ParseNum.f k (rdOf ByteArray.empty ps 1) 9999=some (n,true) from b2);clear b2;have RST:=zA (show impl_partOf.rest k ps t (t-2) x n=some (r1,r2,r3,r4,r5,r6) by rw[show t-2=d by omega];exact H);clear H
       go_wp2_with (first
        | (go_at_call 135;(with_reducible refine(impl_ParseNum.calls k _ 9999 n true _ ?hgw PN.out).mono ?_);(case hgw=>exact GW.below HG.out (zW HB.out));rintro e w6 ⟨rfl,hb⟩;have a1:=zA (below_step (zW HB.out) hb);have a2:=zA (blk_below (zK BR.out) hb);have a3:=zA (Kd.R_below (by(with_reducible repeat(first|apply Kd.R_alloc|apply Kd.R_drewN|apply Kd.R_drew|refine Kd.R_set ?_ BN.out (by decide) _ _));exact HS.out) hb);have b3:=zA (blk_below (zK BN.out) hb);clear HB BR HS BN;have HB:=a1;have BR:=a2;have HS:=a3;have BN:=b3;clear a1 a2 a3 b3 hb;have hnn:=NN.out;have c4:=NN.out.symm;have a4:=zc0 BR.out;have a5:=zF BR.out 0;have a6:=zc1 BR.out;have a7:=zF BR.out 1;have a8:=zc2 BR.out;have a9:=zF BR.out 2;have b0:=zc3 BR.out;have b1:=zF BR.out 3;have c2:=zc0 BN.out;have c5:=zF BN.out 0;have c3:=zc1 BN.out;have c6:=zF BN.out 1))
       go_roundg (t-2)
       case measure=>omega
       case rel=>exact⟨2,x,n,by omega,by omega,by first|rfl|go_num,fun h_=>by omega,fun h_=>by omega,RST,⟨zW HB.out⟩,⟨zK BR.out⟩,⟨by(with_reducible repeat(first|refine blk_drewN ?_ _|refine blk_drew ?_|refine blk_alloc ?_ _));refine blk_put (cs:=#[.int .i64 x,.int .i64 y]) ?_ 1 _ rfl;(with_reducible repeat(first|refine blk_drewN ?_ _|refine blk_drew ?_|refine blk_alloc ?_ _));exact BN.out⟩,⟨by(with_reducible repeat(first|apply Kd.R_alloc|apply Kd.R_drewN|apply Kd.R_drew|refine Kd.R_set ?_ BN.out (by decide) _ _));exact HS.out⟩⟩
   rw[if_neg h2] at H;simp only[impl_partOf.no,Option.some.injEq,Prod.mk.injEq] at H;obtain⟨rfl,rfl,rfl,rfl,rfl,rfl⟩:=H;have hq:(t:Int)>2:=by omega
   (have a4:=zc0 BR.out;have a5:=zF BR.out 0;have a6:=zc1 BR.out;have a7:=zF BR.out 1;have a8:=zc2 BR.out;have a9:=zF BR.out 2;have b0:=zc3 BR.out;have b1:=zF BR.out 3);go_wp2;refine bodyPost_ret (results_ctt rfl _ _ gr 30 #[.int .i64 0,.int .i64 0,.int .i64 0,.slice none 0 0] (0,0) _ rfl (zk4 BR.out) Tryz.underlying30 rfl (by kernel_rfl)) rfl ?_;exact⟨_,rfl,Kd.R_nil _ _ _ _ _,zW HB.out⟩
/-! ### impl_nextOf: function 167 -/
def impl_nextOf.f (a0 a2 a3:Int) (a4:List ByteArray) (a1:Int):Option (Int × Int × Int × List ByteArray):=if a1=1 then (some (wrap64 (a0+1),0,0,([]:List ByteArray))) else (if a1=2 then (some (a0,wrap64 (a2+1),0,([]:List ByteArray))) else (some (a0,a2,wrap64 (a3+1),([]:List ByteArray))))
theorem impl_nextOf.calls (a0 a3 a5:Int) (a9:Option Addr) (b0:Nat) (a2:List ByteArray) (a1 r1 r2 r3:Int) (r4:List ByteArray) (w:World) (b4:Kd.C Kd.string w a9 a2.length a2) (b5:a2.length≤b0) (h:impl_nextOf.f a0 a3 a5 a2 a1=some (r1,r2,r3,r4)) :
  Calls Tryz.prog 167 #[.agg #[.int .i64 a0,.int .i64 a3,.int .i64 a5,.slice a9 a2.length b0],.int .i64 a1] w fun e w'=>∃ b6:Value,e=.returned (.agg #[.int .i64 r1,.int .i64 r2,.int .i64 r3,b6])∧Kd.R Kd.string 9 w' w.heap.size (fun _=>True) b6 r4∧Below w.heap.size w w':=by
 have b9:=Tryz.underlying30;have c0:=zA b4;have c1:=zA b5;clear b4 b5;have HB:=zA (Below.refl w.heap.size w);unfold impl_nextOf.f at h;have H:=h;clear h;go_enter Tryz.func167,Tryz.ntmps167;go_upto_if 6 with (first|((with_reducible refine zd 2 ?_);refine ze 2 30 #[.int .i64 a0,.int .i64 a3,.int .i64 a5,.slice a9 a2.length b0] ?_;intro c2 hg w4 hbox hb;have a4:=zA (hbox);have c4:=zi HB hg;have c5:=zi HB hg;replace HB:=zA (below_step (zB) hb);clear hb hbox hg)|((with_reducible refine zd 4 ?_);refine ze 4 30 #[.int .i64 0,.int .i64 0,.int .i64 0,.slice none 0 0] ?_;intro b1 hg w5 hbox hb;have a6:=zA (hbox);have c6:=zi HB hg;have c7:=zi HB hg;replace HB:=zh HB hb;have b7:=zA (zL hg (zK a4.out));have b8:=zA (zJ hg (zK a4.out));replace a4:=zb a4 hb;clear hb hbox hg;have c8:=b7.out;have d0:=b8.out;obtain⟨d1,d2,d3,d4,d5,d6,d7,d8⟩:=ze4 a4.out;obtain⟨d9,e0,e1,e2,e3,e4,e5,e6⟩:=ze4 a6.out))
 (try simp only[Act.put,zT]);replace H:=zI1 H;rcases H with ⟨c3,H⟩|⟨c3,H⟩
 ·have a7:=beq_iff_eq.mpr c3;have a8:=bne_eq_false_iff_eq.mpr c3;clear c3;simp only[zU] at H;obtain⟨rfl,rfl,rfl,rfl⟩:=H;(try simp only[a7,a8]);go_wp2;refine bodyPost_ret (results_cell_row rfl _ _ b1 30 #[.int .i64 (wrap64 (a0+1)),.int .i64 0,.int .i64 0,.slice none 0 0] (0,0) _ rfl (zk4 a6.out) Tryz.underlying30 rfl (by kernel_rfl)) rfl ?_;exact⟨_,zE,by first|exact Kd.R_nil _ _ _ _ _|exact Kd.N_nil _ _ _ _ _|exact Kd.V_nil _ _ _ _ _|exact Kd.Q_nil _ _ _ _ _|exact Kd.S_nil _ _ _ _ _,zW HB.out⟩
 have a7:=beq_eq_false_iff_ne.mpr c3;have a8:=bne_iff_ne.mpr c3;replace H:=zI1 H;rcases H with ⟨c9,H⟩|⟨c9,H⟩
 ·have b2:=beq_iff_eq.mpr c9;have b3:=bne_eq_false_iff_eq.mpr c9;clear c9;simp only[zU] at H;obtain⟨rfl,rfl,rfl,rfl⟩:=H;(try simp only[a7,a8,b2,b3]);go_wp2;refine bodyPost_ret (results_cell_row rfl _ _ b1 30 #[.int .i64 a0,.int .i64 (wrap64 (a3+1)),.int .i64 0,.slice none 0 0] (0,0) _ rfl (zk4 a6.out) Tryz.underlying30 rfl (by kernel_rfl)) rfl ?_;exact⟨_,zE,by first|exact Kd.R_nil _ _ _ _ _|exact Kd.N_nil _ _ _ _ _|exact Kd.V_nil _ _ _ _ _|exact Kd.Q_nil _ _ _ _ _|exact Kd.S_nil _ _ _ _ _,zW HB.out⟩
 have b2:=beq_eq_false_iff_ne.mpr c9;have b3:=bne_iff_ne.mpr c9;simp only[zU] at H;obtain⟨rfl,rfl,rfl,rfl⟩:=H;(try simp only[a7,a8,b2,b3]);go_wp2;refine bodyPost_ret (results_cell_row rfl _ _ b1 30 #[.int .i64 a0,.int .i64 a3,.int .i64 (wrap64 (a5+1)),.slice none 0 0] (0,0) _ rfl (zk4 a6.out) Tryz.underlying30 rfl (by kernel_rfl)) rfl ?_;exact⟨_,zE,by first|exact Kd.R_nil _ _ _ _ _|exact Kd.N_nil _ _ _ _ _|exact Kd.V_nil _ _ _ _ _|exact Kd.Q_nil _ _ _ _ _|exact Kd.S_nil _ _ _ _ _,zW HB.out⟩
/-! ### impl_below: function 168 -/
def impl_below.f (a0 a1 a2:Int) (a3:List ByteArray):Option (Int × Int × Int × Int × List ByteArray):=some (1,a0,a1,a2,(([(⟨#[48]⟩:ByteArray)]:List ByteArray)))
theorem impl_below.calls (a1 a2 a3:Int) (a9:Option Addr) (b0:Nat) (a4:List ByteArray) (r1 r2 r3 r4:Int) (r5:List ByteArray) (w:World) (b4:Kd.C Kd.string w a9 a4.length a4) (b5:a4.length≤b0) (h:impl_below.f a1 a2 a3 a4=some (r1,r2,r3,r4,r5)) :
  Calls Tryz.prog 168 #[.agg #[.int .i64 a1,.int .i64 a2,.int .i64 a3,.slice a9 a4.length b0]] w fun e w'=>∃ b6:Value,e=.returned (.agg #[.int .i64 r1,.int .i64 r2,.int .i64 r3,.int .i64 r4,b6])∧Kd.R Kd.string 9 w' w.heap.size (fun _=>True) b6 r5∧Below w.heap.size w w':=by
 have c3:=Tryz.underlying30;have c4:=Tryz.underlying34;have c5:=zA b4;have c6:=zA b5;clear b4 b5;have HB:=zA (Below.refl w.heap.size w);unfold impl_below.f at h;have H:=h;clear h;obtain⟨a8,b1⟩:∃ y_:List ByteArray,y_=(([(⟨#[48]⟩:ByteArray)]:List ByteArray)):=⟨_,rfl⟩;replace H:(some (1,a1,a2,a3,a8))=some (r1,r2,r3,r4,r5):=zY b1 H;have b7:=zA b1;clear b1;simp only[zU] at H;obtain⟨rfl,rfl,rfl,rfl,rfl⟩:=H;go_enter Tryz.func168,Tryz.ntmps168;go_wp2_with (first|((with_reducible refine zd 1 ?_);refine ze 1 30 #[.int .i64 a1,.int .i64 a2,.int .i64 a3,.slice a9 a4.length b0] ?_;intro b9 hg w2 hbox hb;have a0:=zA (hbox);have c7:=zi HB hg;have c8:=zi HB hg;replace HB:=zA (below_step (zB) hb);clear hb hbox hg)|((with_reducible refine zd 2 ?_);refine ze 2 34 #[.int .i64 0,.int .i64 0,.int .i64 0,.int .i64 0,.slice none 0 0] ?_;intro a5 hg w3 hbox hb;have a6:=zA (hbox);have c9:=zi HB hg;have d0:=zi HB hg;replace HB:=zh HB hb;have c0:=zA (zL hg (zK a0.out));have c1:=zA (zJ hg (zK a0.out));replace a0:=zb a0 hb;clear hb hbox hg)|((with_reducible refine gate_dst (N:=3) rfl ?_);refine Kd.R_lit Kd.string _ 9 ?hg (N:=3) ?hd (xs:=([(⟨#[48]⟩:ByteArray)]:List ByteArray)) (inner:=[.string (⟨#[48]⟩:ByteArray)]) (ok:=fun _=>True) ?hr ?hp (fun _ hk=>hk) trivial (Below.refl _ _) (Nat.le_refl _) (by simp) ?_;(case hd=>rfl);(case hg=>rfl);(case hr=>first|(go_simp;done)|(go_simp;rfl));(case hp=>exact(Reps.one (show Kd.M Kd.string _ _ _ (⟨#[48]⟩:ByteArray) [.string (⟨#[48]⟩:ByteArray)] from rfl) (Reps.none _ _)));intro d1 w4 a7 hb hg_ hnew_;clear hg_ hnew_;(first|rw[← b7.out] at a7|(simp only[Int.reduceToNat] at a7;rw[← b7.out] at a7));have b8:=zA (Kd.R_lower a7 (below_size (zW HB.out)));replace a0:=zb a0 hb;replace a6:=zb a6 hb;replace HB:=zh HB hb;clear hb a7;obtain⟨b2,b3,c2⟩:=Kd.R_slice b8.out;subst c2;have d2:=c0.out;have d3:=c1.out;obtain⟨d4,d5,d6,d7,d8,d9,e0,e1⟩:=ze4 a0.out;obtain⟨e2,e3,e4,e5,e6,e7,e8,e9,f0,f1⟩:=ze5 a6.out))
 refine bodyPost_ret (results_cell_row rfl _ _ a5 34 #[.int .i64 1,.int .i64 a1,.int .i64 a2,.int .i64 a3,.slice b2 a8.length b3] (0,0) _ rfl (zk5 a6.out) Tryz.underlying34 rfl (by kernel_rfl)) rfl ?_;exact⟨_,zE,zR (Kd.R_mono (Kd.R_far (p:=⟨a5,4,none⟩) (Kd.R_far (p:=⟨a5,3,none⟩) (Kd.R_far (p:=⟨a5,2,none⟩) (Kd.R_far (p:=⟨a5,1,none⟩) (Kd.R_far (p:=⟨a5,0,none⟩) (Kd.R_far (p:=⟨b9,3,none⟩) (Kd.R_types (Kd.R_types b8.out a0.out (by decide)) a6.out (by decide)) (fun _ hk=>hk.1.2) (.slice b2 a8.length b3)) (fun _ hk=>hk.2) (.int .i64 1)) (fun _ hk=>hk.2) (.int .i64 a1)) (fun _ hk=>hk.2) (.int .i64 a2)) (fun _ hk=>hk.2) (.int .i64 a3)) (fun _ hk=>hk.2) (.slice b2 a8.length b3)) (fun _ hk=>trivial)),zW HB.out⟩
/-! ### impl_caret: function 169 -/
def impl_caret.j0:Nat→Int→Bool→Int→Int→Int→List ByteArray→Option (Int × Int × Int × List ByteArray)
 | 0,_,_,_,_,_,_=>none
 | k+1,x1,x5,a1,a0,a2,a3=>if x5=true then (some (wrap64 (a1+1),0,0,([]:List ByteArray))) else (if a0=0 then (if x1=2 then (some (0,wrap64 (a0+1),0,([]:List ByteArray))) else (some (0,0,wrap64 (a2+1),([]:List ByteArray)))) else (some (0,wrap64 (a0+1),0,([]:List ByteArray))))
def impl_caret.f (k:Nat) (a0 a2 a3:Int) (a4:List ByteArray) (a1:Int):Option (Int × Int × Int × List ByteArray):=if a0=0 then (impl_caret.j0 k a1 (a1 == 1) a0 a2 a3 a4) else (impl_caret.j0 k a1 true a0 a2 a3 a4)
theorem impl_caret.calls (k:Nat) (a5 a4 a6:Int) (b3:Option Addr) (b4:Nat) (a3:List ByteArray) (a1 r1 r2 r3:Int) (r4:List ByteArray) (w:World) (b7:Kd.C Kd.string w b3 a3.length a3) (b8:a3.length≤b4) (h:impl_caret.f k a5 a4 a6 a3 a1=some (r1,r2,r3,r4)) :
  Calls Tryz.prog 169 #[.agg #[.int .i64 a5,.int .i64 a4,.int .i64 a6,.slice b3 a3.length b4],.int .i64 a1] w fun e w'=>∃ b9:Value,e=.returned (.agg #[.int .i64 r1,.int .i64 r2,.int .i64 r3,b9])∧Kd.R Kd.string 9 w' w.heap.size (fun _=>True) b9 r4∧Below w.heap.size w w':=by
 have e6:=Tryz.underlying30;have e7:=zA b7;have e8:=zA b8;clear b7 b8;have HB:=zA (Below.refl w.heap.size w);unfold impl_caret.f at h;have H:=h;clear h;have b5:=zA H;clear H;go_enter Tryz.func169,Tryz.ntmps169;go_upto_region 1 with (first|((with_reducible refine zd 2 ?_);refine ze 2 30 #[.int .i64 a5,.int .i64 a4,.int .i64 a6,.slice b3 a3.length b4] ?_;intro c2 hg w4 hbox hb;have a0:=zA (hbox);have e9:=zi HB hg;have f0:=zi HB hg;replace HB:=zA (below_step (zB) hb);clear hb hbox hg)|((with_reducible refine zd 4 ?_);refine ze 4 30 #[.int .i64 0,.int .i64 0,.int .i64 0,.slice none 0 0] ?_;intro b2 hg w5 hbox hb;have a2:=zA (hbox);have f1:=zi HB hg;have f2:=zi HB hg;replace HB:=zh HB hb;have a7:=zA (zL hg (zK a0.out));have a8:=zA (zJ hg (zK a0.out));replace a0:=zb a0 hb;clear hb hbox hg))
 (try simp only[Act.put,zT]);go_cut [5] (fun v5 wc=>∃ (kq:Nat) (b6:Bool),v5=.bool b6∧Aside0 (impl_caret.j0 kq a1 b6 a5 a4 a6 a3=some (r1,r2,r3,r4))∧Aside0 (kq≤k)∧Aside0 (wc.heap[c2]?=some (.cells #[.int .i64 a5,.int .i64 a4,.int .i64 a6,(.slice b3 a3.length b4)] 30 (0,0)))∧Aside0 (wc.heap[b2]?=some (.cells #[.int .i64 0,.int .i64 0,.int .i64 0,(.slice none 0 0)] 30 (0,0)))∧Aside0 (Below w.heap.size w wc))
 case first=>
  have H:=b5.out;clear b5;replace H:=zI1 H;rcases H with ⟨c6,H⟩|⟨c6,H⟩
  ·have a9:=beq_iff_eq.mpr c6;have c0:=bne_eq_false_iff_eq.mpr c6;clear c6;(first|rw[a9]|(simp only[i64_w,i32_w];rw[a9])|skip);have H':=zA H;clear H;have f3:=a7.out;have f4:=a8.out;obtain⟨c3,c4,c5,c8,d0,d1,d2,d3⟩:=ze4 a0.out;go_wp2;go_meet
   case rel=>exact⟨_,((a1 == 1)),zS,(by first|exact H'|(subst_vars;exact H')),⟨by first|omega|exact Nat.le_refl _⟩,⟨zK a0.out⟩,⟨zK a2.out⟩,⟨zW HB.out⟩⟩
  have a9:=beq_eq_false_iff_ne.mpr c6;have c0:=bne_iff_ne.mpr c6;(first|rw[a9]|(simp only[i64_w,i32_w];rw[a9])|skip);have H':=zA H;clear H;have f5:=a7.out;have f6:=a8.out;obtain⟨d4,d5,d6,d7,d8,d9,e0,e1⟩:=ze4 a0.out;go_wp2;go_meet
  case rel=>exact⟨_,(true),zS,(by first|exact H'|(subst_vars;exact H')),⟨by first|omega|exact Nat.le_refl _⟩,⟨zK a0.out⟩,⟨zK a2.out⟩,⟨zW HB.out⟩⟩
 case rest=>
  clear b5;obtain⟨kq,b6,rfl,HA,f7,a0,a2,HB⟩:=hcut;cases kq with
  | zero=>exact absurd HA.out (by simp[impl_caret.j0])
  | succ f8=>
   have H:=HA.out;clear HA;simp only[impl_caret.j0] at H;replace H:=zB0 H;rcases H with ⟨rfl,H⟩|⟨rfl,H⟩
   ·simp only[zU] at H;obtain⟨rfl,rfl,rfl,rfl⟩:=H;have f9:=a7.out;have g0:=a8.out;obtain⟨g1,g2,g3,g4,g5,g6,g7,g8⟩:=ze4 a0.out;obtain⟨g9,h0,h1,h2,h3,h4,h5,h6⟩:=ze4 a2.out;go_wp2;refine bodyPost_ret (results_cell_row rfl _ _ b2 30 #[.int .i64 (wrap64 (a5+1)),.int .i64 0,.int .i64 0,.slice none 0 0] (0,0) _ rfl (zk4 a2.out) Tryz.underlying30 rfl (by kernel_rfl)) rfl ?_;exact⟨_,zE,by first|exact Kd.R_nil _ _ _ _ _|exact Kd.N_nil _ _ _ _ _|exact Kd.V_nil _ _ _ _ _|exact Kd.Q_nil _ _ _ _ _|exact Kd.S_nil _ _ _ _ _,zW HB.out⟩
   replace H:=zI1 H;rcases H with ⟨b0,H⟩|⟨b0,H⟩
   ·have e2:=beq_iff_eq.mpr b0;have e3:=bne_eq_false_iff_eq.mpr b0;clear b0;replace H:=zI1 H;rcases H with ⟨b1,H⟩|⟨b1,H⟩
    ·have e4:=beq_iff_eq.mpr b1;have e5:=bne_eq_false_iff_eq.mpr b1;clear b1;simp only[zU] at H;obtain⟨rfl,rfl,rfl,rfl⟩:=H;have h7:=a7.out;have h8:=a8.out;obtain⟨h9,i0,i1,i2,i3,i4,i5,i6⟩:=ze4 a0.out;obtain⟨i7,i8,i9,j1,j2,j3,j4,j5⟩:=ze4 a2.out;go_wp2;refine bodyPost_ret (results_cell_row rfl _ _ b2 30 #[.int .i64 0,.int .i64 (wrap64 (a4+1)),.int .i64 0,.slice none 0 0] (0,0) _ rfl (zk4 a2.out) Tryz.underlying30 rfl (by kernel_rfl)) rfl ?_;exact⟨_,zE,by first|exact Kd.R_nil _ _ _ _ _|exact Kd.N_nil _ _ _ _ _|exact Kd.V_nil _ _ _ _ _|exact Kd.Q_nil _ _ _ _ _|exact Kd.S_nil _ _ _ _ _,zW HB.out⟩
    have e4:=beq_eq_false_iff_ne.mpr b1;have e5:=bne_iff_ne.mpr b1;simp only[zU] at H;obtain⟨rfl,rfl,rfl,rfl⟩:=H;have j6:=a7.out;have j7:=a8.out;obtain⟨j8,j9,k0,k1,k2,k3,k4,k5⟩:=ze4 a0.out;obtain⟨k6,k7,k8,k9,l0,l1,l2,l3⟩:=ze4 a2.out;go_wp2;refine bodyPost_ret (results_cell_row rfl _ _ b2 30 #[.int .i64 0,.int .i64 0,.int .i64 (wrap64 (a6+1)),.slice none 0 0] (0,0) _ rfl (zk4 a2.out) Tryz.underlying30 rfl (by kernel_rfl)) rfl ?_;exact⟨_,zE,by first|exact Kd.R_nil _ _ _ _ _|exact Kd.N_nil _ _ _ _ _|exact Kd.V_nil _ _ _ _ _|exact Kd.Q_nil _ _ _ _ _|exact Kd.S_nil _ _ _ _ _,zW HB.out⟩
   have e2:=beq_eq_false_iff_ne.mpr b0;have e3:=bne_iff_ne.mpr b0;simp only[zU] at H;obtain⟨rfl,rfl,rfl,rfl⟩:=H;have l4:=a7.out;have l5:=a8.out;obtain⟨l6,l7,l8,l9,m0,m1,m2,m3⟩:=ze4 a0.out;obtain⟨m4,m5,m6,m7,m8,m9,n0,n1⟩:=ze4 a2.out;go_wp2;refine bodyPost_ret (results_cell_row rfl _ _ b2 30 #[.int .i64 0,.int .i64 (wrap64 (a4+1)),.int .i64 0,.slice none 0 0] (0,0) _ rfl (zk4 a2.out) Tryz.underlying30 rfl (by kernel_rfl)) rfl ?_;exact⟨_,zE,by first|exact Kd.R_nil _ _ _ _ _|exact Kd.N_nil _ _ _ _ _|exact Kd.V_nil _ _ _ _ _|exact Kd.Q_nil _ _ _ _ _|exact Kd.S_nil _ _ _ _ _,zW HB.out⟩
end Go.Proofs.YtglhniiabhknoaaGreatDoor.PGC

/- The walks of the functions that these laws reach, and what each comes to: printed by this session's program. -/
import Derived.Test.YtglhniiabhknoaaGreatDoorZGBPGBx0
import Derived.Test.YtglhniiabhknoaaGreatDoorZGBPGBx4
import Derived.Test.YtglhniiabhknoaaGreatDoorZGBSays
import Derived.Test.YtglhniiabhknoaaGreatDoorZGBRegs
import Derived.Test.YtglhniiabhknoaaGreatDoorZGBPGBx1
namespace Go.Proofs.YtglhniiabhknoaaGreatDoor.PGB
open Go.RowKit YtglhniiabhknoaaGreatDoorW.PrintWords YtglhniiabhknoaaGreatDoorW.PrintLast YtglhniiabhknoaaGreatDoorW.PrintMore
attribute [local go_sem high] Mine.str_gtr Mine.str_leq Mine.str_geq
attribute [local go_sem] max2_int min2_int max_two min_two max_three min_three max_four min_four   -- for this text's walks alone
set_option linter.unusedVariables false
set_option maxHeartbeats 8000000
set_option maxRecDepth 100000
set_option linter.unusedSimpArgs false
/-! ### cmp_Or_int: function 96 -/
def cmp_Or_int.l0:Nat→Int→List Int→Int→Int→Option (Int)
 | 0,_,_,_,_=>none
 | k+1,x3,x6,x7,x8=>if x8<x7 then (if 0≤x8 then (if x8<(x6.length:Int) then (if (rd x6 x8)=x3 then (cmp_Or_int.l0 k x3 x6 x7 (wrap64 (x8+1))) else (some (rd x6 x8))) else (none)) else (none)) else (some x3)
def cmp_Or_int.f (k:Nat) (l0:List Int):Option (Int):=cmp_Or_int.l0 k 0 l0 (l0.length:Int) 0
theorem cmp_Or_int.calls (k:Nat) (A0:Option Addr) (c0:Nat) (l0:List Int) (r:Int) (w:World) (a4:Kd.C (Kd.int .i64) w A0 l0.length l0) (a5:l0.length≤c0) (h:cmp_Or_int.f k l0=some r) :
  Calls Tryz.prog 96 #[.slice A0 l0.length c0] w fun e w'=>e=.returned (.int .i64 r)∧Drawn0 w w':=by
 have a6:=zA a4;have b3:=zA a5;clear a4 a5;unfold cmp_Or_int.f at h;have H:=h;clear h;have H':=zA H;clear H;go_enter Tryz.func96,Tryz.ntmps96;go_wp2;go_loopg [8] k (fun kq v8 w'=>∃ (a0:Int),v8=.int .i64 a0∧Aside0 (cmp_Or_int.l0 kq 0 l0 (l0.length:Int) a0=some r)∧Aside0 (kq≤k)∧Drawn0 w w')
 case atStart=>exact⟨(0),zS,H',⟨Nat.le_refl _⟩,zv0⟩
 case round=>
  clear H';obtain⟨a0,rfl,HA,a7,⟨m1,rfl⟩⟩:=hrel;cases gk with
  | zero=>exact absurd HA.out (by simp[cmp_Or_int.l0])
  | succ k1=>
   have H:=HA.out;clear HA;simp only[cmp_Or_int.l0] at H;replace H:=zI0 H;rcases H with ⟨a8,H⟩|⟨a8,H⟩
   ·replace H:=zD0 H;obtain⟨b4,H⟩:=H;replace H:=zD0 H;obtain⟨b5,H⟩:=H;replace H:=zI1 H;rcases H with ⟨c5,H⟩|⟨c5,H⟩
    ·have a9:=beq_iff_eq.mpr c5;have b0:=bne_eq_false_iff_eq.mpr c5;clear c5;have H':=zA H;clear H;have a1:0≤(a0:Int):=zD;have a2:a0<(l0.length:Int):=zD;obtain⟨b1,a3,b2⟩:=Kd.at_int a6.out a0 a1 a2;cases a3;replace a1:=eq_true a1;replace a2:=eq_true a2;go_wp2;go_roundg k1
     case measure=>have:=a7.out;omega
     case rel=>exact⟨(wrap64 (a0+1)),zS,H',⟨by have:=a7.out;omega⟩,zv0⟩
    have a9:=beq_eq_false_iff_ne.mpr c5;have b0:=bne_iff_ne.mpr c5;obtain rfl:=zm H;have a1:0≤(a0:Int):=zD;have a2:a0<(l0.length:Int):=zD;obtain⟨b1,a3,b2⟩:=Kd.at_int a6.out a0 a1 a2;cases a3;replace a1:=eq_true a1;replace a2:=eq_true a2;go_wp2;go_ret;exact⟨by first|rfl|(simp;done)|(simp[*];done)|(simp;rw[Bool.eq_iff_iff];simp;done),zv0⟩
   obtain rfl:=zm H;go_wp2;go_ret;exact⟨by first|rfl|(simp;done)|(simp[*];done)|(simp;rw[Bool.eq_iff_iff];simp;done),zv0⟩
/-! ### cmp_isNaN_int: function 144 -/
def cmp_isNaN_int.f (a0:Int):Option (Bool):=some (a0 != a0)
theorem cmp_isNaN_int.calls (a0:Int) (r:Bool) (w:World) (h:cmp_isNaN_int.f a0=some r) :
  Calls Tryz.prog 144 #[.int .i64 a0] w fun e w'=>e=.returned (.bool r)∧Drawn0 w w':=by
 unfold cmp_isNaN_int.f at h;have H:=h;clear h;obtain rfl:=zm H;go_enter Tryz.func144,Tryz.ntmps144;go_wp2;go_ret;exact⟨by first|rfl|(simp;done)|(simp[*];done)|(simp;rw[Bool.eq_iff_iff];simp;done),zv0⟩
/-! ### cmp_Compare_int: function 97 -/
mutual
def cmp_Compare_int.j0:Nat→Int→Int→Bool→Option (Int)
 | 0,_,_,_=>none
 | k+1,x0,x1,x6=>if x6=true then (some 1) else (cmp_Compare_int.j1 k x0 x1)
def cmp_Compare_int.j1:Nat→Int→Int→Option (Int)
 | 0,_,_=>none
 | k+1,x0,x1=>if x0<x1 then (some (-1)) else (if x0>x1 then (some 1) else (some 0))
end
def cmp_Compare_int.f (k:Nat) (a0 a1:Int):Option (Int):=(cmp_isNaN_int.f a0).bind fun a3=>((cmp_isNaN_int.f a1).bind fun a2=>(if a3=true then (if a2=true then (some 0) else (some (-1))) else (cmp_Compare_int.j0 k a0 a1 a2)))
theorem cmp_Compare_int.calls (k:Nat) (a0 a1 r:Int) (w:World) (h:cmp_Compare_int.f k a0 a1=some r) :
  Calls Tryz.prog 97 #[.int .i64 a0,.int .i64 a1] w fun e w'=>e=.returned (.int .i64 r)∧Drawn0 w w':=by
 unfold cmp_Compare_int.f at h;have H:=h;clear h;replace H:=Option.bind_eq_some_iff.mp H;obtain⟨a8,a5,H⟩:=H;(try dsimp only at H);have A3:=zA a5;clear a5;replace H:=Option.bind_eq_some_iff.mp H;obtain⟨a6,a7,H⟩:=H;(try dsimp only at H);have A4:=zA a7;clear a7;have a3:=zA H;clear H;go_enter Tryz.func97,Tryz.ntmps97;go_upto_if 11 with (first|((with_reducible refine zq 144 ?_);refine zg (some 8) Tryz.func144 #[.int .i64 a0] ?_;(with_reducible refine(cmp_isNaN_int.calls a0 a8 _ A3.out).mono ?_);rintro e w' ⟨rfl,⟨nd,rfl⟩⟩;refine⟨_,rfl,?_⟩)|((with_reducible refine zq 144 ?_);refine zg (some 10) Tryz.func144 #[.int .i64 a1] ?_;(with_reducible refine(cmp_isNaN_int.calls a1 a6 _ A4.out).mono ?_);rintro e w' ⟨rfl,⟨nd,rfl⟩⟩;refine⟨_,rfl,?_⟩))
 (try simp only[Act.put,zT]);go_cut [] (fun wc=>∃ (kq:Nat),Aside0 (cmp_Compare_int.j0 kq a0 a1 a6=some r)∧Aside0 (kq≤k)∧Drawn0 w wc)
 case first=>
  have H:=a3.out;clear a3;replace H:=zB0 H;rcases H with ⟨rfl,H⟩|⟨rfl,H⟩
  ·replace H:=zB0 H;rcases H with ⟨rfl,H⟩|⟨rfl,H⟩
   ·obtain rfl:=zm H;go_wp2;go_ret;exact⟨by first|rfl|(simp;done)|(simp[*];done)|(simp;rw[Bool.eq_iff_iff];simp;done),zv0⟩
   obtain rfl:=zm H;go_wp2;go_ret;exact⟨by first|rfl|(simp;done)|(simp[*];done)|(simp;rw[Bool.eq_iff_iff];simp;done),zv0⟩
  have H':=zA H;clear H;go_wp2;go_meet
  case rel=>exact⟨_,(by first|exact H'|(subst_vars;exact H')),⟨by first|omega|exact Nat.le_refl _⟩,zv0⟩
 case rest=>
  clear a3;obtain⟨kq,HA,a9,⟨b3,rfl⟩⟩:=hcut;cases kq with
  | zero=>exact absurd HA.out (by simp[cmp_Compare_int.j0])
  | succ b0=>
   have H:=HA.out;clear HA;simp only[cmp_Compare_int.j0] at H;have a4:=zA H;clear H;go_upto_if 13 with (fail)
   go_cut [] (fun wc=>∃ (kq:Nat),Aside0 (cmp_Compare_int.j1 kq a0 a1=some r)∧Aside0 (kq≤b0)∧Drawn0 w wc)
   case first=>
    have H:=a4.out;clear a4;replace H:=zB0 H;rcases H with ⟨rfl,H⟩|⟨rfl,H⟩
    ·obtain rfl:=zm H;go_wp2;go_ret;exact⟨by first|rfl|(simp;done)|(simp[*];done)|(simp;rw[Bool.eq_iff_iff];simp;done),zv0⟩
    have H':=zA H;clear H;go_wp2;go_meet
    case rel=>exact⟨_,(by first|exact H'|(subst_vars;exact H')),⟨by have:=a9.out;first|omega|exact Nat.le_refl _⟩,zv0⟩
   case rest=>
    clear a4;obtain⟨kq,HA,b4,⟨b5,rfl⟩⟩:=hcut;cases kq with
    | zero=>exact absurd HA.out (by simp[cmp_Compare_int.j1])
    | succ b6=>
     have H:=HA.out;clear HA;simp only[cmp_Compare_int.j1] at H;replace H:=zI0 H;rcases H with ⟨b1,H⟩|⟨b1,H⟩
     ·obtain rfl:=zm H;go_wp2;go_ret;exact⟨by first|rfl|(simp;done)|(simp[*];done)|(simp;rw[Bool.eq_iff_iff];simp;done),zv0⟩
     replace H:=zI1 H;rcases H with ⟨a2,H⟩|⟨a2,H⟩
     ·have b2:decide (a1<a0)=true:=decide_eq_true a2;clear a2;obtain rfl:=zm H;go_wp2;go_ret;exact⟨by first|rfl|(simp;done)|(simp[*];done)|(simp;rw[Bool.eq_iff_iff];simp;done),zv0⟩
     have b2:decide (a1<a0)=false:=decide_eq_false a2;clear a2;obtain rfl:=zm H;go_wp2;go_ret;exact⟨by first|rfl|(simp;done)|(simp[*];done)|(simp;rw[Bool.eq_iff_iff];simp;done),zv0⟩
/-! ### cmp_isNaN_string: function 175 -/
def cmp_isNaN_string.f (a0:ByteArray):Option (Bool):=some (a0.toList != a0.toList)
theorem cmp_isNaN_string.calls (a0:ByteArray) (r:Bool) (w:World) (h:cmp_isNaN_string.f a0=some r) :
  Calls Tryz.prog 175 #[.string a0] w fun e w'=>e=.returned (.bool r)∧Drawn0 w w':=by
 unfold cmp_isNaN_string.f at h;have H:=h;clear h;obtain rfl:=zm H;go_enter Tryz.func175,Tryz.ntmps175;go_wp2;go_ret;exact⟨by first|rfl|(simp;done)|(simp[*];done)|(simp;rw[Bool.eq_iff_iff];simp;done),zv0⟩
/-! ### cmp_Compare_string: function 145 -/
mutual
def cmp_Compare_string.j0:Nat→ByteArray→ByteArray→Bool→Option (Int)
 | 0,_,_,_=>none
 | k+1,x0,x1,x6=>if x6=true then (some 1) else (cmp_Compare_string.j1 k x0 x1)
def cmp_Compare_string.j1:Nat→ByteArray→ByteArray→Option (Int)
 | 0,_,_=>none
 | k+1,x0,x1=>if (Op.bytesLess x0.toList x1.toList)=true then (some (-1)) else (if (Op.bytesLess x1.toList x0.toList)=true then (some 1) else (some 0))
end
def cmp_Compare_string.f (k:Nat) (a0 a1:ByteArray):Option (Int):=(cmp_isNaN_string.f a0).bind fun a3=>((cmp_isNaN_string.f a1).bind fun a2=>(if a3=true then (if a2=true then (some 0) else (some (-1))) else (cmp_Compare_string.j0 k a0 a1 a2)))
theorem cmp_Compare_string.calls (k:Nat) (a0 a1:ByteArray) (r:Int) (w:World) (h:cmp_Compare_string.f k a0 a1=some r) :
  Calls Tryz.prog 145 #[.string a0,.string a1] w fun e w'=>e=.returned (.int .i64 r)∧Drawn0 w w':=by
 unfold cmp_Compare_string.f at h;have H:=h;clear h;replace H:=Option.bind_eq_some_iff.mp H;obtain⟨a9,a6,H⟩:=H;(try dsimp only at H);have A3:=zA a6;clear a6;replace H:=Option.bind_eq_some_iff.mp H;obtain⟨a7,a8,H⟩:=H;(try dsimp only at H);have A4:=zA a8;clear a8;have a4:=zA H;clear H;go_enter Tryz.func145,Tryz.ntmps145;go_upto_if 11 with (first|((with_reducible refine zq 175 ?_);refine zg (some 8) Tryz.func175 #[.string a0] ?_;(with_reducible refine(cmp_isNaN_string.calls a0 a9 _ A3.out).mono ?_);rintro e w' ⟨rfl,⟨nd,rfl⟩⟩;refine⟨_,rfl,?_⟩)|((with_reducible refine zq 175 ?_);refine zg (some 10) Tryz.func175 #[.string a1] ?_;(with_reducible refine(cmp_isNaN_string.calls a1 a7 _ A4.out).mono ?_);rintro e w' ⟨rfl,⟨nd,rfl⟩⟩;refine⟨_,rfl,?_⟩))
 (try simp only[Act.put,zT]);go_cut [] (fun wc=>∃ (kq:Nat),Aside0 (cmp_Compare_string.j0 kq a0 a1 a7=some r)∧Aside0 (kq≤k)∧Drawn0 w wc)
 case first=>
  have H:=a4.out;clear a4;replace H:=zB0 H;rcases H with ⟨rfl,H⟩|⟨rfl,H⟩
  ·replace H:=zB0 H;rcases H with ⟨rfl,H⟩|⟨rfl,H⟩
   ·obtain rfl:=zm H;go_wp2;go_ret;exact⟨by first|rfl|(simp;done)|(simp[*];done)|(simp;rw[Bool.eq_iff_iff];simp;done),zv0⟩
   obtain rfl:=zm H;go_wp2;go_ret;exact⟨by first|rfl|(simp;done)|(simp[*];done)|(simp;rw[Bool.eq_iff_iff];simp;done),zv0⟩
  have H':=zA H;clear H;go_wp2;go_meet
  case rel=>exact⟨_,(by first|exact H'|(subst_vars;exact H')),⟨by first|omega|exact Nat.le_refl _⟩,zv0⟩
 case rest=>
  clear a4;obtain⟨kq,HA,b0,⟨b4,rfl⟩⟩:=hcut;cases kq with
  | zero=>exact absurd HA.out (by simp[cmp_Compare_string.j0])
  | succ b1=>
   have H:=HA.out;clear HA;simp only[cmp_Compare_string.j0] at H;have a5:=zA H;clear H;go_upto_if 13 with (fail)
   go_cut [] (fun wc=>∃ (kq:Nat),Aside0 (cmp_Compare_string.j1 kq a0 a1=some r)∧Aside0 (kq≤b1)∧Drawn0 w wc)
   case first=>
    have H:=a5.out;clear a5;replace H:=zB0 H;rcases H with ⟨rfl,H⟩|⟨rfl,H⟩
    ·obtain rfl:=zm H;go_wp2;go_ret;exact⟨by first|rfl|(simp;done)|(simp[*];done)|(simp;rw[Bool.eq_iff_iff];simp;done),zv0⟩
    have H':=zA H;clear H;go_wp2;go_meet
    case rel=>exact⟨_,(by first|exact H'|(subst_vars;exact H')),⟨by have:=b0.out;first|omega|exact Nat.le_refl _⟩,zv0⟩
   case rest=>
    clear a5;obtain⟨kq,HA,b5,⟨b6,rfl⟩⟩:=hcut;cases kq with
    | zero=>exact absurd HA.out (by simp[cmp_Compare_string.j1])
    | succ b7=>
     have H:=HA.out;clear HA;simp only[cmp_Compare_string.j1] at H;replace H:=zI1 H;rcases H with ⟨a2,H⟩|⟨a2,H⟩
     ·have b2:(Op.bytesLess a0.toList a1.toList)=true:=a2;clear a2;obtain rfl:=zm H;go_wp2;go_ret;exact⟨by first|rfl|(simp;done)|(simp[*];done)|(simp;rw[Bool.eq_iff_iff];simp;done),zv0⟩
     have b2:(Op.bytesLess a0.toList a1.toList)=false:=by simpa using a2
     clear a2;replace H:=zI1 H;rcases H with ⟨a3,H⟩|⟨a3,H⟩
     ·have b3:(Op.bytesLess a1.toList a0.toList)=true:=a3;clear a3;obtain rfl:=zm H;go_wp2;go_ret;exact⟨by first|rfl|(simp;done)|(simp[*];done)|(simp;rw[Bool.eq_iff_iff];simp;done),zv0⟩
     have b3:(Op.bytesLess a1.toList a0.toList)=false:=by simpa using a3
     clear a3;obtain rfl:=zm H;go_wp2;go_ret;exact⟨by first|rfl|(simp;done)|(simp[*];done)|(simp;rw[Bool.eq_iff_iff];simp;done),zv0⟩
/-! ### impl_compareWords: function 99 -/
mutual
def impl_compareWords.j0:Nat→ByteArray→ByteArray→Bool→Bool→Option (Int)
 | 0,_,_,_,_=>none
 | k+1,x0,x1,x5,x6=>if x5=true then (impl_compareWords.j1 k x0 x1 x5 x6 x6) else (impl_compareWords.j1 k x0 x1 x5 x6 false)
def impl_compareWords.j1:Nat→ByteArray→ByteArray→Bool→Bool→Bool→Option (Int)
 | 0,_,_,_,_,_=>none
 | k+1,x0,x1,x5,x6,a0=>if a0=true then ((cmp_Compare_int.f k (x0.size:Int) (x1.size:Int)).bind fun a1=>((cmp_Compare_string.f k x0 x1).bind fun a2=>((cmp_Or_int.f k (([a1,a2]:List Int))).bind fun a3=>(some a3)))) else (if x5=true then (some (-1)) else (if x6=true then (some 1) else ((cmp_Compare_string.f k x0 x1).bind fun a4=>(some a4))))
end
def impl_compareWords.f (k:Nat) (a0 a1:ByteArray):Option (Int):=if a0.toList=([]:List UInt8) then (if a1.toList=([]:List UInt8) then (impl_compareWords.j0 k a0 a1 true true) else ((impl_isFigures.f k a1).bind fun a3=>(impl_compareWords.j0 k a0 a1 true a3))) else ((impl_isFigures.f k a0).bind fun a2=>(if a1.toList=([]:List UInt8) then (impl_compareWords.j0 k a0 a1 a2 true) else ((impl_isFigures.f k a1).bind fun a4=>(impl_compareWords.j0 k a0 a1 a2 a4))))
theorem impl_compareWords.calls (k:Nat) (a0 a1:ByteArray) (r:Int) (w:World) (h:impl_compareWords.f k a0 a1=some r) :
  Calls Tryz.prog 99 #[.string a0,.string a1] w fun e w'=>e=.returned (.int .i64 r)∧Below w.heap.size w w':=by
 have HB:=zA (Below.refl w.heap.size w);unfold impl_compareWords.f at h;have H:=h;clear h;have b0:=zA H;clear H;go_enter Tryz.func99,Tryz.ntmps99;go_upto_region 1 with (fail)
 go_cut [5,6] (fun v5 v6 wc=>∃ (kq:Nat) (a8:Bool) (a5:Bool),v5=.bool a8∧v6=.bool a5∧Aside0 (impl_compareWords.j0 kq a0 a1 a8 a5=some r)∧Aside0 (kq≤k)∧Aside0 (Below w.heap.size w wc))
 case first=>
  have H:=b0.out;clear b0;replace H:=zI1 H;rcases H with ⟨c4,H⟩|⟨c4,H⟩
  ·have a2:=beq_iff_eq.mpr c4;have b1:=bne_eq_false_iff_eq.mpr c4;clear c4;(first|rw[a2]|(simp only[i64_w,i32_w];rw[a2])|rw[show a0.toList.isEmpty=true from by simpa using a2]|skip);replace H:=zI1 H;rcases H with ⟨c5,H⟩|⟨c5,H⟩
   ·have b2:=beq_iff_eq.mpr c5;have b3:=bne_eq_false_iff_eq.mpr c5;clear c5;have H':=zA H;clear H;go_wp2;go_meet
    case rel=>exact⟨_,(true),(true),zS,zS,(by first|exact H'|(subst_vars;exact H')),⟨by first|omega|exact Nat.le_refl _⟩,⟨zB⟩⟩
   have b2:=beq_eq_false_iff_ne.mpr c5;have b3:=bne_iff_ne.mpr c5;replace H:=Option.bind_eq_some_iff.mp H;obtain⟨c3,c6,H⟩:=H;(try dsimp only at H);have A6:=zA c6;clear c6;have H':=zA H;clear H;go_wp2_with (first|(go_at_call 142;(with_reducible refine(impl_isFigures.calls k a1 c3 _ A6.out).mono ?_);rintro e w' ⟨rfl,⟨nd,rfl⟩⟩))
   go_meet
   case rel=>exact⟨_,(true),(c3),zS,zS,(by first|exact H'|(subst_vars;exact H')),⟨by first|omega|exact Nat.le_refl _⟩,⟨zB⟩⟩
  have a2:=beq_eq_false_iff_ne.mpr c4;have b1:=bne_iff_ne.mpr c4;(first|rw[a2]|(simp only[i64_w,i32_w];rw[a2])|rw[show a0.toList.isEmpty=false from by simpa using a2]|skip);replace H:=Option.bind_eq_some_iff.mp H;obtain⟨a9,c7,H⟩:=H;(try dsimp only at H);have A7:=zA c7;clear c7;replace H:=zI1 H;rcases H with ⟨c8,H⟩|⟨c8,H⟩
  ·have b4:=beq_iff_eq.mpr c8;have b5:=bne_eq_false_iff_eq.mpr c8;clear c8;have H':=zA H;clear H;go_wp2_with (first|(go_at_call 142;(with_reducible refine(impl_isFigures.calls k a0 a9 _ A7.out).mono ?_);rintro e w' ⟨rfl,⟨nd,rfl⟩⟩))
   go_meet
   case rel=>exact⟨_,(a9),(true),zS,zS,(by first|exact H'|(subst_vars;exact H')),⟨by first|omega|exact Nat.le_refl _⟩,⟨zB⟩⟩
  have b4:=beq_eq_false_iff_ne.mpr c8;have b5:=bne_iff_ne.mpr c8;replace H:=Option.bind_eq_some_iff.mp H;obtain⟨d0,d1,H⟩:=H;(try dsimp only at H);have A9:=zA d1;clear d1;have H':=zA H;clear H;go_wp2_with (first|(go_at_call 142;(with_reducible refine(impl_isFigures.calls k a0 a9 _ A7.out).mono ?_);rintro e w' ⟨rfl,⟨nd,rfl⟩⟩)|(go_at_call 142;(with_reducible refine(impl_isFigures.calls k a1 d0 _ A9.out).mono ?_);rintro e w' ⟨rfl,⟨nd,rfl⟩⟩))
  go_meet
  case rel=>exact⟨_,(a9),(d0),zS,zS,(by first|exact H'|(subst_vars;exact H')),⟨by first|omega|exact Nat.le_refl _⟩,⟨zB⟩⟩
 case rest=>
  clear b0;obtain⟨kq,a8,a5,rfl,rfl,HA,d2,HB⟩:=hcut;cases kq with
  | zero=>exact absurd HA.out (by simp[impl_compareWords.j0])
  | succ d8=>
   have H:=HA.out;clear HA;simp only[impl_compareWords.j0] at H;have b6:=zA H;clear H;go_upto_region 2 with (fail)
   go_cut [19] (fun d9 wc=>∃ (kq:Nat) (b7:Bool),d9=.bool b7∧Aside0 (impl_compareWords.j1 kq a0 a1 a8 a5 b7=some r)∧Aside0 (kq≤d8)∧Aside0 (Below w.heap.size w wc))
   case first=>
    have H:=b6.out;clear b6;replace H:=zB0 H;rcases H with ⟨rfl,H⟩|⟨rfl,H⟩
    ·have H':=zA H;clear H;go_wp2;go_meet
     case rel=>exact⟨_,(a5),zS,(by first|exact H'|(subst_vars;exact H')),⟨by have:=d2.out;first|omega|exact Nat.le_refl _⟩,⟨zB⟩⟩
    have H':=zA H;clear H;go_wp2;go_meet
    case rel=>exact⟨_,(false),zS,(by first|exact H'|(subst_vars;exact H')),⟨by have:=d2.out;first|omega|exact Nat.le_refl _⟩,⟨zB⟩⟩
   case rest=>
    clear b6;obtain⟨kq,b7,rfl,HA,e8,HB⟩:=hcut;cases kq with
    | zero=>exact absurd HA.out (by simp[impl_compareWords.j1])
    | succ a6=>
     have H:=HA.out;clear HA;simp only[impl_compareWords.j1] at H;replace H:=zB0 H;rcases H with ⟨rfl,H⟩|⟨rfl,H⟩
     ·replace H:=Option.bind_eq_some_iff.mp H;obtain⟨a3,d3,H⟩:=H;(try dsimp only at H);have e0:=zA d3;clear d3;replace H:=Option.bind_eq_some_iff.mp H;obtain⟨a4,d4,H⟩:=H;(try dsimp only at H);have e1:=zA d4;clear d4;obtain⟨b8,b9⟩:∃ y_:List Int,y_=(([a3,a4]:List Int)):=⟨_,rfl⟩;replace H:((cmp_Or_int.f a6 b8).bind fun c0=>(some c0))=some r:=zY b9 H;have d5:=zA b9;clear b9;replace H:=Option.bind_eq_some_iff.mp H;obtain⟨c0,d6,H⟩:=H;(try dsimp only at H);have e2:=zA d6;clear d6;obtain rfl:=zm H;go_wp2_with (first|((with_reducible refine zq 97 ?_);refine zg (some 28) Tryz.func97 #[.int .i64 (a0.size:Int),.int .i64 (a1.size:Int)] ?_;(with_reducible refine(cmp_Compare_int.calls a6 (a0.size:Int) (a1.size:Int) a3 _ e0.out).mono ?_);rintro e w' ⟨rfl,⟨nd,rfl⟩⟩;refine⟨_,rfl,?_⟩)|((with_reducible refine zq 145 ?_);refine zg (some 31) Tryz.func145 #[.string a0,.string a1] ?_;(with_reducible refine(cmp_Compare_string.calls a6 a0 a1 a4 _ e1.out).mono ?_);rintro e w' ⟨rfl,⟨nd,rfl⟩⟩;refine⟨_,rfl,?_⟩)|((with_reducible refine gate_dst (N:=32) rfl ?_);refine Kd.R_lit (Kd.int .i64) _ 3 ?hg (N:=32) ?hd (xs:=([a3,a4]:List Int)) (inner:=[.int .i64 a3,.int .i64 a4]) (ok:=fun _=>True) ?hr ?hp (fun _ hk=>hk) trivial (Below.refl _ _) (Nat.le_refl _) (by simp) ?_;(case hd=>rfl);(case hg=>rfl);(case hr=>first|(go_simp;done)|(go_simp;rfl));(case hp=>exact(Reps.one (show Kd.M (Kd.int .i64) _ _ _ a3 [.int .i64 a3] from rfl) (Reps.one (show Kd.M (Kd.int .i64) _ _ _ a4 [.int .i64 a4] from rfl) (Reps.none _ _))));intro e9 f0 a7 hb hg_ hnew_;clear hg_ hnew_;(first|rw[← d5.out] at a7|(simp only[Int.reduceToNat] at a7;rw[← d5.out] at a7));have c2:=zA (Kd.R_lower a7 (below_size (zB)));replace HB:=zA (below_step (zB) hb);clear hb a7;obtain⟨e3,e4,e5⟩:=Kd.R_slice c2.out;subst e5)|((with_reducible refine zq 96 ?_);refine zg (some 33) Tryz.func96 #[.slice e3 b8.length e4] ?_;(with_reducible refine(cmp_Or_int.calls a6 _ _ b8 c0 _ ?s1 ?s2 e2.out).mono ?_);(case s1=>exact zC (Kd.R_reads' c2.out).2.2);(case s2=>exact(Kd.R_reads' c2.out).2.1);rintro e w' ⟨rfl,⟨nd,rfl⟩⟩;refine⟨_,rfl,?_⟩))
      go_ret;exact⟨zE,zB⟩
     replace H:=zB0 H;rcases H with ⟨rfl,H⟩|⟨rfl,H⟩
     ·obtain rfl:=zm H;go_wp2;go_ret;exact⟨zE,zB⟩
     replace H:=zB0 H;rcases H with ⟨rfl,H⟩|⟨rfl,H⟩
     ·obtain rfl:=zm H;go_wp2;go_ret;exact⟨zE,zB⟩
     replace H:=Option.bind_eq_some_iff.mp H;obtain⟨e6,d7,H⟩:=H;(try dsimp only at H);have e7:=zA d7;clear d7;obtain rfl:=zm H;go_wp2_with (first|((with_reducible refine zq 145 ?_);refine zg (some 40) Tryz.func145 #[.string a0,.string a1] ?_;(with_reducible refine(cmp_Compare_string.calls a6 a0 a1 e6 _ e7.out).mono ?_);rintro e w' ⟨rfl,⟨nd,rfl⟩⟩;refine⟨_,rfl,?_⟩))
     go_ret;exact⟨zE,zB⟩
/-! ### slices_CompareFunc_string_string_string_string: function 98 -/
mutual
def slices_CompareFunc_string_string_string_string.l0:Nat→List ByteArray→List ByteArray→List ByteArray→Int→Int→Option (Int)
 | 0,_,_,_,_,_=>none
 | k+1,x0,x1,a1,a2,a0=>if a0<a2 then (slices_CompareFunc_string_string_string_string.j1 k x0 x1 a1 a2 a0) else (if (x0.length:Int)<(x1.length:Int) then (some (-1)) else (some 0))
def slices_CompareFunc_string_string_string_string.j1:Nat→List ByteArray→List ByteArray→List ByteArray→Int→Int→Option (Int)
 | 0,_,_,_,_,_=>none
 | k+1,x0,x1,a1,a2,a0=>if 0≤a0 then (if a0<(a1.length:Int) then (if a0≥(x1.length:Int) then (some 1) else (if a0<(x1.length:Int) then ((impl_compareWords.f k (rdOf ByteArray.empty a1 a0) (rdOf ByteArray.empty x1 a0)).bind fun a3=>(if a3=0 then (slices_CompareFunc_string_string_string_string.l0 k x0 x1 a1 a2 (wrap64 (a0+1))) else (some a3))) else (none))) else (none)) else (none)
end
def slices_CompareFunc_string_string_string_string.f (k:Nat) (l0 l1:List ByteArray):Option (Int):=slices_CompareFunc_string_string_string_string.l0 k l0 l1 l0 (l0.length:Int) 0
theorem slices_CompareFunc_string_string_string_string.calls (k:Nat) (A0:Option Addr) (c0:Nat) (l0:List ByteArray) (A1:Option Addr) (c1:Nat) (l1:List ByteArray) (r:Int) (w:World) (b5:Kd.C Kd.string w A0 l0.length l0) (b6:l0.length≤c0) (b7:Kd.C Kd.string w A1 l1.length l1) (b8:l1.length≤c1) (h:slices_CompareFunc_string_string_string_string.f k l0 l1=some r) :
  Calls Tryz.prog 98 #[.slice A0 l0.length c0,.slice A1 l1.length c1,.func (.func 99) #[] #[]] w fun e w'=>e=.returned (.int .i64 r)∧Below w.heap.size w w':=by
 have b0:=zA b5;have d7:=zA b6;clear b5 b6;have b9:=zA b7;have d8:=zA b8;clear b7 b8;have HB:=zA (Below.refl w.heap.size w);unfold slices_CompareFunc_string_string_string_string.f at h;have H:=h;clear h;have H':=zA H;clear H;go_enter Tryz.func98,Tryz.ntmps98;go_wp2;go_loopg [13] k (fun kq d2 w'=>∃ (a0:Int),d2=.int .i64 a0∧Aside0 (slices_CompareFunc_string_string_string_string.l0 kq l0 l1 l0 (l0.length:Int) a0=some r)∧Aside0 (kq≤k)∧Aside0 (Below w.heap.size w w'))
 case atStart=>exact⟨(0),zS,H',⟨Nat.le_refl _⟩,⟨zB⟩⟩
 case round=>
  clear H';(try clear c1);obtain⟨a0,rfl,HA,b1,HB⟩:=hrel;cases gk with
  | zero=>exact absurd HA.out (by simp[slices_CompareFunc_string_string_string_string.l0])
  | succ k1=>
   have H:=HA.out;clear HA;simp only[slices_CompareFunc_string_string_string_string.l0] at H;have b2:=zA H;clear H;go_upto_if 14 with (fail)
   go_cut [] (fun wc=>∃ (kq:Nat),Aside0 (slices_CompareFunc_string_string_string_string.j1 kq l0 l1 l0 (l0.length:Int) a0=some r)∧Aside0 (kq≤k1)∧Aside0 (Below w.heap.size w wc))
   case first=>
    have H:=b2.out;clear b2;replace H:=zI0 H;rcases H with ⟨a6,H⟩|⟨a6,H⟩
    ·(first|rw[a6]|(simp only[i64_w,i32_w];rw[a6])|skip);have H':=zA H;clear H;go_wp2;go_meet
     case rel=>exact⟨_,(by first|exact H'|(subst_vars;exact H')),⟨by have:=b1.out;first|omega|exact Nat.le_refl _⟩,⟨zB⟩⟩
    (first|rw[a6]|(simp only[i64_w,i32_w];rw[a6])|skip);replace H:=zI1 H;rcases H with ⟨c5,H⟩|⟨c5,H⟩
    ·have c2:=decide_eq_true c5;have c3:decide (l0.length<l1.length)=true:=decide_eq_true (Int.ofNat_lt.mp c5);clear c5;obtain rfl:=zm H;go_wp2;go_ret;exact⟨zE,zB⟩
    have c2:=decide_eq_false c5;have c3:decide (l0.length<l1.length)=false:=decide_eq_false (fun h=>c5 (Int.ofNat_lt.mpr h));clear c5;obtain rfl:=zm H;go_wp2;go_ret;exact⟨zE,zB⟩
   case rest=>
    clear b2;obtain⟨kq,HA,c6,HB⟩:=hcut;cases kq with
    | zero=>exact absurd HA.out (by simp[slices_CompareFunc_string_string_string_string.j1])
    | succ b3=>
     have H:=HA.out;clear HA;simp only[slices_CompareFunc_string_string_string_string.j1] at H;replace H:=zD0 H;obtain⟨d9,H⟩:=H;replace H:=zD0 H;obtain⟨e0,H⟩:=H;replace H:=zI1 H;rcases H with ⟨c8,H⟩|⟨c8,H⟩
     ·have d3:decide ((l1.length:Int)≤a0)=true:=decide_eq_true c8;clear c8;obtain rfl:=zm H;have a1:0≤(a0:Int):=zD;have a2:a0<(l0.length:Int):=zD;obtain⟨c7,a8,a3⟩:=Kd.at_string b0.out a0 a1 a2;cases a8;replace a3:=zx HB a3;replace a1:=eq_true a1;replace a2:=eq_true a2;go_wp2;go_ret;exact⟨zE,zB⟩
     have d3:decide ((l1.length:Int)≤a0)=false:=decide_eq_false c8;clear c8;replace H:=zD0 H;obtain⟨e1,H⟩:=H;replace H:=Option.bind_eq_some_iff.mp H;obtain⟨c9,d0,H⟩:=H;(try dsimp only at H);have d1:=zA d0;clear d0;replace H:=zI1 H;rcases H with ⟨a7,H⟩|⟨a7,H⟩
     ·have d4:=beq_iff_eq.mpr a7;have d5:=bne_eq_false_iff_eq.mpr a7;clear a7;have H':=zA H;clear H;have a1:0≤(a0:Int):=zD;have a2:a0<(l0.length:Int):=zD;obtain⟨c7,a8,a3⟩:=Kd.at_string b0.out a0 a1 a2;cases a8;replace a3:=zx HB a3;replace a1:=eq_true a1;replace a2:=eq_true a2;have a4:0≤(a0:Int):=zD;have a5:a0<(l1.length:Int):=zD;obtain⟨d6,b4,a9⟩:=Kd.at_string b9.out a0 a4 a5;cases b4;replace a9:=zx HB a9;replace a4:=eq_true a4;replace a5:=eq_true a5;go_wp2_with (first|(go_at_call 99;(with_reducible refine(impl_compareWords.calls b3 (rdOf ByteArray.empty l0 a0) (rdOf ByteArray.empty l1 a0) c9 _ d1.out).mono ?_);rintro e e2 ⟨rfl,hb⟩;replace HB:=zA (below_step (zB) hb);(try clear hb)))
      go_roundg b3
      case measure=>have:=b1.out;have:=c6.out;omega
      case rel=>exact⟨(wrap64 (a0+1)),zS,H',⟨by have:=b1.out;have:=c6.out;omega⟩,⟨zB⟩⟩
     have d4:=beq_eq_false_iff_ne.mpr a7;have d5:=bne_iff_ne.mpr a7;obtain rfl:=zm H;have a1:0≤(a0:Int):=zD;have a2:a0<(l0.length:Int):=zD;obtain⟨c7,a8,a3⟩:=Kd.at_string b0.out a0 a1 a2;cases a8;replace a3:=zx HB a3;replace a1:=eq_true a1;replace a2:=eq_true a2;have a4:0≤(a0:Int):=zD;have a5:a0<(l1.length:Int):=zD;obtain⟨d6,b4,a9⟩:=Kd.at_string b9.out a0 a4 a5;cases b4;replace a9:=zx HB a9;replace a4:=eq_true a4;replace a5:=eq_true a5;go_wp2_with (first|(go_at_call 99;(with_reducible refine(impl_compareWords.calls b3 (rdOf ByteArray.empty l0 a0) (rdOf ByteArray.empty l1 a0) c9 _ d1.out).mono ?_);rintro e e3 ⟨rfl,hb⟩;replace HB:=zA (below_step (zB) hb);(try clear hb)))
     go_ret;exact⟨zE,zB⟩
/-! ### impl_compareVer: function 58 -/
def impl_compareVer.j0:Nat→Int→Int→Int→List ByteArray→Int→Int→Int→List ByteArray→Option (Int)
 | 0,_,_,_,_,_,_,_,_=>none
 | k+1,a3,a4,a5,a0,a6,a7,a8,a1=>if (((a0.length:Int) == 0) != ((a1.length:Int) == 0))=true then (if (a0.length:Int)>0 then (some (-1)) else (some 1)) else ((slices_CompareFunc_string_string_string_string.f k a0 a1).bind fun a2=>(some a2))
def impl_compareVer.f (k:Nat) (a0 a1 a2:Int) (a7:List ByteArray) (a3 a4 a5:Int) (a8:List ByteArray):Option (Int):=(cmp_Compare_int.f k a0 a3).bind fun a9=>((cmp_Compare_int.f k a1 a4).bind fun b0=>((cmp_Compare_int.f k a2 a5).bind fun b1=>((cmp_Or_int.f k (([a9,b0,b1]:List Int))).bind fun a6=>(if a6=0 then (impl_compareVer.j0 k a0 a1 a2 a7 a3 a4 a5 a8) else (some a6)))))
def impl_compareVer.T1:Bool × List (List Nat × List Nat):=(true,[([],[]),([0],[0]),([],[]),([2],[2]),([1,3],[1,3]),([],[]),([5],[5]),([],[]),([7],[7]),([6,8,4],[6,8]),([],[]),([10],[10]),([],[]),([12],[12]),([11,13,9],[11,13]),([4,9,14],[4,9,14]),([15,14],[15]),([16,16,0,1,2,3,4,5,6,7,8,9,10,11,12,13,14,15,16],[16])])
def impl_compareVer.B1:List Nat:=[0,1,0,4,15,0,32,0,128,511,0,1024,0,4096,16383,32767,65535,131071]
theorem impl_compareVer.tab1:rtab .any (opsOf Tryz.f58 1)=impl_compareVer.T1:=by kernel_rfl
theorem impl_compareVer.bits1:waitsOk impl_compareVer.T1.2 impl_compareVer.B1=true:=by kernel_rfl
theorem impl_compareVer.calls (k:Nat) (a5 a6 a7:Int) (b2:Option Addr) (b3:Nat) (a0:List ByteArray) (a8 a9 b0:Int) (b4:Option Addr) (b5:Nat) (a1:List ByteArray) (r:Int) (w:World) (d4:Kd.C Kd.string w b2 a0.length a0) (d5:a0.length≤b3) (d6:Kd.C Kd.string w b4 a1.length a1) (d7:a1.length≤b5) (h:impl_compareVer.f k a5 a6 a7 a0 a8 a9 b0 a1=some r) :
  Calls Tryz.prog 58 #[.agg #[.int .i64 a5,.int .i64 a6,.int .i64 a7,.slice b2 a0.length b3],.agg #[.int .i64 a8,.int .i64 a9,.int .i64 b0,.slice b4 a1.length b5]] w fun e w'=>e=.returned (.int .i64 r)∧Below w.heap.size w w':=by
 have g2:=Tryz.underlying30;have e6:=zA d4;have e7:=zA d5;clear d4 d5;have e8:=zA d6;have e9:=zA d7;clear d6 d7;have HB:=zA (Below.refl w.heap.size w);unfold impl_compareVer.f at h;have H:=h;clear h;replace H:=Option.bind_eq_some_iff.mp H;obtain⟨b6,d8,H⟩:=H;(try dsimp only at H);have A3:=zA d8;clear d8;replace H:=Option.bind_eq_some_iff.mp H;obtain⟨b7,d9,H⟩:=H;(try dsimp only at H);have A4:=zA d9;clear d9;replace H:=Option.bind_eq_some_iff.mp H;obtain⟨b8,e0,H⟩:=H;(try dsimp only at H);have A5:=zA e0;clear e0;obtain⟨c7,c8⟩:∃ y_:List Int,y_=(([b6,b7,b8]:List Int)):=⟨_,rfl⟩;replace H:((cmp_Or_int.f k c7).bind fun c6=>(if c6=0 then (impl_compareVer.j0 k a5 a6 a7 a0 a8 a9 b0 a1) else (some c6)))=some r:=zY c8 H;have e1:=zA c8;clear c8;replace H:=Option.bind_eq_some_iff.mp H;obtain⟨c6,e2,H⟩:=H;(try dsimp only at H);have A6:=zA e2;clear e2;have d0:=zA H;clear H;go_enter Tryz.func58,Tryz.ntmps58;(try go_wp2_with (first|((with_reducible refine zd 2 ?_);refine ze 2 30 #[.int .i64 a5,.int .i64 a6,.int .i64 a7,.slice b2 a0.length b3] ?_;intro c0 hg w8 hbox hb;have a2:=zA (hbox);have g3:=zi HB hg;have g4:=zi HB hg;replace HB:=zA (below_step (zB) hb);clear hb hbox hg)|((with_reducible refine zd 3 ?_);refine ze 3 30 #[.int .i64 a8,.int .i64 a9,.int .i64 b0,.slice b4 a1.length b5] ?_;intro c2 hg w9 hbox hb;have a3:=zA (hbox);have g5:=zi HB hg;have g6:=zi HB hg;replace HB:=zh HB hb;have d1:=zA (zL hg (zK a2.out));have d2:=zA (zJ hg (zK a2.out));replace a2:=zb a2 hb;clear hb hbox hg)));replace a2:=zA (blk_drew a2.out);replace a3:=zA (blk_drew a3.out);replace HB:=zA (below_drew1 HB.out);refine start_ (n:=18) (S:=fun w'=>w'.cell? ⟨c0,0,none⟩=some (.int .i64 a5)∧w'.cell? ⟨c0,1,none⟩=some (.int .i64 a6)∧w'.cell? ⟨c0,2,none⟩=some (.int .i64 a7)∧w'.cell? ⟨c0,3,none⟩=some (.slice b2 a0.length b3)∧w'.cell? ⟨c2,0,none⟩=some (.int .i64 a8)∧w'.cell? ⟨c2,1,none⟩=some (.int .i64 a9)∧w'.cell? ⟨c2,2,none⟩=some (.int .i64 b0)∧w'.cell? ⟨c2,3,none⟩=some (.slice b4 a1.length b5)) (ds:=[]) (Array.replicate 18 false) (by kernel_rfl) rfl rfl zO fun hHeld=>?_;refine with_tabW impl_compareVer.tab1 impl_compareVer.bits1 (fun HT_ HW_=>?_);generalize w9.drew=g7 at a2 a3 HB hHeld ⊢;refine zp 0 6 ?_;refine zp 2 8 ?_;refine zp 5 11 ?_;refine zp 7 13 ?_;refine zp 10 16 ?_;refine zp 12 18 ?_;refine zt 1 7 ?_;refine zt 3 9 ?_;refine zt 6 12 ?_;refine zt 8 14 ?_;refine zt 11 17 ?_;refine zt 13 19 ?_;refine zo 4 (some 10) fun K hK=>?_;refine goes_ Tryz.func97 (by kernel_rfl) rfl #[.int .i64 a5,.int .i64 a8] (by rfl) rfl rfl zM ?_;(with_reducible refine(cmp_Compare_int.calls k a5 a8 b6 _ A3.out).mono ?_);rintro e w' ⟨rfl,⟨nd,rfl⟩⟩;refine⟨_,rfl,?_⟩;refine hK.out _ _ zO fun hHeld=>?_;clear hK K;refine zn ?_;refine zo 9 (some 15) fun K hK=>?_;refine goes_ Tryz.func97 (by kernel_rfl) rfl #[.int .i64 a6,.int .i64 a9] (by rfl) rfl rfl zM ?_;(with_reducible refine(cmp_Compare_int.calls k a6 a9 b7 _ A4.out).mono ?_);rintro e w' ⟨rfl,⟨nd,rfl⟩⟩;refine⟨_,rfl,?_⟩;refine hK.out _ _ zO fun hHeld=>?_;clear hK K;refine zn ?_;refine zo 14 (some 20) fun K hK=>?_;refine goes_ Tryz.func97 (by kernel_rfl) rfl #[.int .i64 a7,.int .i64 b0] (by rfl) rfl rfl zM ?_;(with_reducible refine(cmp_Compare_int.calls k a7 b0 b8 _ A5.out).mono ?_);rintro e w' ⟨rfl,⟨nd,rfl⟩⟩;refine⟨_,rfl,?_⟩;refine hK.out _ _ zO fun hHeld=>?_;clear hK K;refine zn ?_;refine zo 15 (some 21) fun K hK=>?_;refine Kd.R_lit_step (Kd.int .i64) _ 3 ?hg (N:=21) ?hd (xs:=([b6,b7,b8]:List Int)) (inner:=[.int .i64 b6,.int .i64 b7,.int .i64 b8]) (ok:=fun _=>True) ?hr ?hp (fun _ hk=>hk) trivial (Below.refl _ _) (Nat.le_refl _) (by simp) ?_;(case hd=>rfl);(case hg=>rfl);(case hr=>first|(go_simp;done)|(go_simp;rfl));(case hp=>exact(Reps.one (show Kd.M (Kd.int .i64) _ _ _ b6 [.int .i64 b6] from rfl) (Reps.one (show Kd.M (Kd.int .i64) _ _ _ b7 [.int .i64 b7] from rfl) (Reps.one (show Kd.M (Kd.int .i64) _ _ _ b8 [.int .i64 b8] from rfl) (Reps.none _ _)))));intro g8 g9 c3 hb hg_ hnew_;clear hg_ hnew_;(first|rw[← e1.out] at c3|(simp only[Int.reduceToNat] at c3;rw[← e1.out] at c3));have d3:=zA (Kd.R_lower c3 (below_size (zW HB.out)));replace a2:=zb a2 hb;replace a3:=zb a3 hb;replace HB:=zh HB hb;clear hb c3;obtain⟨f0,f1,e3⟩:=Kd.R_slice d3.out;(first|subst e3|(injection e3 with f1_ f2_ f3_;have f2:=f1_.symm;have f3:=f3_.symm;clear f1_ f2_ f3_;subst f2;subst f3));refine hK.out _ _ zO fun hHeld=>?_;clear hK K;refine zn ?_;refine zo 16 (some 22) fun K hK=>?_;refine goes_ Tryz.func96 (by kernel_rfl) rfl #[.slice f0 c7.length f1] (by rfl) rfl rfl zM ?_;(with_reducible refine(cmp_Or_int.calls k _ _ c7 c6 _ ?s1 ?s2 A6.out).mono ?_);(case s1=>exact zC (Kd.R_reads' d3.out).2.2);(case s2=>exact(Kd.R_reads' d3.out).2.1);rintro e w' ⟨rfl,⟨nd,rfl⟩⟩;refine⟨_,rfl,?_⟩;refine hK.out _ _ zO fun hHeld=>?_;clear hK K;refine zn ?_;refine zp 17 5 ?_;refine done_ (done_of HT_.out (by kernel_rfl)) ?_;go_upto_if 24 with (fail)
 go_cut [] (fun wc=>∃ (kq:Nat),Aside0 (impl_compareVer.j0 kq a5 a6 a7 a0 a8 a9 b0 a1=some r)∧Aside0 (kq≤k)∧Aside0 (wc.heap[c0]?=some (.cells #[.int .i64 a5,.int .i64 a6,.int .i64 a7,(.slice b2 a0.length b3)] 30 (0,0)))∧Aside0 (wc.heap[c2]?=some (.cells #[.int .i64 a8,.int .i64 a9,.int .i64 b0,(.slice b4 a1.length b5)] 30 (0,0)))∧Aside0 (Below w.heap.size w wc))
 case first=>
  have H:=d0.out;clear d0;replace H:=zI1 H;rcases H with ⟨b1,H⟩|⟨b1,H⟩
  ·have b9:=beq_iff_eq.mpr b1;have e4:=bne_eq_false_iff_eq.mpr b1;clear b1;(first|rw[b9]|(simp only[i64_w,i32_w];rw[b9])|skip);have H':=zA H;clear H;go_wp2;go_meet
   case rel=>exact⟨_,(by first|exact H'|(subst_vars;exact H')),⟨by first|omega|exact Nat.le_refl _⟩,⟨zK a2.out⟩,⟨zK a3.out⟩,⟨zW HB.out⟩⟩
  have b9:=beq_eq_false_iff_ne.mpr b1;have e4:=bne_iff_ne.mpr b1;(first|rw[b9]|(simp only[i64_w,i32_w];rw[b9])|skip);obtain rfl:=zm H;go_wp2;go_ret;exact⟨zE,zW HB.out⟩
 case rest=>
  clear d0;obtain⟨kq,HA,h0,a2,a3,HB⟩:=hcut;cases kq with
  | zero=>exact absurd HA.out (by simp[impl_compareVer.j0])
  | succ f4=>
   have H:=HA.out;clear HA;simp only[impl_compareVer.j0] at H;replace H:=zI1 H;rcases H with ⟨a4,H⟩|⟨a4,H⟩
   ·have f5:(((a0.length:Int) == 0) != ((a1.length:Int) == 0))=true:=a4;(try(have f6:decide (((a0.length:Int) == 0)=((a1.length:Int) == 0))=false:=by simpa using a4));(try(have f7:(((a0.length:Int) == 0) == ((a1.length:Int) == 0))=false:=by simpa using a4));(try(have h1:¬(((a0.length:Int) == 0)=((a1.length:Int) == 0)):=by simpa using a4));clear a4;replace H:=zI1 H;rcases H with ⟨c4,H⟩|⟨c4,H⟩
    ·have f8:decide (0<(a0.length:Int))=true:=decide_eq_true c4;have f9:decide (0<a0.length)=true:=decide_eq_true (by omega);clear c4;obtain rfl:=zm H;have h2:=d1.out;have h3:=d2.out;obtain⟨h4,h5,h6,h7,h8,h9,i0,i1⟩:=ze4 a2.out;obtain⟨i2,i3,i4,i5,i6,i7,i8,i9⟩:=ze4 a3.out;go_wp2;go_ret;exact⟨zE,zW HB.out⟩
    have f8:decide (0<(a0.length:Int))=false:=decide_eq_false c4;have f9:decide (0<a0.length)=false:=decide_eq_false (by omega);clear c4;obtain rfl:=zm H;have j1:=d1.out;have j2:=d2.out;obtain⟨j3,j4,j5,j6,j7,j8,j9,k0⟩:=ze4 a2.out;obtain⟨k1,k2,k3,k4,k5,k6,k7,k8⟩:=ze4 a3.out;go_wp2;go_ret;exact⟨zE,zW HB.out⟩
   have f5:(((a0.length:Int) == 0) != ((a1.length:Int) == 0))=false:=by simpa using a4
   (try(have f6:decide (((a0.length:Int) == 0)=((a1.length:Int) == 0))=true:=by simpa using a4));(try(have f7:(((a0.length:Int) == 0) == ((a1.length:Int) == 0))=true:=by simpa using a4));clear a4;replace H:=Option.bind_eq_some_iff.mp H;obtain⟨g0,e5,H⟩:=H;(try dsimp only at H);have g1:=zA e5;clear e5;obtain rfl:=zm H;have k9:=d1.out;have l0:=d2.out;obtain⟨l1,l2,l3,l4,l5,l6,l7,l8⟩:=ze4 a2.out;obtain⟨l9,m0,m1,m2,m3,m4,m5,m6⟩:=ze4 a3.out;go_wp2_with (first|((with_reducible refine zq 98 ?_);refine zg (some 43) Tryz.func98 #[.slice b2 a0.length b3,.slice b4 a1.length b5,.func (.func 99) #[] #[]] ?_;(with_reducible refine(slices_CompareFunc_string_string_string_string.calls f4 _ _ a0 _ _ a1 g0 _ ?s1 ?s2 ?s3 ?s4 g1.out).mono ?_);(case s1=>exact zC (Kd.C_below e6.out HB.out));(case s2=>exact e7.out);(case s3=>exact zC (Kd.C_below e8.out HB.out));(case s4=>exact e9.out);rintro e m7 ⟨rfl,hb⟩;refine⟨_,rfl,?_⟩;replace a2:=zb a2 hb;replace a3:=zb a3 hb;replace HB:=zh HB hb;(try clear hb)))
   go_ret;exact⟨zE,zW HB.out⟩
/-! ### impl_CmpOk: function 16 -/
def impl_CmpOk.f (k:Nat) (a0 a2 a3 a4:Int) (a5:List ByteArray) (a6 a7 a8:Int) (a9:List ByteArray):Option (Bool):=(impl_compareVer.f k a6 a7 a8 a9 a2 a3 a4 a5).bind fun a1=>(if a0=0 then (some (a1 == 0)) else (if a0=1 then (some (decide (a1<0))) else (if a0=2 then (some (decide (a1≤0))) else (if a0=3 then (some (decide (a1>0))) else (if a0=4 then (some (decide (a1≥0))) else (some false))))))
theorem impl_CmpOk.calls (k:Nat) (c6 b1 b2 b3:Int) (b9:Option Addr) (c0:Nat) (a0:List ByteArray) (b4 b5 b6:Int) (c1:Option Addr) (c2:Nat) (a1:List ByteArray) (r:Bool) (w:World) (d0:Kd.C Kd.string w b9 a0.length a0) (d1:a0.length≤c0) (d2:Kd.C Kd.string w c1 a1.length a1) (d3:a1.length≤c2) (h:impl_CmpOk.f k c6 b1 b2 b3 a0 b4 b5 b6 a1=some r) :
  Calls Tryz.prog 16 #[.agg #[.int .i64 c6,.int .i64 b1,.int .i64 b2,.int .i64 b3,.slice b9 a0.length c0],.agg #[.int .i64 b4,.int .i64 b5,.int .i64 b6,.slice c1 a1.length c2]] w fun e w'=>e=.returned (.bool r)∧Below w.heap.size w w':=by
 have e2:=Tryz.underlying34;have e3:=Tryz.underlying30;have d5:=zA d0;have d6:=zA d1;clear d0 d1;have d7:=zA d2;have d8:=zA d3;clear d2 d3;have HB:=zA (Below.refl w.heap.size w);unfold impl_CmpOk.f at h;have H:=h;clear h;replace H:=Option.bind_eq_some_iff.mp H;obtain⟨d9,d4,H⟩:=H;(try dsimp only at H);have A3:=zA d4;clear d4;go_enter Tryz.func16,Tryz.ntmps16;go_upto_if 12 with (first|((with_reducible refine zd 2 ?_);refine ze 2 34 #[.int .i64 c6,.int .i64 b1,.int .i64 b2,.int .i64 b3,.slice b9 a0.length c0] ?_;intro e4 hg w5 hbox hb;have a2:=zA (hbox);have e5:=zi HB hg;have e6:=zi HB hg;replace HB:=zA (below_step (zB) hb);clear hb hbox hg)|((with_reducible refine zd 3 ?_);refine ze 3 30 #[.int .i64 b4,.int .i64 b5,.int .i64 b6,.slice c1 a1.length c2] ?_;intro e7 hg w6 hbox hb;have c7:=zA (hbox);have e8:=zi HB hg;have e9:=zi HB hg;replace HB:=zh HB hb;have e0:=zA (zL hg (zK a2.out));have e1:=zA (zJ hg (zK a2.out));replace a2:=zb a2 hb;clear hb hbox hg;have f0:=e1.out;have f1:=e0.out;obtain⟨f2,f3,f4,f5,f6,f7,f8,f9⟩:=ze4 c7.out;obtain⟨g0,g1,g2,g3,g4,g5,g6,g7,g8,g9⟩:=ze5 a2.out)|((with_reducible refine zq 58 ?_);refine zg (some 9) Tryz.func58 #[.agg #[.int .i64 b4,.int .i64 b5,.int .i64 b6,.slice c1 a1.length c2],.agg #[.int .i64 b1,.int .i64 b2,.int .i64 b3,.slice b9 a0.length c0]] ?_;(with_reducible refine(impl_compareVer.calls k b4 b5 b6 _ _ a1 b1 b2 b3 _ _ a0 d9 _ ?s1 ?s2 ?s3 ?s4 A3.out).mono ?_);(case s1=>exact zC (Kd.C_below d7.out HB.out));(case s2=>exact d8.out);(case s3=>exact zC (Kd.C_below d5.out HB.out));(case s4=>exact d6.out);rintro e h0 ⟨rfl,hb⟩;refine⟨_,rfl,?_⟩;replace a2:=zb a2 hb;replace c7:=zb c7 hb;replace HB:=zh HB hb;(try clear hb);obtain⟨h1,h2,h3,h4,h5,h6,h7,h8,h9,i0⟩:=ze5 a2.out))
 (try simp only[Act.put,zT]);replace H:=zI1 H;rcases H with ⟨c4,H⟩|⟨c4,H⟩
 ·have a3:=beq_iff_eq.mpr c4;have a4:=bne_eq_false_iff_eq.mpr c4;clear c4;obtain rfl:=zm H;(try simp only[a3,a4]);go_wp2;go_ret;exact⟨zE,zW HB.out⟩
 have a3:=beq_eq_false_iff_ne.mpr c4;have a4:=bne_iff_ne.mpr c4;replace H:=zI1 H;rcases H with ⟨a5,H⟩|⟨a5,H⟩
 ·have a6:=beq_iff_eq.mpr a5;have a7:=bne_eq_false_iff_eq.mpr a5;clear a5;obtain rfl:=zm H;(try simp only[a3,a4,a6,a7]);go_wp2;go_ret;exact⟨zE,zW HB.out⟩
 have a6:=beq_eq_false_iff_ne.mpr a5;have a7:=bne_iff_ne.mpr a5;replace H:=zI1 H;rcases H with ⟨a8,H⟩|⟨a8,H⟩
 ·have b7:=beq_iff_eq.mpr a8;have b8:=bne_eq_false_iff_eq.mpr a8;clear a8;obtain rfl:=zm H;(try simp only[a3,a4,a6,a7,b7,b8]);go_wp2;go_ret;exact⟨zE,zW HB.out⟩
 have b7:=beq_eq_false_iff_ne.mpr a8;have b8:=bne_iff_ne.mpr a8;replace H:=zI1 H;rcases H with ⟨a9,H⟩|⟨a9,H⟩
 ·have c3:=beq_iff_eq.mpr a9;have c5:=bne_eq_false_iff_eq.mpr a9;clear a9;obtain rfl:=zm H;(try simp only[a3,a4,a6,a7,b7,b8,c3,c5]);go_wp2;go_ret;exact⟨zE,zW HB.out⟩
 have c3:=beq_eq_false_iff_ne.mpr a9;have c5:=bne_iff_ne.mpr a9;replace H:=zI1 H;rcases H with ⟨b0,H⟩|⟨b0,H⟩
 ·have c8:=beq_iff_eq.mpr b0;have c9:=bne_eq_false_iff_eq.mpr b0;clear b0;obtain rfl:=zm H;(try simp only[a3,a4,a6,a7,b7,b8,c3,c5,c8,c9]);go_wp2;go_ret;exact⟨zE,zW HB.out⟩
 have c8:=beq_eq_false_iff_ne.mpr b0;have c9:=bne_iff_ne.mpr b0;obtain rfl:=zm H;(try simp only[a3,a4,a6,a7,b7,b8,c3,c5,c8,c9]);go_wp2;go_ret;exact⟨zE,zW HB.out⟩
/-! ### impl_takes: function 55 -/
def impl_takes.l0:Nat→Bool→List (S34)→Int→Int→Int→Int→Int→List ByteArray→Option (Bool)
 | 0,_,_,_,_,_,_,_,_=>none
 | k+1,x5,a1,a5,a0,a2,a3,a4,a6=>if a0<a5 then (if 0≤a0 then (if a0<(a1.length:Int) then ((impl_CmpOk.f k ((rd_T34 a1 a0).f0) ((rd_T34 a1 a0).f1.f0) ((rd_T34 a1 a0).f1.f1) ((rd_T34 a1 a0).f1.f2) ((rd_T34 a1 a0).f1.f3) a2 a3 a4 a6).bind fun a7=>(if a7=true then (if x5=true then (impl_takes.l0 k true a1 a5 (wrap64 (a0+1)) a2 a3 a4 a6) else (if (((rd_T34 a1 a0).f1.f3).length:Int)>0 then (if ((rd_T34 a1 a0).f1.f0)=a2 then (if ((rd_T34 a1 a0).f1.f1)=a3 then (impl_takes.l0 k (((rd_T34 a1 a0).f1.f2) == a4) a1 a5 (wrap64 (a0+1)) a2 a3 a4 a6) else (impl_takes.l0 k false a1 a5 (wrap64 (a0+1)) a2 a3 a4 a6)) else (impl_takes.l0 k false a1 a5 (wrap64 (a0+1)) a2 a3 a4 a6)) else (impl_takes.l0 k false a1 a5 (wrap64 (a0+1)) a2 a3 a4 a6))) else (some false))) else (none)) else (none)) else (some x5)
def impl_takes.f (k:Nat) (l0:List (S34)) (a1 a2 a3:Int) (a0:List ByteArray):Option (Bool):=impl_takes.l0 k ((a0.length:Int) == 0) l0 (l0.length:Int) 0 a1 a2 a3 a0
theorem impl_takes.calls (k:Nat) (A0:Option Addr) (c0:Nat) (l0:List (S34)) (a7 a8 a6:Int) (c5:Option Addr) (c6:Nat) (a5:List ByteArray) (r:Bool) (w:World) (d9:Kd.C k34 w A0 l0.length l0) (e0:l0.length≤c0) (e1:Kd.C Kd.string w c5 a5.length a5) (e2:a5.length≤c6) (h:impl_takes.f k l0 a7 a8 a6 a5=some r) :
  Calls Tryz.prog 55 #[.slice A0 l0.length c0,.agg #[.int .i64 a7,.int .i64 a8,.int .i64 a6,.slice c5 a5.length c6]] w fun e w'=>e=.returned (.bool r)∧Below w.heap.size w w':=by
 have g5:=Tryz.underlying30;have g6:=Tryz.underlying34;have c8:=zA d9;have g7:=zA e0;clear d9 e0;have c9:=zA e1;have d0:=zA e2;clear e1 e2;have HB:=zA (Below.refl w.heap.size w);unfold impl_takes.f at h;have H:=h;clear h;have H':=zA H;clear H;go_enter Tryz.func55,Tryz.ntmps55;go_wp2_with (first|((with_reducible refine gate_dst (N:=3) rfl ?_);(try(refine gate_guard (by rfl) ?_;dsimp only));refine box_event ?hg (N:=3) ?hd (cs:=#[.int .i64 a7,.int .i64 a8,.int .i64 a6,.slice c5 a5.length c6]) (t:=30) ?hr ?_;(case hd=>rfl);(case hg=>rfl);(case hr=>first|(go_simp;done)|(go_simp;rfl));intro e4 hg w3 hbox hb;have a1:=zA (hbox);have g8:=zi HB hg;have g9:=zi HB hg;replace HB:=zA (below_step (zB) hb);clear hb hbox hg;obtain⟨e5,e6,e7,e8,e9,f4,f5,f6⟩:=ze4 a1.out))
 go_loopg [5,14] k (fun kq v5 f7 w'=>∃ (d8:Bool) (a0:Int),v5=.bool d8∧f7=.int .i64 a0∧Aside0 (impl_takes.l0 kq d8 l0 (l0.length:Int) a0 a7 a8 a6 a5=some r)∧Aside0 (kq≤k)∧Aside0 (w'.heap[e4]?=some (.cells #[.int .i64 a7,.int .i64 a8,.int .i64 a6,(.slice c5 a5.length c6)] 30 (0,0)))∧Aside0 (Below w.heap.size w w'))
 case atStart=>exact⟨(((a5.length:Int) == 0)),(0),zS,zS,H',⟨Nat.le_refl _⟩,⟨zK a1.out⟩,⟨zW HB.out⟩⟩
 case round=>
  clear H';(try clear e5 e6 e7 e8 e9 f4 f5 f6);obtain⟨d8,a0,rfl,rfl,HA,c7,a1,HB⟩:=hrel;cases gk with
  | zero=>exact absurd HA.out (by simp[impl_takes.l0])
  | succ k1=>
   have H:=HA.out;clear HA;simp only[impl_takes.l0] at H;replace H:=zI0 H;rcases H with ⟨f8,H⟩|⟨f8,H⟩
   ·replace H:=zD0 H;obtain⟨h0,H⟩:=H;replace H:=zD0 H;obtain⟨h1,H⟩:=H;replace H:=Option.bind_eq_some_iff.mp H;obtain⟨h2,e3,H⟩:=H;(try dsimp only at H);have A8:=zA e3;clear e3;replace H:=zB0 H;rcases H with ⟨rfl,H⟩|⟨rfl,H⟩
    ·replace H:=zB0 H;rcases H with ⟨rfl,H⟩|⟨rfl,H⟩
     ·have H':=zA H;clear H;have a3:0≤(a0:Int):=zD;have a4:a0<(l0.length:Int):=zD;obtain⟨d3,b6,b7,b8,a9,b0,b1,b2,b3,b4,b5⟩:=at_T34 c8.out a0 a3 a4;cases b8;replace a9:=zx HB a9;replace b0:=zx HB b0;replace b1:=zx HB b1;replace b2:=zx HB b2;replace b3:=zx HB b3;have b9:=zA b5;have c2:=zA b4;clear b5 b4;replace a3:=eq_true a3;replace a4:=eq_true a4;go_wp2_with (first|((with_reducible refine gate_dst (N:=7) rfl ?_);(try(refine gate_guard (by rfl) ?_;dsimp only));refine box_event ?hg (N:=7) ?hd (cs:=#[.int .i64 0,.int .i64 0,.int .i64 0,.int .i64 0,.slice none 0 0]) (t:=34) ?hr ?_;(case hd=>rfl);(case hg=>rfl);(case hr=>first|(go_simp;done)|(go_simp;rfl));intro d4 hg h3 hbox hb;have a2:=zA (hbox);have d5:=zi HB hg;have d6:=zi HB hg;replace HB:=zh HB hb;have c3:=zA (zL hg (zK a1.out));have c4:=zA (zJ hg (zK a1.out));replace a1:=zb a1 hb;clear hb hbox hg;have h4:=c4.out;have h5:=c3.out;obtain⟨h6,h7,h8,h9,i0,i1,i2,i3,i4,i5⟩:=ze5 a2.out;obtain⟨i6,i7,i8,i9,j0,j1,j2,j3⟩:=ze4 a1.out)|((with_reducible refine zq 16 ?_);refine zg (some 20) Tryz.func16 #[.agg #[.int .i64 ((rd_T34 l0 a0).f0),.int .i64 ((rd_T34 l0 a0).f1.f0),.int .i64 ((rd_T34 l0 a0).f1.f1),.int .i64 ((rd_T34 l0 a0).f1.f2),.slice b6 ((rd_T34 l0 a0).f1.f3).length b7],.agg #[.int .i64 a7,.int .i64 a8,.int .i64 a6,.slice c5 a5.length c6]] ?_;(with_reducible refine(impl_CmpOk.calls k1 ((rd_T34 l0 a0).f0) ((rd_T34 l0 a0).f1.f0) ((rd_T34 l0 a0).f1.f1) ((rd_T34 l0 a0).f1.f2) _ _ ((rd_T34 l0 a0).f1.f3) a7 a8 a6 _ _ a5 true _ ?s1 ?s2 ?s3 ?s4 A8.out).mono ?_);(case s1=>exact Kd.C_below b9.out (zW HB.out));(case s2=>exact c2.out);(case s3=>exact Kd.C_below c9.out (zW HB.out));(case s4=>exact d0.out);rintro e j4 ⟨rfl,hb⟩;refine⟨_,rfl,?_⟩;replace a1:=zb a1 hb;replace a2:=zA (blk_below (zk5 a2.out) hb);replace HB:=zh HB hb;(try clear hb)))
      go_roundg k1
      case measure=>have:=c7.out;omega
      case rel=>exact⟨(true),(wrap64 (a0+1)),zS,zS,H',⟨by have:=c7.out;omega⟩,⟨zK a1.out⟩,⟨zW HB.out⟩⟩
     replace H:=zI1 H;rcases H with ⟨d7,H⟩|⟨d7,H⟩
     ·have f9:decide (0<(((rd_T34 l0 a0).f1.f3).length:Int))=true:=decide_eq_true d7;have g0:decide (0<((rd_T34 l0 a0).f1.f3).length)=true:=decide_eq_true (by omega);clear d7;replace H:=zI1 H;rcases H with ⟨d1,H⟩|⟨d1,H⟩
      ·have g1:=beq_iff_eq.mpr d1;have g2:=bne_eq_false_iff_eq.mpr d1;clear d1;replace H:=zI1 H;rcases H with ⟨d2,H⟩|⟨d2,H⟩
       ·have g3:=beq_iff_eq.mpr d2;have g4:=bne_eq_false_iff_eq.mpr d2;clear d2;have H':=zA H;clear H;have a3:0≤(a0:Int):=zD;have a4:a0<(l0.length:Int):=zD;obtain⟨d3,b6,b7,b8,a9,b0,b1,b2,b3,b4,b5⟩:=at_T34 c8.out a0 a3 a4;cases b8;replace a9:=zx HB a9;replace b0:=zx HB b0;replace b1:=zx HB b1;replace b2:=zx HB b2;replace b3:=zx HB b3;have b9:=zA b5;have c2:=zA b4;clear b5 b4;replace a3:=eq_true a3;replace a4:=eq_true a4;go_wp2_with (first|((with_reducible refine gate_dst (N:=7) rfl ?_);(try(refine gate_guard (by rfl) ?_;dsimp only));refine box_event ?hg (N:=7) ?hd (cs:=#[.int .i64 0,.int .i64 0,.int .i64 0,.int .i64 0,.slice none 0 0]) (t:=34) ?hr ?_;(case hd=>rfl);(case hg=>rfl);(case hr=>first|(go_simp;done)|(go_simp;rfl));intro d4 hg j5 hbox hb;have a2:=zA (hbox);have d5:=zi HB hg;have d6:=zi HB hg;replace HB:=zh HB hb;have c3:=zA (zL hg (zK a1.out));have c4:=zA (zJ hg (zK a1.out));replace a1:=zb a1 hb;clear hb hbox hg;have j6:=c4.out;have j7:=c3.out;obtain⟨j8,j9,k0,k2,k3,k4,k5,k6,k7,k8⟩:=ze5 a2.out;obtain⟨k9,l1,l2,l3,l4,l5,l6,l7⟩:=ze4 a1.out)|((with_reducible refine zq 16 ?_);refine zg (some 20) Tryz.func16 #[.agg #[.int .i64 ((rd_T34 l0 a0).f0),.int .i64 ((rd_T34 l0 a0).f1.f0),.int .i64 ((rd_T34 l0 a0).f1.f1),.int .i64 ((rd_T34 l0 a0).f1.f2),.slice b6 ((rd_T34 l0 a0).f1.f3).length b7],.agg #[.int .i64 a7,.int .i64 a8,.int .i64 a6,.slice c5 a5.length c6]] ?_;(with_reducible refine(impl_CmpOk.calls k1 ((rd_T34 l0 a0).f0) ((rd_T34 l0 a0).f1.f0) ((rd_T34 l0 a0).f1.f1) ((rd_T34 l0 a0).f1.f2) _ _ ((rd_T34 l0 a0).f1.f3) a7 a8 a6 _ _ a5 true _ ?s1 ?s2 ?s3 ?s4 A8.out).mono ?_);(case s1=>exact Kd.C_below b9.out (zW HB.out));(case s2=>exact c2.out);(case s3=>exact Kd.C_below c9.out (zW HB.out));(case s4=>exact d0.out);rintro e l8 ⟨rfl,hb⟩;refine⟨_,rfl,?_⟩;replace a1:=zb a1 hb;replace a2:=zA (blk_below (zk5 a2.out) hb);replace HB:=zh HB hb;(try clear hb);obtain⟨l9,m0,m1,m2,m3,m4,m5,m6,m7,m8⟩:=ze5 a2.out;obtain⟨m9,n0,n1,n2,n3,n4,n5,n6⟩:=ze4 a1.out))
        go_roundg k1
        case measure=>have:=c7.out;omega
        case rel=>exact⟨((((rd_T34 l0 a0).f1.f2) == a6)),(wrap64 (a0+1)),zS,zS,H',⟨by have:=c7.out;omega⟩,⟨zK a1.out⟩,⟨zW HB.out⟩⟩
       have g3:=beq_eq_false_iff_ne.mpr d2;have g4:=bne_iff_ne.mpr d2;have H':=zA H;clear H;have a3:0≤(a0:Int):=zD;have a4:a0<(l0.length:Int):=zD;obtain⟨d3,b6,b7,b8,a9,b0,b1,b2,b3,b4,b5⟩:=at_T34 c8.out a0 a3 a4;cases b8;replace a9:=zx HB a9;replace b0:=zx HB b0;replace b1:=zx HB b1;replace b2:=zx HB b2;replace b3:=zx HB b3;have b9:=zA b5;have c2:=zA b4;clear b5 b4;replace a3:=eq_true a3;replace a4:=eq_true a4;go_wp2_with (first|((with_reducible refine gate_dst (N:=7) rfl ?_);(try(refine gate_guard (by rfl) ?_;dsimp only));refine box_event ?hg (N:=7) ?hd (cs:=#[.int .i64 0,.int .i64 0,.int .i64 0,.int .i64 0,.slice none 0 0]) (t:=34) ?hr ?_;(case hd=>rfl);(case hg=>rfl);(case hr=>first|(go_simp;done)|(go_simp;rfl));intro d4 hg n7 hbox hb;have a2:=zA (hbox);have d5:=zi HB hg;have d6:=zi HB hg;replace HB:=zh HB hb;have c3:=zA (zL hg (zK a1.out));have c4:=zA (zJ hg (zK a1.out));replace a1:=zb a1 hb;clear hb hbox hg;have n8:=c4.out;have n9:=c3.out;obtain⟨o0,o1,o2,o3,o4,o5,o6,o7,o8,o9⟩:=ze5 a2.out;obtain⟨p0,p1,p3,p4,p5,p6,p7,p8⟩:=ze4 a1.out)|((with_reducible refine zq 16 ?_);refine zg (some 20) Tryz.func16 #[.agg #[.int .i64 ((rd_T34 l0 a0).f0),.int .i64 ((rd_T34 l0 a0).f1.f0),.int .i64 ((rd_T34 l0 a0).f1.f1),.int .i64 ((rd_T34 l0 a0).f1.f2),.slice b6 ((rd_T34 l0 a0).f1.f3).length b7],.agg #[.int .i64 a7,.int .i64 a8,.int .i64 a6,.slice c5 a5.length c6]] ?_;(with_reducible refine(impl_CmpOk.calls k1 ((rd_T34 l0 a0).f0) ((rd_T34 l0 a0).f1.f0) ((rd_T34 l0 a0).f1.f1) ((rd_T34 l0 a0).f1.f2) _ _ ((rd_T34 l0 a0).f1.f3) a7 a8 a6 _ _ a5 true _ ?s1 ?s2 ?s3 ?s4 A8.out).mono ?_);(case s1=>exact Kd.C_below b9.out (zW HB.out));(case s2=>exact c2.out);(case s3=>exact Kd.C_below c9.out (zW HB.out));(case s4=>exact d0.out);rintro e p9 ⟨rfl,hb⟩;refine⟨_,rfl,?_⟩;replace a1:=zb a1 hb;replace a2:=zA (blk_below (zk5 a2.out) hb);replace HB:=zh HB hb;(try clear hb);obtain⟨q0,q1,q2,q3,q4,q5,q6,q7,q8,q9⟩:=ze5 a2.out;obtain⟨r0,r1,r2,r3,r4,r5,r6,r7⟩:=ze4 a1.out))
       go_roundg k1
       case measure=>have:=c7.out;omega
       case rel=>exact⟨(false),(wrap64 (a0+1)),zS,zS,H',⟨by have:=c7.out;omega⟩,⟨zK a1.out⟩,⟨zW HB.out⟩⟩
      have g1:=beq_eq_false_iff_ne.mpr d1;have g2:=bne_iff_ne.mpr d1;have H':=zA H;clear H;have a3:0≤(a0:Int):=zD;have a4:a0<(l0.length:Int):=zD;obtain⟨d3,b6,b7,b8,a9,b0,b1,b2,b3,b4,b5⟩:=at_T34 c8.out a0 a3 a4;cases b8;replace a9:=zx HB a9;replace b0:=zx HB b0;replace b1:=zx HB b1;replace b2:=zx HB b2;replace b3:=zx HB b3;have b9:=zA b5;have c2:=zA b4;clear b5 b4;replace a3:=eq_true a3;replace a4:=eq_true a4;go_wp2_with (first|((with_reducible refine gate_dst (N:=7) rfl ?_);(try(refine gate_guard (by rfl) ?_;dsimp only));refine box_event ?hg (N:=7) ?hd (cs:=#[.int .i64 0,.int .i64 0,.int .i64 0,.int .i64 0,.slice none 0 0]) (t:=34) ?hr ?_;(case hd=>rfl);(case hg=>rfl);(case hr=>first|(go_simp;done)|(go_simp;rfl));intro d4 hg r8 hbox hb;have a2:=zA (hbox);have d5:=zi HB hg;have d6:=zi HB hg;replace HB:=zh HB hb;have c3:=zA (zL hg (zK a1.out));have c4:=zA (zJ hg (zK a1.out));replace a1:=zb a1 hb;clear hb hbox hg;have r9:=c4.out;have t0:=c3.out;obtain⟨t1,t2,t3,t4,t5,t6,t7,t8,t9,v0⟩:=ze5 a2.out;obtain⟨v1,v2,v3,v4,v6,v7,v8,v9⟩:=ze4 a1.out)|((with_reducible refine zq 16 ?_);refine zg (some 20) Tryz.func16 #[.agg #[.int .i64 ((rd_T34 l0 a0).f0),.int .i64 ((rd_T34 l0 a0).f1.f0),.int .i64 ((rd_T34 l0 a0).f1.f1),.int .i64 ((rd_T34 l0 a0).f1.f2),.slice b6 ((rd_T34 l0 a0).f1.f3).length b7],.agg #[.int .i64 a7,.int .i64 a8,.int .i64 a6,.slice c5 a5.length c6]] ?_;(with_reducible refine(impl_CmpOk.calls k1 ((rd_T34 l0 a0).f0) ((rd_T34 l0 a0).f1.f0) ((rd_T34 l0 a0).f1.f1) ((rd_T34 l0 a0).f1.f2) _ _ ((rd_T34 l0 a0).f1.f3) a7 a8 a6 _ _ a5 true _ ?s1 ?s2 ?s3 ?s4 A8.out).mono ?_);(case s1=>exact Kd.C_below b9.out (zW HB.out));(case s2=>exact c2.out);(case s3=>exact Kd.C_below c9.out (zW HB.out));(case s4=>exact d0.out);rintro e x0 ⟨rfl,hb⟩;refine⟨_,rfl,?_⟩;replace a1:=zb a1 hb;replace a2:=zA (blk_below (zk5 a2.out) hb);replace HB:=zh HB hb;(try clear hb);obtain⟨x1,x2,x3,x4,x5,x6,x7,x8,x9,y0⟩:=ze5 a2.out;obtain⟨y1,y2,y3,y4,y5,y6,y7,y8⟩:=ze4 a1.out))
      go_roundg k1
      case measure=>have:=c7.out;omega
      case rel=>exact⟨(false),(wrap64 (a0+1)),zS,zS,H',⟨by have:=c7.out;omega⟩,⟨zK a1.out⟩,⟨zW HB.out⟩⟩
     have f9:decide (0<(((rd_T34 l0 a0).f1.f3).length:Int))=false:=decide_eq_false d7;have g0:decide (0<((rd_T34 l0 a0).f1.f3).length)=false:=decide_eq_false (by omega);clear d7;have H':=zA H;clear H;have a3:0≤(a0:Int):=zD;have a4:a0<(l0.length:Int):=zD;obtain⟨d3,b6,b7,b8,a9,b0,b1,b2,b3,b4,b5⟩:=at_T34 c8.out a0 a3 a4;cases b8;replace a9:=zx HB a9;replace b0:=zx HB b0;replace b1:=zx HB b1;replace b2:=zx HB b2;replace b3:=zx HB b3;have b9:=zA b5;have c2:=zA b4;clear b5 b4;replace a3:=eq_true a3;replace a4:=eq_true a4;go_wp2_with (first|((with_reducible refine gate_dst (N:=7) rfl ?_);(try(refine gate_guard (by rfl) ?_;dsimp only));refine box_event ?hg (N:=7) ?hd (cs:=#[.int .i64 0,.int .i64 0,.int .i64 0,.int .i64 0,.slice none 0 0]) (t:=34) ?hr ?_;(case hd=>rfl);(case hg=>rfl);(case hr=>first|(go_simp;done)|(go_simp;rfl));intro d4 hg y9 hbox hb;have a2:=zA (hbox);have d5:=zi HB hg;have d6:=zi HB hg;replace HB:=zh HB hb;have c3:=zA (zL hg (zK a1.out));have c4:=zA (zJ hg (zK a1.out));replace a1:=zb a1 hb;clear hb hbox hg;have z0:=c4.out;have z1:=c3.out;obtain⟨z2,z3,z4,z5,z6,z7,z8,z9,A1,A2⟩:=ze5 a2.out;obtain⟨A3,A4,A5,A6,A7,A9,B0,B1⟩:=ze4 a1.out)|((with_reducible refine zq 16 ?_);refine zg (some 20) Tryz.func16 #[.agg #[.int .i64 ((rd_T34 l0 a0).f0),.int .i64 ((rd_T34 l0 a0).f1.f0),.int .i64 ((rd_T34 l0 a0).f1.f1),.int .i64 ((rd_T34 l0 a0).f1.f2),.slice b6 ((rd_T34 l0 a0).f1.f3).length b7],.agg #[.int .i64 a7,.int .i64 a8,.int .i64 a6,.slice c5 a5.length c6]] ?_;(with_reducible refine(impl_CmpOk.calls k1 ((rd_T34 l0 a0).f0) ((rd_T34 l0 a0).f1.f0) ((rd_T34 l0 a0).f1.f1) ((rd_T34 l0 a0).f1.f2) _ _ ((rd_T34 l0 a0).f1.f3) a7 a8 a6 _ _ a5 true _ ?s1 ?s2 ?s3 ?s4 A8.out).mono ?_);(case s1=>exact Kd.C_below b9.out (zW HB.out));(case s2=>exact c2.out);(case s3=>exact Kd.C_below c9.out (zW HB.out));(case s4=>exact d0.out);rintro e B2 ⟨rfl,hb⟩;refine⟨_,rfl,?_⟩;replace a1:=zb a1 hb;replace a2:=zA (blk_below (zk5 a2.out) hb);replace HB:=zh HB hb;(try clear hb);obtain⟨B3,B4,B5,B6,B7,B8,B9,C0,C1,C2⟩:=ze5 a2.out))
     go_roundg k1
     case measure=>have:=c7.out;omega
     case rel=>exact⟨(false),(wrap64 (a0+1)),zS,zS,H',⟨by have:=c7.out;omega⟩,⟨zK a1.out⟩,⟨zW HB.out⟩⟩
    obtain rfl:=zm H;have a3:0≤(a0:Int):=zD;have a4:a0<(l0.length:Int):=zD;obtain⟨d3,b6,b7,b8,a9,b0,b1,b2,b3,b4,b5⟩:=at_T34 c8.out a0 a3 a4;cases b8;replace a9:=zx HB a9;replace b0:=zx HB b0;replace b1:=zx HB b1;replace b2:=zx HB b2;replace b3:=zx HB b3;have b9:=zA b5;have c2:=zA b4;clear b5 b4;replace a3:=eq_true a3;replace a4:=eq_true a4;go_wp2_with (first|((with_reducible refine gate_dst (N:=7) rfl ?_);(try(refine gate_guard (by rfl) ?_;dsimp only));refine box_event ?hg (N:=7) ?hd (cs:=#[.int .i64 0,.int .i64 0,.int .i64 0,.int .i64 0,.slice none 0 0]) (t:=34) ?hr ?_;(case hd=>rfl);(case hg=>rfl);(case hr=>first|(go_simp;done)|(go_simp;rfl));intro d4 hg C3 hbox hb;have a2:=zA (hbox);have d5:=zi HB hg;have d6:=zi HB hg;replace HB:=zh HB hb;have c3:=zA (zL hg (zK a1.out));have c4:=zA (zJ hg (zK a1.out));replace a1:=zb a1 hb;clear hb hbox hg;have C4:=c4.out;have C5:=c3.out;obtain⟨C6,C7,C8,C9,D0,D1,D2,D3,D4,D5⟩:=ze5 a2.out;obtain⟨D6,D7,D8,D9,E0,E1,E2,E3⟩:=ze4 a1.out)|((with_reducible refine zq 16 ?_);refine zg (some 20) Tryz.func16 #[.agg #[.int .i64 ((rd_T34 l0 a0).f0),.int .i64 ((rd_T34 l0 a0).f1.f0),.int .i64 ((rd_T34 l0 a0).f1.f1),.int .i64 ((rd_T34 l0 a0).f1.f2),.slice b6 ((rd_T34 l0 a0).f1.f3).length b7],.agg #[.int .i64 a7,.int .i64 a8,.int .i64 a6,.slice c5 a5.length c6]] ?_;(with_reducible refine(impl_CmpOk.calls k1 ((rd_T34 l0 a0).f0) ((rd_T34 l0 a0).f1.f0) ((rd_T34 l0 a0).f1.f1) ((rd_T34 l0 a0).f1.f2) _ _ ((rd_T34 l0 a0).f1.f3) a7 a8 a6 _ _ a5 false _ ?s1 ?s2 ?s3 ?s4 A8.out).mono ?_);(case s1=>exact Kd.C_below b9.out (zW HB.out));(case s2=>exact c2.out);(case s3=>exact Kd.C_below c9.out (zW HB.out));(case s4=>exact d0.out);rintro e E4 ⟨rfl,hb⟩;refine⟨_,rfl,?_⟩;replace a1:=zb a1 hb;replace a2:=zA (blk_below (zk5 a2.out) hb);replace HB:=zh HB hb;(try clear hb)))
    go_ret;exact⟨zE,zW HB.out⟩
   obtain rfl:=zm H;go_wp2;go_ret;exact⟨zE,zW HB.out⟩
/-! ### impl_InRange: function 14 -/
mutual
def impl_InRange.j0:Nat→List (List (S34))→Int→Int→Int→List ByteArray→Option (Bool)
 | 0,_,_,_,_,_=>none
 | k+1,x0,a1,a2,a3,a4=>impl_InRange.l0 k x0 (x0.length:Int) 0 a1 a2 a3 a4
def impl_InRange.l0:Nat→List (List (S34))→Int→Int→Int→Int→Int→List ByteArray→Option (Bool)
 | 0,_,_,_,_,_,_,_=>none
 | k+1,a5,a6,a0,a1,a2,a3,a4=>if a0<a6 then (if 0≤a0 then (if a0<(a5.length:Int) then ((impl_takes.f k (rd_L6 a5 a0) a1 a2 a3 a4).bind fun a7=>(if a7=true then (some true) else (impl_InRange.l0 k a5 a6 (wrap64 (a0+1)) a1 a2 a3 a4))) else (none)) else (none)) else (some false)
end
def impl_InRange.f (k:Nat) (l0:List (List (S34))) (a0 a1 a2:Int) (a3:List ByteArray):Option (Bool):=(impl_VerOk.f k a0 a1 a2 a3).bind fun a4=>(if a4=true then (impl_InRange.j0 k l0 a0 a1 a2 a3) else (some false))
theorem impl_InRange.calls (k:Nat) (A0:Option Addr) (c0:Nat) (l0:List (List (S34))) (a3 a4 a5:Int) (a6:Option Addr) (a7:Nat) (a0:List ByteArray) (r:Bool) (w:World) (c3:Kd.C (Kd.slice 34 k34) w A0 l0.length l0) (c4:l0.length≤c0) (c6:Kd.C Kd.string w a6 a0.length a0) (c7:a0.length≤a7) (h:impl_InRange.f k l0 a3 a4 a5 a0=some r) :
  Calls Tryz.prog 14 #[.slice A0 l0.length c0,.agg #[.int .i64 a3,.int .i64 a4,.int .i64 a5,.slice a6 a0.length a7]] w fun e w'=>e=.returned (.bool r)∧Below w.heap.size w w':=by
 have e9:=Tryz.underlying30;have c9:=zA c3;have f0:=zA c4;clear c3 c4;have b3:=zA c6;have b4:=zA c7;clear c6 c7;have HB:=zA (Below.refl w.heap.size w);unfold impl_InRange.f at h;have H:=h;clear h;replace H:=Option.bind_eq_some_iff.mp H;obtain⟨e5,d0,H⟩:=H;(try dsimp only at H);have A3:=zA d0;clear d0;have b5:=zA H;clear H;go_enter Tryz.func14,Tryz.ntmps14;go_upto_if 9 with (first|((with_reducible refine zd 3 ?_);refine ze 3 30 #[.int .i64 a3,.int .i64 a4,.int .i64 a5,.slice a6 a0.length a7] ?_;intro d1 hg w5 hbox hb;have a1:=zA (hbox);have f1:=zi HB hg;have f2:=zi HB hg;replace HB:=zA (below_step (zB) hb);clear hb hbox hg;obtain⟨d2,d3,d4,d5,d6,d7,d8,d9⟩:=ze4 a1.out)|((with_reducible refine zq 54 ?_);refine zg (some 8) Tryz.func54 #[.agg #[.int .i64 a3,.int .i64 a4,.int .i64 a5,.slice a6 a0.length a7]] ?_;(with_reducible refine(impl_VerOk.calls k a3 a4 a5 _ _ a0 e5 _ ?s1 ?s2 A3.out).mono ?_);(case s1=>exact zC (Kd.C_below b3.out HB.out));(case s2=>exact b4.out);rintro e w7 ⟨rfl,hb⟩;refine⟨_,rfl,?_⟩;replace a1:=zb a1 hb;replace HB:=zh HB hb;(try clear hb)))
 (try simp only[Act.put,zT]);go_cut [] (fun wc=>∃ (kq:Nat),Aside0 (impl_InRange.j0 kq l0 a3 a4 a5 a0=some r)∧Aside0 (kq≤k)∧Aside0 (wc.heap[d1]?=some (.cells #[.int .i64 a3,.int .i64 a4,.int .i64 a5,(.slice a6 a0.length a7)] 30 (0,0)))∧Aside0 (Below w.heap.size w wc))
 case first=>
  have H:=b5.out;clear b5;replace H:=zB0 H;rcases H with ⟨rfl,H⟩|⟨rfl,H⟩
  ·have H':=zA H;clear H;go_wp2;go_meet
   case rel=>exact⟨_,(by first|exact H'|(subst_vars;exact H')),⟨by first|omega|exact Nat.le_refl _⟩,⟨zK a1.out⟩,⟨zW HB.out⟩⟩
  obtain rfl:=zm H;go_wp2;go_ret;exact⟨zE,zW HB.out⟩
 case rest=>
  clear b5;(try clear d2 d3 d4 d5 d6 d7 d8 d9);obtain⟨kq,HA,e0,a1,HB⟩:=hcut;cases kq with
  | zero=>exact absurd HA.out (by simp[impl_InRange.j0])
  | succ e1=>
   have H:=HA.out;clear HA;simp only[impl_InRange.j0] at H;have H':=zA H;clear H;go_wp2;go_loopg [12] e1 (fun kq e6 w'=>∃ (a2:Int),e6=.int .i64 a2∧Aside0 (impl_InRange.l0 kq l0 (l0.length:Int) a2 a3 a4 a5 a0=some r)∧Aside0 (kq≤e1)∧Aside0 (w'.heap[d1]?=some (.cells #[.int .i64 a3,.int .i64 a4,.int .i64 a5,(.slice a6 a0.length a7)] 30 (0,0)))∧Aside0 (Below w.heap.size w w'))
   case atStart=>exact⟨(0),zS,H',⟨Nat.le_refl _⟩,⟨zK a1.out⟩,⟨zW HB.out⟩⟩
   case round=>
    clear H';obtain⟨a2,rfl,HA,e2,a1,HB⟩:=hrel;cases gk with
    | zero=>exact absurd HA.out (by simp[impl_InRange.l0])
    | succ k2=>
     have H:=HA.out;clear HA;simp only[impl_InRange.l0] at H;replace H:=zI0 H;rcases H with ⟨e7,H⟩|⟨e7,H⟩
     ·replace H:=zD0 H;obtain⟨f3,H⟩:=H;replace H:=zD0 H;obtain⟨f4,H⟩:=H;replace H:=Option.bind_eq_some_iff.mp H;obtain⟨f5,e3,H⟩:=H;(try dsimp only at H);have e4:=zA e3;clear e3;replace H:=zB0 H;rcases H with ⟨rfl,H⟩|⟨rfl,H⟩
      ·obtain rfl:=zm H;have a8:0≤(a2:Int):=zD;have a9:a2<(l0.length:Int):=zD;obtain⟨e8,b6,b7,b8,b0,b1,b2⟩:=at_L6 c9.out a2 a8 a9;cases b8;replace b0:=zx HB b0;have b9:=zA b2;have c2:=zA b1;clear b2 b1;replace a8:=eq_true a8;replace a9:=eq_true a9;obtain⟨f6,f7,f8,f9,g0,g1,g2,g3⟩:=ze4 a1.out;go_wp2_with (first|((with_reducible refine zq 55 ?_);refine zg (some 18) Tryz.func55 #[.slice b6 (rd_L6 l0 a2).length b7,.agg #[.int .i64 a3,.int .i64 a4,.int .i64 a5,.slice a6 a0.length a7]] ?_;(with_reducible refine(impl_takes.calls k2 _ _ (rd_L6 l0 a2) a3 a4 a5 _ _ a0 true _ ?s1 ?s2 ?s3 ?s4 e4.out).mono ?_);(case s1=>exact zC (Kd.C_below b9.out HB.out));(case s2=>exact c2.out);(case s3=>exact zC (Kd.C_below b3.out HB.out));(case s4=>exact b4.out);rintro e g4 ⟨rfl,hb⟩;refine⟨_,rfl,?_⟩;replace a1:=zb a1 hb;replace HB:=zh HB hb;(try clear hb)))
       go_ret;exact⟨zE,zW HB.out⟩
      have H':=zA H;clear H;have a8:0≤(a2:Int):=zD;have a9:a2<(l0.length:Int):=zD;obtain⟨e8,b6,b7,b8,b0,b1,b2⟩:=at_L6 c9.out a2 a8 a9;cases b8;replace b0:=zx HB b0;have b9:=zA b2;have c2:=zA b1;clear b2 b1;replace a8:=eq_true a8;replace a9:=eq_true a9;obtain⟨g5,g6,g7,g8,g9,h0,h1,h2⟩:=ze4 a1.out;go_wp2_with (first|((with_reducible refine zq 55 ?_);refine zg (some 18) Tryz.func55 #[.slice b6 (rd_L6 l0 a2).length b7,.agg #[.int .i64 a3,.int .i64 a4,.int .i64 a5,.slice a6 a0.length a7]] ?_;(with_reducible refine(impl_takes.calls k2 _ _ (rd_L6 l0 a2) a3 a4 a5 _ _ a0 false _ ?s1 ?s2 ?s3 ?s4 e4.out).mono ?_);(case s1=>exact zC (Kd.C_below b9.out HB.out));(case s2=>exact c2.out);(case s3=>exact zC (Kd.C_below b3.out HB.out));(case s4=>exact b4.out);rintro e h3 ⟨rfl,hb⟩;refine⟨_,rfl,?_⟩;replace a1:=zb a1 hb;replace HB:=zh HB hb;(try clear hb)))
      go_roundg k2
      case measure=>have:=e0.out;have:=e2.out;omega
      case rel=>exact⟨(wrap64 (a2+1)),zS,H',⟨by have:=e0.out;have:=e2.out;omega⟩,⟨zK a1.out⟩,⟨zW HB.out⟩⟩
     obtain rfl:=zm H;go_wp2;go_ret;exact⟨zE,zW HB.out⟩
/-! ### spec_l3SameCore: function 57 -/
def spec_l3SameCore.f (a0 a1 a2:Int) (a6:List ByteArray) (a3 a4 a5:Int) (a7:List ByteArray):Option (Bool):=if a0=a3 then (if a1=a4 then (some (a2 == a5)) else (some false)) else (some false)
theorem spec_l3SameCore.calls (a3 a4 a5:Int) (a6:Option Addr) (a7:Nat) (a1:List ByteArray) (a8 a9 b0:Int) (b1:Option Addr) (b2:Nat) (a2:List ByteArray) (r:Bool) (w:World) (b6:Kd.C Kd.string w a6 a1.length a1) (b7:a1.length≤a7) (b8:Kd.C Kd.string w b1 a2.length a2) (b9:a2.length≤b2) (h:spec_l3SameCore.f a3 a4 a5 a1 a8 a9 b0 a2=some r) :
  Calls Tryz.prog 57 #[.agg #[.int .i64 a3,.int .i64 a4,.int .i64 a5,.slice a6 a1.length a7],.agg #[.int .i64 a8,.int .i64 a9,.int .i64 b0,.slice b1 a2.length b2]] w fun e w'=>e=.returned (.bool r)∧Below w.heap.size w w':=by
 have d2:=Tryz.underlying30;have d3:=zA b6;have d4:=zA b7;clear b6 b7;have d5:=zA b8;have d6:=zA b9;clear b8 b9;have HB:=zA (Below.refl w.heap.size w);unfold spec_l3SameCore.f at h;have H:=h;clear h;replace H:=zI1 H;rcases H with ⟨c3,H⟩|⟨c3,H⟩
 ·have c8:=beq_iff_eq.mpr c3;have c9:=bne_eq_false_iff_eq.mpr c3;clear c3;replace H:=zI1 H;rcases H with ⟨c4,H⟩|⟨c4,H⟩
  ·have d0:=beq_iff_eq.mpr c4;have d1:=bne_eq_false_iff_eq.mpr c4;clear c4;obtain rfl:=zm H;go_enter Tryz.func57,Tryz.ntmps57;go_wp2_with (first|((with_reducible refine zd 2 ?_);refine ze 2 30 #[.int .i64 a3,.int .i64 a4,.int .i64 a5,.slice a6 a1.length a7] ?_;intro c0 hg w5 hbox hb;have a0:=zA (hbox);have c1:=zi HB hg;have c2:=zi HB hg;replace HB:=zA (below_step (zB) hb);clear hb hbox hg)|((with_reducible refine zd 3 ?_);refine ze 3 30 #[.int .i64 a8,.int .i64 a9,.int .i64 b0,.slice b1 a2.length b2] ?_;intro c5 hg w6 hbox hb;have b3:=zA (hbox);have c6:=zi HB hg;have c7:=zi HB hg;replace HB:=zh HB hb;have b4:=zA (zL hg (zK a0.out));have b5:=zA (zJ hg (zK a0.out));replace a0:=zb a0 hb;clear hb hbox hg;have d7:=b4.out;have d8:=b5.out;obtain⟨d9,e0,e1,e2,e3,e4,e5,e6⟩:=ze4 a0.out;obtain⟨e7,e8,e9,f0,f1,f2,f3,f4⟩:=ze4 b3.out))
   go_ret;exact⟨zE,zW HB.out⟩
  have d0:=beq_eq_false_iff_ne.mpr c4;have d1:=bne_iff_ne.mpr c4;obtain rfl:=zm H;go_enter Tryz.func57,Tryz.ntmps57;go_wp2_with (first|((with_reducible refine zd 2 ?_);refine ze 2 30 #[.int .i64 a3,.int .i64 a4,.int .i64 a5,.slice a6 a1.length a7] ?_;intro c0 hg f5 hbox hb;have a0:=zA (hbox);have c1:=zi HB hg;have c2:=zi HB hg;replace HB:=zA (below_step (zB) hb);clear hb hbox hg)|((with_reducible refine zd 3 ?_);refine ze 3 30 #[.int .i64 a8,.int .i64 a9,.int .i64 b0,.slice b1 a2.length b2] ?_;intro c5 hg f6 hbox hb;have b3:=zA (hbox);have c6:=zi HB hg;have c7:=zi HB hg;replace HB:=zh HB hb;have b4:=zA (zL hg (zK a0.out));have b5:=zA (zJ hg (zK a0.out));replace a0:=zb a0 hb;clear hb hbox hg;have f7:=b4.out;have f8:=b5.out;obtain⟨f9,g0,g1,g2,g3,g4,g5,g6⟩:=ze4 a0.out;obtain⟨g7,g8,g9,h0,h1,h2,h3,h4⟩:=ze4 b3.out))
  go_ret;exact⟨zE,zW HB.out⟩
 have c8:=beq_eq_false_iff_ne.mpr c3;have c9:=bne_iff_ne.mpr c3;obtain rfl:=zm H;go_enter Tryz.func57,Tryz.ntmps57;go_wp2_with (first|((with_reducible refine zd 2 ?_);refine ze 2 30 #[.int .i64 a3,.int .i64 a4,.int .i64 a5,.slice a6 a1.length a7] ?_;intro c0 hg h5 hbox hb;have a0:=zA (hbox);have c1:=zi HB hg;have c2:=zi HB hg;replace HB:=zA (below_step (zB) hb);clear hb hbox hg)|((with_reducible refine zd 3 ?_);refine ze 3 30 #[.int .i64 a8,.int .i64 a9,.int .i64 b0,.slice b1 a2.length b2] ?_;intro c5 hg h6 hbox hb;have b3:=zA (hbox);have c6:=zi HB hg;have c7:=zi HB hg;replace HB:=zh HB hb;have b4:=zA (zL hg (zK a0.out));have b5:=zA (zJ hg (zK a0.out));replace a0:=zb a0 hb;clear hb hbox hg;have h7:=b4.out;have h8:=b5.out;obtain⟨h9,i0,i1,i2,i3,i4,i5,i6⟩:=ze4 a0.out;obtain⟨i7,i8,i9,j0,j1,j2,j3,j4⟩:=ze4 b3.out))
 go_ret;exact⟨zE,zW HB.out⟩
/-! ### spec_l2SameTexts: function 100 -/
mutual
def spec_l2SameTexts.j0:Nat→List ByteArray→List ByteArray→Option (Bool)
 | 0,_,_=>none
 | k+1,x0,x1=>spec_l2SameTexts.l0 k x0 x1 0
def spec_l2SameTexts.l0:Nat→List ByteArray→List ByteArray→Int→Option (Bool)
 | 0,_,_,_=>none
 | k+1,x0,x1,x5=>if x5<(x0.length:Int) then (if 0≤x5 then (if x5<(x1.length:Int) then (if (rdOf ByteArray.empty x0 x5).toList=(rdOf ByteArray.empty x1 x5).toList then (spec_l2SameTexts.l0 k x0 x1 (wrap64 (x5+1))) else (some false)) else (none)) else (none)) else (some true)
end
def spec_l2SameTexts.f (k:Nat) (l0 l1:List ByteArray):Option (Bool):=if (l0.length:Int)=(l1.length:Int) then (spec_l2SameTexts.j0 k l0 l1) else (some false)
theorem spec_l2SameTexts.calls (k:Nat) (A0:Option Addr) (c0:Nat) (l0:List ByteArray) (A1:Option Addr) (c1:Nat) (l1:List ByteArray) (r:Bool) (w:World) (b1:Kd.C Kd.string w A0 l0.length l0) (b2:l0.length≤c0) (b3:Kd.C Kd.string w A1 l1.length l1) (b4:l1.length≤c1) (h:spec_l2SameTexts.f k l0 l1=some r) :
  Calls Tryz.prog 100 #[.slice A0 l0.length c0,.slice A1 l1.length c1] w fun e w'=>e=.returned (.bool r)∧Drawn0 w w':=by
 have b5:=zA b1;have d2:=zA b2;clear b1 b2;have b6:=zA b3;have d3:=zA b4;clear b3 b4;unfold spec_l2SameTexts.f at h;have H:=h;clear h;have a6:=zA H;clear H;go_enter Tryz.func100,Tryz.ntmps100;go_upto_if 10 with (fail)
 repeat(go_quiet (fail);go_upto_if 10 with (fail))
 go_cut [] (fun wc=>∃ (kq:Nat),Aside0 (spec_l2SameTexts.j0 kq l0 l1=some r)∧Aside0 (kq≤k)∧Drawn0 w wc)
 case first=>
  have H:=a6.out;clear a6;replace H:=zI1 H;rcases H with ⟨c4,H⟩|⟨c4,H⟩
  ·have a1:=beq_iff_eq.mpr c4;have a7:=bne_eq_false_iff_eq.mpr c4;have a8:(l0.length == l1.length)=true:=by first|simpa using c4|(simp at c4 ⊢;omega)
   clear c4;(first|rw[a1]|(simp only[i64_w,i32_w];rw[a1])|skip);have H':=zA H;clear H;go_wp2;repeat(go_quiet (fail);try go_wp2)
   go_meet
   case rel=>exact⟨_,(by first|exact H'|(subst_vars;exact H')),⟨by first|omega|exact Nat.le_refl _⟩,zv0⟩
  have a1:=beq_eq_false_iff_ne.mpr c4;have a7:=bne_iff_ne.mpr c4;have a8:(l0.length == l1.length)=false:=by first|simpa using c4|(simp at c4 ⊢;omega)
  (first|rw[a1]|(simp only[i64_w,i32_w];rw[a1])|skip);obtain rfl:=zm H;go_wp2;repeat(go_quiet (fail);try go_wp2)
  go_ret;exact⟨by first|rfl|(simp;done)|(simp[*];done)|(simp;rw[Bool.eq_iff_iff];simp;done),zv0⟩
 case rest=>
  clear a6;(try clear c1);obtain⟨kq,HA,b7,⟨d4,rfl⟩⟩:=hcut;cases kq with
  | zero=>exact absurd HA.out (by simp[spec_l2SameTexts.j0])
  | succ b8=>
   have H:=HA.out;clear HA;simp only[spec_l2SameTexts.j0] at H;have H':=zA H;clear H;go_wp2;repeat(go_quiet (fail);try go_wp2)
   go_loopg [5] b8 (fun kq v5 w'=>∃ (a0:Int),v5=.int .i64 a0∧Aside0 (spec_l2SameTexts.l0 kq l0 l1 a0=some r)∧Aside0 (kq≤b8)∧Drawn0 w w')
   case atStart=>exact⟨(0),zS,H',⟨Nat.le_refl _⟩,zv0⟩
   case round=>
    clear H';obtain⟨a0,rfl,HA,b9,⟨m2,rfl⟩⟩:=hrel;cases gk with
    | zero=>exact absurd HA.out (by simp[spec_l2SameTexts.l0])
    | succ k2=>
     have H:=HA.out;clear HA;simp only[spec_l2SameTexts.l0] at H;replace H:=zI0 H;rcases H with ⟨c3,H⟩|⟨c3,H⟩
     ·replace H:=zD0 H;obtain⟨d5,H⟩:=H;replace H:=zD0 H;obtain⟨d6,H⟩:=H;replace H:=zI1 H;rcases H with ⟨c8,H⟩|⟨c8,H⟩
      ·have c5:=beq_iff_eq.mpr c8;have c6:=bne_eq_false_iff_eq.mpr c8;clear c8;have H':=zA H;clear H;have a2:0≤(a0:Int):=zD;have a3:a0<(l0.length:Int):=zD;obtain⟨c7,a9,c9⟩:=Kd.at_string b5.out a0 a2 a3;cases a9;replace a2:=eq_true a2;replace a3:=eq_true a3;have a4:0≤(a0:Int):=zD;have a5:a0<(l1.length:Int):=zD;obtain⟨d0,b0,d1⟩:=Kd.at_string b6.out a0 a4 a5;cases b0;replace a4:=eq_true a4;replace a5:=eq_true a5;go_wp2;repeat(go_quiet (fail);try go_wp2)
       go_roundg k2
       case measure=>have:=b7.out;have:=b9.out;omega
       case rel=>exact⟨(wrap64 (a0+1)),zS,H',⟨by have:=b7.out;have:=b9.out;omega⟩,zv0⟩
      have c5:=beq_eq_false_iff_ne.mpr c8;have c6:=bne_iff_ne.mpr c8;obtain rfl:=zm H;have a2:0≤(a0:Int):=zD;have a3:a0<(l0.length:Int):=zD;obtain⟨c7,a9,c9⟩:=Kd.at_string b5.out a0 a2 a3;cases a9;replace a2:=eq_true a2;replace a3:=eq_true a3;have a4:0≤(a0:Int):=zD;have a5:a0<(l1.length:Int):=zD;obtain⟨d0,b0,d1⟩:=Kd.at_string b6.out a0 a4 a5;cases b0;replace a4:=eq_true a4;replace a5:=eq_true a5;go_wp2;repeat(go_quiet (fail);try go_wp2)
      go_ret;exact⟨by first|rfl|(simp;done)|(simp[*];done)|(simp;rw[Bool.eq_iff_iff];simp;done),zv0⟩
     obtain rfl:=zm H;go_wp2;repeat(go_quiet (fail);try go_wp2)
     go_ret;exact⟨by first|rfl|(simp;done)|(simp[*];done)|(simp;rw[Bool.eq_iff_iff];simp;done),zv0⟩
/-! ### spec_SameVer: function 59 -/
def spec_SameVer.f (k:Nat) (a2 a3 a4:Int) (a0:List ByteArray) (a5 a6 a7:Int) (a1:List ByteArray):Option (Bool):=(spec_l3SameCore.f a2 a3 a4 a0 a5 a6 a7 a1).bind fun a8=>(if a8=true then ((spec_l2SameTexts.f k a0 a1).bind fun a9=>(some a9)) else (some false))
theorem spec_SameVer.calls (k:Nat) (a3 a4 a5:Int) (b0:Option Addr) (b1:Nat) (a1:List ByteArray) (a6 a7 a8:Int) (b2:Option Addr) (b3:Nat) (a2:List ByteArray) (r:Bool) (w:World) (c0:Kd.C Kd.string w b0 a1.length a1) (c1:a1.length≤b1) (c2:Kd.C Kd.string w b2 a2.length a2) (c3:a2.length≤b3) (h:spec_SameVer.f k a3 a4 a5 a1 a6 a7 a8 a2=some r) :
  Calls Tryz.prog 59 #[.agg #[.int .i64 a3,.int .i64 a4,.int .i64 a5,.slice b0 a1.length b1],.agg #[.int .i64 a6,.int .i64 a7,.int .i64 a8,.slice b2 a2.length b3]] w fun e w'=>e=.returned (.bool r)∧Below w.heap.size w w':=by
 have d3:=Tryz.underlying30;have b4:=zA c0;have b5:=zA c1;clear c0 c1;have b6:=zA c2;have b7:=zA c3;clear c2 c3;have HB:=zA (Below.refl w.heap.size w);unfold spec_SameVer.f at h;have H:=h;clear h;replace H:=Option.bind_eq_some_iff.mp H;obtain⟨d4,c4,H⟩:=H;(try dsimp only at H);have A3:=zA c4;clear c4;replace H:=zB0 H;rcases H with ⟨rfl,H⟩|⟨rfl,H⟩
 ·replace H:=Option.bind_eq_some_iff.mp H;obtain⟨c6,c5,H⟩:=H;(try dsimp only at H);have A5:=zA c5;clear c5;obtain rfl:=zm H;go_enter Tryz.func59,Tryz.ntmps59;go_wp2_with (first|((with_reducible refine zd 2 ?_);refine ze 2 30 #[.int .i64 a3,.int .i64 a4,.int .i64 a5,.slice b0 a1.length b1] ?_;intro c7 hg w6 hbox hb;have a0:=zA (hbox);have c8:=zi HB hg;have c9:=zi HB hg;replace HB:=zA (below_step (zB) hb);clear hb hbox hg)|((with_reducible refine zd 3 ?_);refine ze 3 30 #[.int .i64 a6,.int .i64 a7,.int .i64 a8,.slice b2 a2.length b3] ?_;intro d0 hg w7 hbox hb;have a9:=zA (hbox);have d1:=zi HB hg;have d2:=zi HB hg;replace HB:=zh HB hb;have b8:=zA (zL hg (zK a0.out));have b9:=zA (zJ hg (zK a0.out));replace a0:=zb a0 hb;clear hb hbox hg;have d5:=b8.out;have d6:=b9.out;obtain⟨d7,d8,d9,e0,e1,e2,e3,e4⟩:=ze4 a0.out;obtain⟨e5,e6,e7,e8,e9,f0,f1,f2⟩:=ze4 a9.out)|((with_reducible refine zq 57 ?_);refine zg (some 7) Tryz.func57 #[.agg #[.int .i64 a3,.int .i64 a4,.int .i64 a5,.slice b0 a1.length b1],.agg #[.int .i64 a6,.int .i64 a7,.int .i64 a8,.slice b2 a2.length b3]] ?_;(with_reducible refine(spec_l3SameCore.calls a3 a4 a5 _ _ a1 a6 a7 a8 _ _ a2 true _ ?s1 ?s2 ?s3 ?s4 A3.out).mono ?_);(case s1=>exact zC (Kd.C_below b4.out HB.out));(case s2=>exact b5.out);(case s3=>exact zC (Kd.C_below b6.out HB.out));(case s4=>exact b7.out);rintro e f3 ⟨rfl,hb⟩;refine⟨_,rfl,?_⟩;replace a0:=zb a0 hb;replace a9:=zb a9 hb;replace HB:=zh HB hb;(try clear hb);obtain⟨f4,f5,f6,f7,f8,f9,g0,g1⟩:=ze4 a0.out;obtain⟨g2,g3,g4,g5,g6,g7,g8,g9⟩:=ze4 a9.out)|(go_at_call 100;(with_reducible refine(spec_l2SameTexts.calls k _ _ a1 _ _ a2 c6 _ ?s1 ?s2 ?s3 ?s4 A5.out).mono ?_);(case s1=>exact zC (Kd.C_below b4.out HB.out));(case s2=>exact b5.out);(case s3=>exact zC (Kd.C_below b6.out HB.out));(case s4=>exact b7.out);rintro e w' ⟨rfl,⟨nd,rfl⟩⟩))
  go_ret;exact⟨zE,zW HB.out⟩
 obtain rfl:=zm H;go_enter Tryz.func59,Tryz.ntmps59;go_wp2_with (first|((with_reducible refine zd 2 ?_);refine ze 2 30 #[.int .i64 a3,.int .i64 a4,.int .i64 a5,.slice b0 a1.length b1] ?_;intro c7 hg h0 hbox hb;have a0:=zA (hbox);have c8:=zi HB hg;have c9:=zi HB hg;replace HB:=zA (below_step (zB) hb);clear hb hbox hg)|((with_reducible refine zd 3 ?_);refine ze 3 30 #[.int .i64 a6,.int .i64 a7,.int .i64 a8,.slice b2 a2.length b3] ?_;intro d0 hg h1 hbox hb;have a9:=zA (hbox);have d1:=zi HB hg;have d2:=zi HB hg;replace HB:=zh HB hb;have b8:=zA (zL hg (zK a0.out));have b9:=zA (zJ hg (zK a0.out));replace a0:=zb a0 hb;clear hb hbox hg;have h2:=b8.out;have h3:=b9.out;obtain⟨h4,h5,h6,h7,h8,h9,i0,i1⟩:=ze4 a0.out;obtain⟨i2,i3,i4,i5,i6,i7,i8,i9⟩:=ze4 a9.out)|((with_reducible refine zq 57 ?_);refine zg (some 7) Tryz.func57 #[.agg #[.int .i64 a3,.int .i64 a4,.int .i64 a5,.slice b0 a1.length b1],.agg #[.int .i64 a6,.int .i64 a7,.int .i64 a8,.slice b2 a2.length b3]] ?_;(with_reducible refine(spec_l3SameCore.calls a3 a4 a5 _ _ a1 a6 a7 a8 _ _ a2 false _ ?s1 ?s2 ?s3 ?s4 A3.out).mono ?_);(case s1=>exact zC (Kd.C_below b4.out HB.out));(case s2=>exact b5.out);(case s3=>exact zC (Kd.C_below b6.out HB.out));(case s4=>exact b7.out);rintro e j0 ⟨rfl,hb⟩;refine⟨_,rfl,?_⟩;replace a0:=zb a0 hb;replace a9:=zb a9 hb;replace HB:=zh HB hb;(try clear hb)))
 go_ret;exact⟨zE,zW HB.out⟩
/-! ### spec_l3LessPart: function 146 -/
def spec_l3LessPart.j0:Nat→ByteArray→ByteArray→Bool→Bool→Bool→Option (Bool)
 | 0,_,_,_,_,_=>none
 | k+1,x0,x1,x5,x6,a0=>if a0=true then (if (x0.size:Int)=(x1.size:Int) then (some (Op.bytesLess x0.toList x1.toList)) else (some (decide ((x0.size:Int)<(x1.size:Int))))) else (if (x5 != x6)=true then (some x5) else (some (Op.bytesLess x0.toList x1.toList)))
def spec_l3LessPart.f (k:Nat) (a0 a1:ByteArray):Option (Bool):=(spec_l3Digits.f k a0).bind fun a2=>((spec_l3Digits.f k a1).bind fun a3=>(if a2=true then (spec_l3LessPart.j0 k a0 a1 a2 a3 a3) else (spec_l3LessPart.j0 k a0 a1 a2 a3 false)))
theorem spec_l3LessPart.calls (k:Nat) (a0 a1:ByteArray) (r:Bool) (w:World) (h:spec_l3LessPart.f k a0 a1=some r) :
  Calls Tryz.prog 146 #[.string a0,.string a1] w fun e w'=>e=.returned (.bool r)∧Drawn0 w w':=by
 unfold spec_l3LessPart.f at h;have H:=h;clear h;replace H:=Option.bind_eq_some_iff.mp H;obtain⟨a3,a6,H⟩:=H;(try dsimp only at H);have A3:=zA a6;clear a6;replace H:=Option.bind_eq_some_iff.mp H;obtain⟨a2,a7,H⟩:=H;(try dsimp only at H);have A4:=zA a7;clear a7;have a4:=zA H;clear H;go_enter Tryz.func146,Tryz.ntmps146;go_upto_region 3 with (first|((with_reducible refine zq 143 ?_);refine zg (some 8) Tryz.func143 #[.string a0] ?_;(with_reducible refine(spec_l3Digits.calls k a0 a3 _ A3.out).mono ?_);rintro e w' ⟨rfl,⟨nd,rfl⟩⟩;refine⟨_,rfl,?_⟩)|((with_reducible refine zq 143 ?_);refine zg (some 10) Tryz.func143 #[.string a1] ?_;(with_reducible refine(spec_l3Digits.calls k a1 a2 _ A4.out).mono ?_);rintro e w' ⟨rfl,⟨nd,rfl⟩⟩;refine⟨_,rfl,?_⟩))
 (try simp only[Act.put,zT]);go_cut [14] (fun a8 wc=>∃ (kq:Nat) (a5:Bool),a8=.bool a5∧Aside0 (spec_l3LessPart.j0 kq a0 a1 a3 a2 a5=some r)∧Aside0 (kq≤k)∧Drawn0 w wc)
 case first=>
  have H:=a4.out;clear a4;replace H:=zB0 H;rcases H with ⟨rfl,H⟩|⟨rfl,H⟩
  ·have H':=zA H;clear H;go_wp2;go_meet
   case rel=>exact⟨_,(a2),zS,(by first|exact H'|(subst_vars;exact H')),⟨by first|omega|exact Nat.le_refl _⟩,zv0⟩
  have H':=zA H;clear H;go_wp2;go_meet
  case rel=>exact⟨_,(false),zS,(by first|exact H'|(subst_vars;exact H')),⟨by first|omega|exact Nat.le_refl _⟩,zv0⟩
 case rest=>
  clear a4;obtain⟨kq,a5,rfl,HA,b5,⟨b6,rfl⟩⟩:=hcut;cases kq with
  | zero=>exact absurd HA.out (by simp[spec_l3LessPart.j0])
  | succ b7=>
   have H:=HA.out;clear HA;simp only[spec_l3LessPart.j0] at H;replace H:=zB0 H;rcases H with ⟨rfl,H⟩|⟨rfl,H⟩
   ·replace H:=zI1 H;rcases H with ⟨c8,H⟩|⟨c8,H⟩
    ·have a9:=beq_iff_eq.mpr c8;have b0:=bne_eq_false_iff_eq.mpr c8;have b1:(a0.size == a1.size)=true:=by first|simpa using c8|(simp at c8 ⊢;omega)
     clear c8;obtain rfl:=zm H;go_wp2;go_ret;exact⟨by first|rfl|(simp;done)|(simp[*];done)|(simp;rw[Bool.eq_iff_iff];simp;done),zv0⟩
    have a9:=beq_eq_false_iff_ne.mpr c8;have b0:=bne_iff_ne.mpr c8;have b1:(a0.size == a1.size)=false:=by first|simpa using c8|(simp at c8 ⊢;omega)
    obtain rfl:=zm H;go_wp2;go_ret;exact⟨by first|rfl|(simp;done)|(simp[*];done)|(simp;rw[Bool.eq_iff_iff];simp;done),zv0⟩
   replace H:=zI1 H;rcases H with ⟨c9,H⟩|⟨c9,H⟩
   ·have b2:(a3 != a2)=true:=c9;(try(have b3:decide (a3=a2)=false:=by simpa using c9));(try(have b4:(a3 == a2)=false:=by simpa using c9));(try(have b8:¬(a3=a2):=by simpa using c9));clear c9;obtain rfl:=zm H;go_wp2;go_ret;exact⟨by first|rfl|(simp;done)|(simp[*];done)|(simp;rw[Bool.eq_iff_iff];simp;done),zv0⟩
   have b2:(a3 != a2)=false:=by simpa using c9
   (try(have b3:decide (a3=a2)=true:=by simpa using c9));(try(have b4:(a3 == a2)=true:=by simpa using c9));clear c9;obtain rfl:=zm H;go_wp2;go_ret;exact⟨by first|rfl|(simp;done)|(simp[*];done)|(simp;rw[Bool.eq_iff_iff];simp;done),zv0⟩
/-! ### spec_l3LessPre: function 101 -/
mutual
def spec_l3LessPre.j0:Nat→List ByteArray→List ByteArray→Bool→Option (Bool)
 | 0,_,_,_=>none
 | k+1,x0,x1,a0=>if a0=true then (if (x0.length:Int)>0 then (some ((x1.length:Int) == 0)) else (some false)) else (spec_l3LessPre.j1 k x0 x1)
def spec_l3LessPre.j1:Nat→List ByteArray→List ByteArray→Option (Bool)
 | 0,_,_=>none
 | k+1,x0,x1=>spec_l3LessPre.l0 k x0 x1 0
def spec_l3LessPre.l0:Nat→List ByteArray→List ByteArray→Int→Option (Bool)
 | 0,_,_,_=>none
 | k+1,x0,x1,x5=>if x5<(x0.length:Int) then (spec_l3LessPre.j3 k x0 x1 x5 (decide (x5<(x1.length:Int)))) else (spec_l3LessPre.j3 k x0 x1 x5 false)
def spec_l3LessPre.j3:Nat→List ByteArray→List ByteArray→Int→Bool→Option (Bool)
 | 0,_,_,_,_=>none
 | k+1,x0,x1,x5,a1=>if a1=true then (if 0≤x5 then (if x5<(x0.length:Int) then (if x5<(x1.length:Int) then (if (rdOf ByteArray.empty x0 x5).toList=(rdOf ByteArray.empty x1 x5).toList then (spec_l3LessPre.l0 k x0 x1 (wrap64 (x5+1))) else ((spec_l3LessPart.f k (rdOf ByteArray.empty x0 x5) (rdOf ByteArray.empty x1 x5)).bind fun a2=>(some a2))) else (none)) else (none)) else (none)) else (some (decide ((x0.length:Int)<(x1.length:Int))))
end
def spec_l3LessPre.f (k:Nat) (l0 l1:List ByteArray):Option (Bool):=if (l0.length:Int)=0 then (spec_l3LessPre.j0 k l0 l1 true) else (spec_l3LessPre.j0 k l0 l1 ((l1.length:Int) == 0))
theorem spec_l3LessPre.calls (k:Nat) (A0:Option Addr) (c0:Nat) (l0:List ByteArray) (A1:Option Addr) (c1:Nat) (l1:List ByteArray) (r:Bool) (w:World) (d8:Kd.C Kd.string w A0 l0.length l0) (d9:l0.length≤c0) (e0:Kd.C Kd.string w A1 l1.length l1) (e1:l1.length≤c1) (h:spec_l3LessPre.f k l0 l1=some r) :
  Calls Tryz.prog 101 #[.slice A0 l0.length c0,.slice A1 l1.length c1] w fun e w'=>e=.returned (.bool r)∧Drawn0 w w':=by
 have b6:=zA d8;have f8:=zA d9;clear d8 d9;have b7:=zA e0;have f9:=zA e1;clear e0 e1;unfold spec_l3LessPre.f at h;have H:=h;clear h;have b8:=zA H;clear H;go_enter Tryz.func101,Tryz.ntmps101;go_upto_region 1 with (fail)
 repeat(go_quiet (fail);go_upto_region 1 with (fail))
 go_cut [13] (fun e7 wc=>∃ (kq:Nat) (b9:Bool),e7=.bool b9∧Aside0 (spec_l3LessPre.j0 kq l0 l1 b9=some r)∧Aside0 (kq≤k)∧Drawn0 w wc)
 case first=>
  have H:=b8.out;clear b8;replace H:=zI1 H;rcases H with ⟨c4,H⟩|⟨c4,H⟩
  ·have a1:=beq_iff_eq.mpr c4;have a9:=bne_eq_false_iff_eq.mpr c4;clear c4;(first|rw[a1]|(simp only[i64_w,i32_w];rw[a1])|skip);have H':=zA H;clear H;go_wp2;repeat(go_quiet (fail);try go_wp2)
   go_meet
   case rel=>exact⟨_,(true),zS,(by first|exact H'|(subst_vars;exact H')),⟨by first|omega|exact Nat.le_refl _⟩,zv0⟩
  have a1:=beq_eq_false_iff_ne.mpr c4;have a9:=bne_iff_ne.mpr c4;have b1:¬(l0=[]):=fun h_=>c4 (by rw[h_];rfl);(first|rw[a1]|(simp only[i64_w,i32_w];rw[a1])|skip);have H':=zA H;clear H;go_wp2;repeat(go_quiet (fail);try go_wp2)
  go_meet
  case rel=>exact⟨_,(((l1.length:Int) == 0)),zS,(by first|exact H'|(subst_vars;exact H')),⟨by first|omega|exact Nat.le_refl _⟩,zv0⟩
 case rest=>
  clear b8;(try clear c1);obtain⟨kq,b9,rfl,HA,b0,⟨g0,rfl⟩⟩:=hcut;cases kq with
  | zero=>exact absurd HA.out (by simp[spec_l3LessPre.j0])
  | succ e8=>
   have H:=HA.out;clear HA;simp only[spec_l3LessPre.j0] at H;have c3:=zA H;clear H;go_upto_if 13 with (fail)
   repeat(go_quiet (fail);go_upto_if 13 with (fail))
   go_cut [] (fun wc=>∃ (kq:Nat),Aside0 (spec_l3LessPre.j1 kq l0 l1=some r)∧Aside0 (kq≤e8)∧Drawn0 w wc)
   case first=>
    have H:=c3.out;clear c3;replace H:=zB0 H;rcases H with ⟨rfl,H⟩|⟨rfl,H⟩
    ·replace H:=zI1 H;rcases H with ⟨c7,H⟩|⟨c7,H⟩
     ·have a2:decide (0<(l0.length:Int))=true:=decide_eq_true c7;have b2:decide (0<l0.length)=true:=decide_eq_true (by omega);clear c7;(first|rw[a2]|(simp only[i64_w,i32_w];rw[a2])|skip);obtain rfl:=zm H;go_wp2;repeat(go_quiet (fail);try go_wp2)
      go_ret;exact⟨by first|rfl|(simp;done)|(simp[*];done)|(simp;rw[Bool.eq_iff_iff];simp;done),zv0⟩
     have a2:decide (0<(l0.length:Int))=false:=decide_eq_false c7;have b2:decide (0<l0.length)=false:=decide_eq_false (by omega);clear c7;(first|rw[a2]|(simp only[i64_w,i32_w];rw[a2])|skip);obtain rfl:=zm H;go_wp2;repeat(go_quiet (fail);try go_wp2)
     go_ret;exact⟨by first|rfl|(simp;done)|(simp[*];done)|(simp;rw[Bool.eq_iff_iff];simp;done),zv0⟩
    have H':=zA H;clear H;go_wp2;repeat(go_quiet (fail);try go_wp2)
    go_meet
    case rel=>exact⟨_,(by first|exact H'|(subst_vars;exact H')),⟨by have:=b0.out;first|omega|exact Nat.le_refl _⟩,zv0⟩
   case rest=>
    clear c3;obtain⟨kq,HA,b3,⟨g1,rfl⟩⟩:=hcut;cases kq with
    | zero=>exact absurd HA.out (by simp[spec_l3LessPre.j1])
    | succ e2=>
     have H:=HA.out;clear HA;simp only[spec_l3LessPre.j1] at H;have H':=zA H;clear H;go_wp2;repeat(go_quiet (fail);try go_wp2)
     go_loopg [5] e2 (fun kq v5 w'=>∃ (a0:Int),v5=.int .i64 a0∧Aside0 (spec_l3LessPre.l0 kq l0 l1 a0=some r)∧Aside0 (kq≤e2)∧Drawn0 w w')
     case atStart=>exact⟨(0),zS,H',⟨Nat.le_refl _⟩,zv0⟩
     case round=>
      clear H';obtain⟨a0,rfl,HA,b4,⟨m3,rfl⟩⟩:=hrel;cases gk with
      | zero=>exact absurd HA.out (by simp[spec_l3LessPre.l0])
      | succ k3=>
       have H:=HA.out;clear HA;simp only[spec_l3LessPre.l0] at H;have c5:=zA H;clear H;go_upto_region 4 with (fail)
       repeat(go_quiet (fail);go_upto_region 4 with (fail))
       go_cut [31] (fun e9 wc=>∃ (kq:Nat) (c8:Bool),e9=.bool c8∧Aside0 (spec_l3LessPre.j3 kq l0 l1 a0 c8=some r)∧Aside0 (kq≤k3)∧Drawn0 w wc)
       case first=>
        have H:=c5.out;clear c5;replace H:=zI0 H;rcases H with ⟨a7,H⟩|⟨a7,H⟩
        ·(first|rw[a7]|(simp only[i64_w,i32_w];rw[a7])|skip);have H':=zA H;clear H;go_wp2;repeat(go_quiet (fail);try go_wp2)
         go_meet
         case rel=>exact⟨_,(decide (a0<(l1.length:Int))),zS,(by first|exact H'|(subst_vars;exact H')),⟨by have:=b0.out;have:=b3.out;have:=b4.out;first|omega|exact Nat.le_refl _⟩,zv0⟩
        (first|rw[a7]|(simp only[i64_w,i32_w];rw[a7])|skip);have H':=zA H;clear H;go_wp2;repeat(go_quiet (fail);try go_wp2)
        go_meet
        case rel=>exact⟨_,(false),zS,(by first|exact H'|(subst_vars;exact H')),⟨by have:=b0.out;have:=b3.out;have:=b4.out;first|omega|exact Nat.le_refl _⟩,zv0⟩
       case rest=>
        clear c5;obtain⟨kq,c8,rfl,HA,e3,⟨g2,rfl⟩⟩:=hcut;cases kq with
        | zero=>exact absurd HA.out (by simp[spec_l3LessPre.j3])
        | succ b5=>
         have H:=HA.out;clear HA;simp only[spec_l3LessPre.j3] at H;replace H:=zB0 H;rcases H with ⟨rfl,H⟩|⟨rfl,H⟩
         ·replace H:=zD0 H;obtain⟨g3,H⟩:=H;replace H:=zD0 H;obtain⟨g4,H⟩:=H;replace H:=zD0 H;obtain⟨g5,H⟩:=H;replace H:=zI1 H;rcases H with ⟨a8,H⟩|⟨a8,H⟩
          ·have f0:=beq_iff_eq.mpr a8;have f1:=bne_eq_false_iff_eq.mpr a8;clear a8;have H':=zA H;clear H;have a3:0≤(a0:Int):=zD;have a4:a0<(l0.length:Int):=zD;obtain⟨e4,d0,f2⟩:=Kd.at_string b6.out a0 a3 a4;cases d0;replace a3:=eq_true a3;replace a4:=eq_true a4;have a5:0≤(a0:Int):=zD;have a6:a0<(l1.length:Int):=zD;obtain⟨e5,d1,f3⟩:=Kd.at_string b7.out a0 a5 a6;cases d1;replace a5:=eq_true a5;replace a6:=eq_true a6;go_wp2;repeat(go_quiet (fail);try go_wp2)
           go_roundg b5
           case measure=>have:=b0.out;have:=b3.out;have:=b4.out;have:=e3.out;omega
           case rel=>exact⟨(wrap64 (a0+1)),zS,H',⟨by have:=b0.out;have:=b3.out;have:=b4.out;have:=e3.out;omega⟩,zv0⟩
          have f0:=beq_eq_false_iff_ne.mpr a8;have f1:=bne_iff_ne.mpr a8;replace H:=Option.bind_eq_some_iff.mp H;obtain⟨d2,e6,H⟩:=H;(try dsimp only at H);have d3:=zA e6;clear e6;obtain rfl:=zm H;have a3:0≤(a0:Int):=zD;have a4:a0<(l0.length:Int):=zD;obtain⟨e4,d0,f2⟩:=Kd.at_string b6.out a0 a3 a4;cases d0;replace a3:=eq_true a3;replace a4:=eq_true a4;have a5:0≤(a0:Int):=zD;have a6:a0<(l1.length:Int):=zD;obtain⟨e5,d1,f3⟩:=Kd.at_string b7.out a0 a5 a6;cases d1;replace a5:=eq_true a5;replace a6:=eq_true a6;have d4:0≤(a0:Int):=zD;have d5:a0<(l0.length:Int):=zD;obtain⟨f4,f5,g6⟩:=Kd.at_string b6.out a0 d4 d5;obtain rfl:e4=f4:=(by injection f5);replace d4:=eq_true d4;replace d5:=eq_true d5;have d6:0≤(a0:Int):=zD;have d7:a0<(l1.length:Int):=zD;obtain⟨f6,f7,g7⟩:=Kd.at_string b7.out a0 d6 d7;obtain rfl:e5=f6:=(by injection f7);replace d6:=eq_true d6;replace d7:=eq_true d7;go_wp2_with (first|(go_at_call 146;(with_reducible refine(spec_l3LessPart.calls b5 (rdOf ByteArray.empty l0 a0) (rdOf ByteArray.empty l1 a0) d2 _ d3.out).mono ?_);rintro e w' ⟨rfl,⟨nd,rfl⟩⟩;(try first|exact⟨rfl,_,World.drewN_drewN _ _ _⟩|exact⟨rfl,_,Eq.trans (World.drewN_drewN _ _ _) (congrArg (World.drewN _) (Nat.add_assoc _ _ _))⟩)))
          repeat(go_quiet (first|(go_at_call 146;(with_reducible refine(spec_l3LessPart.calls b5 (rdOf ByteArray.empty l0 a0) (rdOf ByteArray.empty l1 a0) d2 _ d3.out).mono ?_);rintro e w' ⟨rfl,⟨nd,rfl⟩⟩;(try first|exact⟨rfl,_,World.drewN_drewN _ _ _⟩|exact⟨rfl,_,Eq.trans (World.drewN_drewN _ _ _) (congrArg (World.drewN _) (Nat.add_assoc _ _ _))⟩)));try go_wp2_with (first|(go_at_call 146;(with_reducible refine(spec_l3LessPart.calls b5 (rdOf ByteArray.empty l0 a0) (rdOf ByteArray.empty l1 a0) d2 _ d3.out).mono ?_);rintro e w' ⟨rfl,⟨nd,rfl⟩⟩;(try first|exact⟨rfl,_,World.drewN_drewN _ _ _⟩|exact⟨rfl,_,Eq.trans (World.drewN_drewN _ _ _) (congrArg (World.drewN _) (Nat.add_assoc _ _ _))⟩))))
          go_ret;exact⟨by first|rfl|(simp;done)|(simp[*];done)|(simp;rw[Bool.eq_iff_iff];simp;done),zv0⟩
         obtain rfl:=zm H;go_wp2;repeat(go_quiet (fail);try go_wp2)
         go_ret;exact⟨by first|rfl|(simp;done)|(simp[*];done)|(simp;rw[Bool.eq_iff_iff];simp;done),zv0⟩
/-! ### spec_LessVer: function 60 -/
def spec_LessVer.f (k:Nat) (a0 a1 a2:Int) (a6:List ByteArray) (a3 a4 a5:Int) (a7:List ByteArray):Option (Bool):=if a0=a3 then (if a1=a4 then (if a2=a5 then ((spec_l3LessPre.f k a6 a7).bind fun a8=>(some a8)) else (some (decide (a2<a5)))) else (some (decide (a1<a4)))) else (some (decide (a0<a3)))
theorem spec_LessVer.calls (k:Nat) (b1 b2 b3:Int) (a5:Option Addr) (a6:Nat) (a0:List ByteArray) (b4 b5 b6:Int) (a7:Option Addr) (a8:Nat) (a1:List ByteArray) (r:Bool) (w:World) (b9:Kd.C Kd.string w a5 a0.length a0) (c0:a0.length≤a6) (c1:Kd.C Kd.string w a7 a1.length a1) (c2:a1.length≤a8) (h:spec_LessVer.f k b1 b2 b3 a0 b4 b5 b6 a1=some r) :
  Calls Tryz.prog 60 #[.agg #[.int .i64 b1,.int .i64 b2,.int .i64 b3,.slice a5 a0.length a6],.agg #[.int .i64 b4,.int .i64 b5,.int .i64 b6,.slice a7 a1.length a8]] w fun e w'=>e=.returned (.bool r)∧Below w.heap.size w w':=by
 have d5:=Tryz.underlying30;have c7:=zA b9;have c8:=zA c0;clear b9 c0;have c9:=zA c1;have d0:=zA c2;clear c1 c2;have HB:=zA (Below.refl w.heap.size w);unfold spec_LessVer.f at h;have H:=h;clear h;go_enter Tryz.func60,Tryz.ntmps60;go_upto_if 5 with (first|((with_reducible refine zd 2 ?_);refine ze 2 30 #[.int .i64 b1,.int .i64 b2,.int .i64 b3,.slice a5 a0.length a6] ?_;intro d6 hg w7 hbox hb;have a2:=zA (hbox);have d7:=zi HB hg;have d8:=zi HB hg;replace HB:=zA (below_step (zB) hb);clear hb hbox hg)|((with_reducible refine zd 3 ?_);refine ze 3 30 #[.int .i64 b4,.int .i64 b5,.int .i64 b6,.slice a7 a1.length a8] ?_;intro d9 hg w8 hbox hb;have d1:=zA (hbox);have e0:=zi HB hg;have e1:=zi HB hg;replace HB:=zh HB hb;have d2:=zA (zL hg (zK a2.out));have d3:=zA (zJ hg (zK a2.out));replace a2:=zb a2 hb;clear hb hbox hg;have e2:=d2.out;have e3:=d3.out;obtain⟨e4,e5,e6,e7,e8,e9,f0,f1⟩:=ze4 a2.out;obtain⟨f2,f3,f4,f5,f6,f7,f8,f9⟩:=ze4 d1.out))
 (try simp only[Act.put,zT]);replace H:=zI1 H;rcases H with ⟨c3,H⟩|⟨c3,H⟩
 ·have a3:=beq_iff_eq.mpr c3;have a4:=bne_eq_false_iff_eq.mpr c3;clear c3;replace H:=zI1 H;rcases H with ⟨c4,H⟩|⟨c4,H⟩
  ·have a9:=beq_iff_eq.mpr c4;have b0:=bne_eq_false_iff_eq.mpr c4;clear c4;replace H:=zI1 H;rcases H with ⟨c5,H⟩|⟨c5,H⟩
   ·have b7:=beq_iff_eq.mpr c5;have b8:=bne_eq_false_iff_eq.mpr c5;clear c5;replace H:=Option.bind_eq_some_iff.mp H;obtain⟨d4,c6,H⟩:=H;(try dsimp only at H);have A6:=zA c6;clear c6;obtain rfl:=zm H;(try simp only[a3,a4,a9,b0,b7,b8]);go_wp2_with (first|((with_reducible refine zq 101 ?_);refine zg (some 42) Tryz.func101 #[.slice a5 a0.length a6,.slice a7 a1.length a8] ?_;(with_reducible refine(spec_l3LessPre.calls k _ _ a0 _ _ a1 d4 _ ?s1 ?s2 ?s3 ?s4 A6.out).mono ?_);(case s1=>exact zC (Kd.C_below c7.out HB.out));(case s2=>exact c8.out);(case s3=>exact zC (Kd.C_below c9.out HB.out));(case s4=>exact d0.out);rintro e w' ⟨rfl,⟨nd,rfl⟩⟩;refine⟨_,rfl,?_⟩))
    go_ret;exact⟨zE,zW HB.out⟩
   have b7:=beq_eq_false_iff_ne.mpr c5;have b8:=bne_iff_ne.mpr c5;obtain rfl:=zm H;(try simp only[a3,a4,a9,b0,b7,b8]);go_wp2;go_ret;exact⟨zE,zW HB.out⟩
  have a9:=beq_eq_false_iff_ne.mpr c4;have b0:=bne_iff_ne.mpr c4;obtain rfl:=zm H;(try simp only[a3,a4,a9,b0]);go_wp2;go_ret;exact⟨zE,zW HB.out⟩
 have a3:=beq_eq_false_iff_ne.mpr c3;have a4:=bne_iff_ne.mpr c3;obtain rfl:=zm H;(try simp only[a3,a4]);go_wp2;go_ret;exact⟨zE,zW HB.out⟩
/-! ### spec_CmpOk: function 17 -/
def spec_CmpOk.f (k:Nat) (a0 a1 a2 a3:Int) (a4:List ByteArray) (a5 a6 a7:Int) (a8:List ByteArray):Option (Bool):=if a0=0 then ((spec_SameVer.f k a1 a2 a3 a4 a5 a6 a7 a8).bind fun a9=>(some a9)) else (if a0=1 then ((spec_LessVer.f k a5 a6 a7 a8 a1 a2 a3 a4).bind fun b0=>(some b0)) else (if a0=2 then ((spec_LessVer.f k a1 a2 a3 a4 a5 a6 a7 a8).bind fun b1=>(some (!b1))) else (if a0=3 then ((spec_LessVer.f k a1 a2 a3 a4 a5 a6 a7 a8).bind fun b2=>(some b2)) else (if a0=4 then ((spec_LessVer.f k a5 a6 a7 a8 a1 a2 a3 a4).bind fun b3=>(some (!b3))) else (some false)))))
theorem spec_CmpOk.calls (k:Nat) (d1 a4 a5 a6:Int) (b0:Option Addr) (b1:Nat) (a0:List ByteArray) (a7 a8 a9:Int) (b2:Option Addr) (b3:Nat) (a1:List ByteArray) (r:Bool) (w:World) (d4:Kd.C Kd.string w b0 a0.length a0) (d5:a0.length≤b1) (d6:Kd.C Kd.string w b2 a1.length a1) (d7:a1.length≤b3) (h:spec_CmpOk.f k d1 a4 a5 a6 a0 a7 a8 a9 a1=some r) :
  Calls Tryz.prog 17 #[.agg #[.int .i64 d1,.int .i64 a4,.int .i64 a5,.int .i64 a6,.slice b0 a0.length b1],.agg #[.int .i64 a7,.int .i64 a8,.int .i64 a9,.slice b2 a1.length b3]] w fun e w'=>e=.returned (.bool r)∧Below w.heap.size w w':=by
 have f4:=Tryz.underlying34;have f5:=Tryz.underlying30;have c2:=zA d4;have c4:=zA d5;clear d4 d5;have c5:=zA d6;have c6:=zA d7;clear d6 d7;have HB:=zA (Below.refl w.heap.size w);unfold spec_CmpOk.f at h;have H:=h;clear h;go_enter Tryz.func17,Tryz.ntmps17;go_upto_if 7 with (first|((with_reducible refine zd 2 ?_);refine ze 2 34 #[.int .i64 d1,.int .i64 a4,.int .i64 a5,.int .i64 a6,.slice b0 a0.length b1] ?_;intro f6 hg w5 hbox hb;have a2:=zA (hbox);have f7:=zi HB hg;have f8:=zi HB hg;replace HB:=zA (below_step (zB) hb);clear hb hbox hg)|((with_reducible refine zd 3 ?_);refine ze 3 30 #[.int .i64 a7,.int .i64 a8,.int .i64 a9,.slice b2 a1.length b3] ?_;intro f9 hg w6 hbox hb;have a3:=zA (hbox);have g0:=zi HB hg;have g1:=zi HB hg;replace HB:=zh HB hb;have e3:=zA (zL hg (zK a2.out));have e4:=zA (zJ hg (zK a2.out));replace a2:=zb a2 hb;clear hb hbox hg;have g2:=e3.out;have g3:=e4.out;obtain⟨g4,g5,g6,g7,g8,g9,h0,h1,h2,h3⟩:=ze5 a2.out))
 (try simp only[Act.put,zT]);replace H:=zI1 H;rcases H with ⟨c3,H⟩|⟨c3,H⟩
 ·have b4:=beq_iff_eq.mpr c3;have b5:=bne_eq_false_iff_eq.mpr c3;clear c3;replace H:=Option.bind_eq_some_iff.mp H;obtain⟨e5,d8,H⟩:=H;(try dsimp only at H);have A4:=zA d8;clear d8;obtain rfl:=zm H;obtain⟨h4,h5,h6,h7,h8,h9,i0,i1⟩:=ze4 a3.out;(try simp only[b4,b5]);go_wp2_with (first|((with_reducible refine zq 59 ?_);refine zg (some 12) Tryz.func59 #[.agg #[.int .i64 a4,.int .i64 a5,.int .i64 a6,.slice b0 a0.length b1],.agg #[.int .i64 a7,.int .i64 a8,.int .i64 a9,.slice b2 a1.length b3]] ?_;(with_reducible refine(spec_SameVer.calls k a4 a5 a6 _ _ a0 a7 a8 a9 _ _ a1 e5 _ ?s1 ?s2 ?s3 ?s4 A4.out).mono ?_);(case s1=>exact zC (Kd.C_below c2.out HB.out));(case s2=>exact c4.out);(case s3=>exact zC (Kd.C_below c5.out HB.out));(case s4=>exact c6.out);rintro e i2 ⟨rfl,hb⟩;refine⟨_,rfl,?_⟩;replace a2:=zb a2 hb;replace a3:=zb a3 hb;replace HB:=zh HB hb;(try clear hb)))
  go_ret;exact⟨zE,zW HB.out⟩
 have b4:=beq_eq_false_iff_ne.mpr c3;have b5:=bne_iff_ne.mpr c3;replace H:=zI1 H;rcases H with ⟨b6,H⟩|⟨b6,H⟩
 ·have b7:=beq_iff_eq.mpr b6;have b8:=bne_eq_false_iff_eq.mpr b6;clear b6;replace H:=Option.bind_eq_some_iff.mp H;obtain⟨e6,d9,H⟩:=H;(try dsimp only at H);have e7:=zA d9;clear d9;obtain rfl:=zm H;obtain⟨i3,i4,i5,i6,i7,i8,i9,j0⟩:=ze4 a3.out;(try simp only[b4,b5,b7,b8]);go_wp2_with (first|((with_reducible refine zq 60 ?_);refine zg (some 18) Tryz.func60 #[.agg #[.int .i64 a7,.int .i64 a8,.int .i64 a9,.slice b2 a1.length b3],.agg #[.int .i64 a4,.int .i64 a5,.int .i64 a6,.slice b0 a0.length b1]] ?_;(with_reducible refine(spec_LessVer.calls k a7 a8 a9 _ _ a1 a4 a5 a6 _ _ a0 e6 _ ?s1 ?s2 ?s3 ?s4 e7.out).mono ?_);(case s1=>exact zC (Kd.C_below c5.out HB.out));(case s2=>exact c6.out);(case s3=>exact zC (Kd.C_below c2.out HB.out));(case s4=>exact c4.out);rintro e j1 ⟨rfl,hb⟩;refine⟨_,rfl,?_⟩;replace a2:=zb a2 hb;replace a3:=zb a3 hb;replace HB:=zh HB hb;(try clear hb)))
  go_ret;exact⟨zE,zW HB.out⟩
 have b7:=beq_eq_false_iff_ne.mpr b6;have b8:=bne_iff_ne.mpr b6;replace H:=zI1 H;rcases H with ⟨b9,H⟩|⟨b9,H⟩
 ·have c7:=beq_iff_eq.mpr b9;have c8:=bne_eq_false_iff_eq.mpr b9;clear b9;replace H:=Option.bind_eq_some_iff.mp H;obtain⟨e8,e0,H⟩:=H;(try dsimp only at H);have e9:=zA e0;clear e0;obtain rfl:=zm H;obtain⟨j2,j3,j4,j5,j6,j7,j8,j9⟩:=ze4 a3.out;(try simp only[b4,b5,b7,b8,c7,c8]);go_wp2_with (first|((with_reducible refine zq 60 ?_);refine zg (some 24) Tryz.func60 #[.agg #[.int .i64 a4,.int .i64 a5,.int .i64 a6,.slice b0 a0.length b1],.agg #[.int .i64 a7,.int .i64 a8,.int .i64 a9,.slice b2 a1.length b3]] ?_;(with_reducible refine(spec_LessVer.calls k a4 a5 a6 _ _ a0 a7 a8 a9 _ _ a1 e8 _ ?s1 ?s2 ?s3 ?s4 e9.out).mono ?_);(case s1=>exact zC (Kd.C_below c2.out HB.out));(case s2=>exact c4.out);(case s3=>exact zC (Kd.C_below c5.out HB.out));(case s4=>exact c6.out);rintro e k0 ⟨rfl,hb⟩;refine⟨_,rfl,?_⟩;replace a2:=zb a2 hb;replace a3:=zb a3 hb;replace HB:=zh HB hb;(try clear hb)))
  go_ret;exact⟨zE,zW HB.out⟩
 have c7:=beq_eq_false_iff_ne.mpr b9;have c8:=bne_iff_ne.mpr b9;replace H:=zI1 H;rcases H with ⟨c0,H⟩|⟨c0,H⟩
 ·have c9:=beq_iff_eq.mpr c0;have d0:=bne_eq_false_iff_eq.mpr c0;clear c0;replace H:=Option.bind_eq_some_iff.mp H;obtain⟨f0,e1,H⟩:=H;(try dsimp only at H);have f1:=zA e1;clear e1;obtain rfl:=zm H;obtain⟨k1,k2,k3,k4,k5,k6,k7,k8⟩:=ze4 a3.out;(try simp only[b4,b5,b7,b8,c7,c8,c9,d0]);go_wp2_with (first|((with_reducible refine zq 60 ?_);refine zg (some 31) Tryz.func60 #[.agg #[.int .i64 a4,.int .i64 a5,.int .i64 a6,.slice b0 a0.length b1],.agg #[.int .i64 a7,.int .i64 a8,.int .i64 a9,.slice b2 a1.length b3]] ?_;(with_reducible refine(spec_LessVer.calls k a4 a5 a6 _ _ a0 a7 a8 a9 _ _ a1 f0 _ ?s1 ?s2 ?s3 ?s4 f1.out).mono ?_);(case s1=>exact zC (Kd.C_below c2.out HB.out));(case s2=>exact c4.out);(case s3=>exact zC (Kd.C_below c5.out HB.out));(case s4=>exact c6.out);rintro e k9 ⟨rfl,hb⟩;refine⟨_,rfl,?_⟩;replace a2:=zb a2 hb;replace a3:=zb a3 hb;replace HB:=zh HB hb;(try clear hb)))
  go_ret;exact⟨zE,zW HB.out⟩
 have c9:=beq_eq_false_iff_ne.mpr c0;have d0:=bne_iff_ne.mpr c0;replace H:=zI1 H;rcases H with ⟨c1,H⟩|⟨c1,H⟩
 ·have d2:=beq_iff_eq.mpr c1;have d3:=bne_eq_false_iff_eq.mpr c1;clear c1;replace H:=Option.bind_eq_some_iff.mp H;obtain⟨f2,e2,H⟩:=H;(try dsimp only at H);have f3:=zA e2;clear e2;obtain rfl:=zm H;obtain⟨l0,l1,l2,l3,l4,l5,l6,l7⟩:=ze4 a3.out;(try simp only[b4,b5,b7,b8,c7,c8,c9,d0,d2,d3]);go_wp2_with (first|((with_reducible refine zq 60 ?_);refine zg (some 37) Tryz.func60 #[.agg #[.int .i64 a7,.int .i64 a8,.int .i64 a9,.slice b2 a1.length b3],.agg #[.int .i64 a4,.int .i64 a5,.int .i64 a6,.slice b0 a0.length b1]] ?_;(with_reducible refine(spec_LessVer.calls k a7 a8 a9 _ _ a1 a4 a5 a6 _ _ a0 f2 _ ?s1 ?s2 ?s3 ?s4 f3.out).mono ?_);(case s1=>exact zC (Kd.C_below c5.out HB.out));(case s2=>exact c6.out);(case s3=>exact zC (Kd.C_below c2.out HB.out));(case s4=>exact c4.out);rintro e l8 ⟨rfl,hb⟩;refine⟨_,rfl,?_⟩;replace a2:=zb a2 hb;replace a3:=zb a3 hb;replace HB:=zh HB hb;(try clear hb)))
  go_ret;exact⟨zE,zW HB.out⟩
 have d2:=beq_eq_false_iff_ne.mpr c1;have d3:=bne_iff_ne.mpr c1;obtain rfl:=zm H;(try simp only[b4,b5,b7,b8,c7,c8,c9,d0,d2,d3]);go_wp2;go_ret;exact⟨zE,zW HB.out⟩
end Go.Proofs.YtglhniiabhknoaaGreatDoor.PGB

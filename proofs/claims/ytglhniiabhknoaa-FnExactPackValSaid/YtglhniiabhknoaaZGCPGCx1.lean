/- The walks of the functions that these laws reach, and what each comes to: printed by this session's program. -/
import Derived.Test.YtglhniiabhknoaaZGCPGCx0
import Derived.Test.YtglhniiabhknoaaZGCSays
import Derived.Test.YtglhniiabhknoaaZGCRegs
namespace Go.Proofs.Ytglhniiabhknoaa.PGC
open Go.RowKit YtglhniiabhknoaaW.PrintWords YtglhniiabhknoaaW.PrintLast YtglhniiabhknoaaW.PrintMore
attribute [local go_sem high] Mine.str_gtr Mine.str_leq Mine.str_geq
attribute [local go_sem] max2_int min2_int max_two min_two max_three min_three max_four min_four   -- for this text's walks alone
set_option linter.unusedVariables false
set_option maxHeartbeats 8000000
set_option maxRecDepth 100000
set_option linter.unusedSimpArgs false
/-! ### laws_eqStringS: function 35 -/
mutual
def laws_eqStringS.j0:Nat→List ByteArray→List ByteArray→Option (Bool)
 | 0,_,_=>none
 | k+1,x0,x1=>laws_eqStringS.l0 k x0 x1 0
def laws_eqStringS.l0:Nat→List ByteArray→List ByteArray→Int→Option (Bool)
 | 0,_,_,_=>none
 | k+1,x0,x1,x5=>if x5<(x0.length:Int) then (if 0≤x5 then (if x5<(x1.length:Int) then (if (rdOf ByteArray.empty x0 x5).toList=(rdOf ByteArray.empty x1 x5).toList then (laws_eqStringS.l0 k x0 x1 (wrap64 (x5+1))) else (some false)) else (none)) else (none)) else (some true)
end
def laws_eqStringS.f (k:Nat) (l0 l1:List ByteArray):Option (Bool):=if (l0.length:Int)=(l1.length:Int) then (laws_eqStringS.j0 k l0 l1) else (some false)
theorem laws_eqStringS.calls (k:Nat) (A0:Option Addr) (c0:Nat) (l0:List ByteArray) (A1:Option Addr) (c1:Nat) (l1:List ByteArray) (r:Bool) (w:World) (b1:Kd.C Kd.string w A0 l0.length l0) (b2:l0.length≤c0) (b3:Kd.C Kd.string w A1 l1.length l1) (b4:l1.length≤c1) (h:laws_eqStringS.f k l0 l1=some r) :
  Calls Try.prog 35 #[.slice A0 l0.length c0,.slice A1 l1.length c1] w fun e w'=>e=.returned (.bool r)∧Drawn0 w w':=by
 have b5:=zA b1;have d3:=zA b2;clear b1 b2;have b6:=zA b3;have d4:=zA b4;clear b3 b4;unfold laws_eqStringS.f at h;have H:=h;clear h;have a6:=zA H;clear H;go_enter Try.func35,Try.ntmps35;go_upto_if 10 with (fail)
 repeat(go_quiet (fail);go_upto_if 10 with (fail))
 go_cut [] (fun wc=>∃ (kq:Nat),Aside0 (laws_eqStringS.j0 kq l0 l1=some r)∧Aside0 (kq≤k)∧Drawn0 w wc)
 case first=>
  have H:=a6.out;clear a6;replace H:=zI1 H;rcases H with ⟨c4,H⟩|⟨c4,H⟩
  ·have a1:=beq_iff_eq.mpr c4;have a7:=bne_eq_false_iff_eq.mpr c4;have a8:(l0.length == l1.length)=true:=by first|simpa using c4|(simp at c4 ⊢;omega)
   clear c4;(first|rw[a1]|(simp only[i64_w,i32_w];rw[a1])|skip);have H':=zA H;clear H;go_wp2;repeat(go_quiet (fail);try go_wp2)
   go_meet
   case rel=>exact⟨_,(by first|exact H'|(subst_vars;exact H')),⟨by first|omega|exact Nat.le_refl _⟩,zv0⟩
  have a1:=beq_eq_false_iff_ne.mpr c4;have a7:=bne_iff_ne.mpr c4;have a8:(l0.length == l1.length)=false:=by first|simpa using c4|(simp at c4 ⊢;omega)
  (first|rw[a1]|(simp only[i64_w,i32_w];rw[a1])|skip);obtain rfl:=zm H;go_wp2;repeat(go_quiet (fail);try go_wp2)
  go_ret;exact⟨by first|rfl|(simp;done)|(simp[*];done)|(simp;rw[Bool.eq_iff_iff];simp;done),zv0⟩
 case rest=>
  clear a6;(try clear c1);obtain⟨kq,HA,b7,⟨d5,rfl⟩⟩:=hcut;cases kq with
  | zero=>exact absurd HA.out (by simp[laws_eqStringS.j0])
  | succ b8=>
   have H:=HA.out;clear HA;simp only[laws_eqStringS.j0] at H;have H':=zA H;clear H;go_wp2;repeat(go_quiet (fail);try go_wp2)
   go_loopg [5] b8 (fun kq v5 w'=>∃ (a0:Int),v5=.int .i64 a0∧Aside0 (laws_eqStringS.l0 kq l0 l1 a0=some r)∧Aside0 (kq≤b8)∧Drawn0 w w')
   case atStart=>exact⟨(0),zS,H',⟨Nat.le_refl _⟩,zv0⟩
   case round=>
    clear H';obtain⟨a0,rfl,HA,b9,⟨m2,rfl⟩⟩:=hrel;cases gk with
    | zero=>exact absurd HA.out (by simp[laws_eqStringS.l0])
    | succ k2=>
     have H:=HA.out;clear HA;simp only[laws_eqStringS.l0] at H;replace H:=zI0 H;rcases H with ⟨c5,H⟩|⟨c5,H⟩
     ·replace H:=zD0 H;obtain⟨d6,H⟩:=H;replace H:=zD0 H;obtain⟨d7,H⟩:=H;replace H:=zI1 H;rcases H with ⟨c8,H⟩|⟨c8,H⟩
      ·have c6:=beq_iff_eq.mpr c8;have c7:=bne_eq_false_iff_eq.mpr c8;clear c8;have H':=zA H;clear H;have a2:0≤(a0:Int):=zD;have a3:a0<(l0.length:Int):=zD;obtain⟨c9,a9,d0⟩:=Kd.at_string b5.out a0 a2 a3;cases a9;replace a2:=eq_true a2;replace a3:=eq_true a3;have a4:0≤(a0:Int):=zD;have a5:a0<(l1.length:Int):=zD;obtain⟨d1,b0,d2⟩:=Kd.at_string b6.out a0 a4 a5;cases b0;replace a4:=eq_true a4;replace a5:=eq_true a5;go_wp2;repeat(go_quiet (fail);try go_wp2)
       go_roundg k2
       case measure=>have:=b7.out;have:=b9.out;omega
       case rel=>exact⟨(wrap64 (a0+1)),zS,H',⟨by have:=b7.out;have:=b9.out;omega⟩,zv0⟩
      have c6:=beq_eq_false_iff_ne.mpr c8;have c7:=bne_iff_ne.mpr c8;obtain rfl:=zm H;have a2:0≤(a0:Int):=zD;have a3:a0<(l0.length:Int):=zD;obtain⟨c9,a9,d0⟩:=Kd.at_string b5.out a0 a2 a3;cases a9;replace a2:=eq_true a2;replace a3:=eq_true a3;have a4:0≤(a0:Int):=zD;have a5:a0<(l1.length:Int):=zD;obtain⟨d1,b0,d2⟩:=Kd.at_string b6.out a0 a4 a5;cases b0;replace a4:=eq_true a4;replace a5:=eq_true a5;go_wp2;repeat(go_quiet (fail);try go_wp2)
      go_ret;exact⟨by first|rfl|(simp;done)|(simp[*];done)|(simp;rw[Bool.eq_iff_iff];simp;done),zv0⟩
     obtain rfl:=zm H;go_wp2;repeat(go_quiet (fail);try go_wp2)
     go_ret;exact⟨by first|rfl|(simp;done)|(simp[*];done)|(simp;rw[Bool.eq_iff_iff];simp;done),zv0⟩
class laws_eqVal.Rec where
 f:Nat→Int→Int→ByteArray→List (S29)→List ByteArray→Int→Int→ByteArray→List (S29)→List ByteArray→Option (Bool)
class laws_eqVal.Rec.Ok [laws_eqVal.Rec]:Prop where
 calls:∀ (k:Nat) (a4:Int) (a5:Int) (a6:ByteArray) (a7:Option Addr) (a8:Nat) (a0:List (S29)) (a9:Option Addr) (b0:Nat) (a1:List ByteArray) (b1:Int) (b2:Int) (b3:ByteArray) (b4:Option Addr) (b5:Nat) (a2:List (S29)) (b6:Option Addr) (b7:Nat) (a3:List ByteArray) (r:Bool) (w:World) (b8:Kd.C k29 w a7 a0.length a0) (b9:a0.length≤a8) (c0:Kd.C Kd.string w a9 a1.length a1) (c1:a1.length≤b0) (c2:Kd.C k29 w b4 a2.length a2) (c3:a2.length≤b5) (c4:Kd.C Kd.string w b6 a3.length a3) (c5:a3.length≤b7) (h:laws_eqVal.Rec.f k a4 a5 a6 a0 a1 b1 b2 b3 a2 a3=some r),
  Calls Try.prog 10 #[.agg #[.int .i64 a4,.int .i64 a5,.string a6,.slice a7 a0.length a8,.slice a9 a1.length b0],.agg #[.int .i64 b1,.int .i64 b2,.string b3,.slice b4 a2.length b5,.slice b6 a3.length b7]] w fun e w'=>e=.returned (.bool r)∧Below w.heap.size w w'
theorem laws_eqVal.Rec.calls [laws_eqVal.Rec] [o:laws_eqVal.Rec.Ok]:∀ (k:Nat) (a4 a5:Int) (a6:ByteArray) (a7:Option Addr) (a8:Nat) (a0:List (S29)) (a9:Option Addr) (b0:Nat) (a1:List ByteArray) (b1 b2:Int) (b3:ByteArray) (b4:Option Addr) (b5:Nat) (a2:List (S29)) (b6:Option Addr) (b7:Nat) (a3:List ByteArray) (r:Bool) (w:World) (b8:Kd.C k29 w a7 a0.length a0) (b9:a0.length≤a8) (c0:Kd.C Kd.string w a9 a1.length a1) (c1:a1.length≤b0) (c2:Kd.C k29 w b4 a2.length a2) (c3:a2.length≤b5) (c4:Kd.C Kd.string w b6 a3.length a3) (c5:a3.length≤b7) (h:laws_eqVal.Rec.f k a4 a5 a6 a0 a1 b1 b2 b3 a2 a3=some r),
  Calls Try.prog 10 #[.agg #[.int .i64 a4,.int .i64 a5,.string a6,.slice a7 a0.length a8,.slice a9 a1.length b0],.agg #[.int .i64 b1,.int .i64 b2,.string b3,.slice b4 a2.length b5,.slice b6 a3.length b7]] w fun e w'=>e=.returned (.bool r)∧Below w.heap.size w w':=o.calls
section
set_option linter.unusedSectionVars false
variable [laws_eqVal.Rec] [laws_eqVal.Rec.Ok]
/-! ### laws_eqValS: function 34 -/
mutual
def laws_eqValS.j0:Nat→List (S29)→List (S29)→Option (Bool)
 | 0,_,_=>none
 | k+1,x0,x1=>laws_eqValS.l0 k x0 x1 0
def laws_eqValS.l0:Nat→List (S29)→List (S29)→Int→Option (Bool)
 | 0,_,_,_=>none
 | k+1,x0,x1,x5=>if x5<(x0.length:Int) then (if 0≤x5 then (if x5<(x1.length:Int) then ((laws_eqVal.Rec.f k ((rd_T29 x0 x5).f0) ((rd_T29 x0 x5).f1) ((rd_T29 x0 x5).f2) ((rd_T29 x0 x5).f3) ((rd_T29 x0 x5).f4) ((rd_T29 x1 x5).f0) ((rd_T29 x1 x5).f1) ((rd_T29 x1 x5).f2) ((rd_T29 x1 x5).f3) ((rd_T29 x1 x5).f4)).bind fun a0=>(if a0=true then (laws_eqValS.l0 k x0 x1 (wrap64 (x5+1))) else (some false))) else (none)) else (none)) else (some true)
end
def laws_eqValS.f (k:Nat) (l0:List (S29)) (l1:List (S29)):Option (Bool):=if (l0.length:Int)=(l1.length:Int) then (laws_eqValS.j0 k l0 l1) else (some false)
def laws_eqValS.T6:Bool × List (List Nat × List Nat):=(true,[([],[]),([],[]),([0,1],[0,1]),([2],[2]),([],[]),([],[]),([4,5],[4,5]),([6],[6]),([3,7],[3,7]),([8],[8])])
def laws_eqValS.B6:List Nat:=[0,0,3,7,0,0,48,112,255,511]
theorem laws_eqValS.tab6:rtab .any (opsOf Try.f34 6)=laws_eqValS.T6:=by kernel_rfl
theorem laws_eqValS.bits6:waitsOk laws_eqValS.T6.2 laws_eqValS.B6=true:=by kernel_rfl
theorem laws_eqValS.calls (k:Nat) (A0:Option Addr) (c0:Nat) (l0:List (S29)) (A1:Option Addr) (c1:Nat) (l1:List (S29)) (r:Bool) (w:World) (f6:Kd.C k29 w A0 l0.length l0) (f7:l0.length≤c0) (f8:Kd.C k29 w A1 l1.length l1) (f9:l1.length≤c1) (h:laws_eqValS.f k l0 l1=some r) :
  Calls Try.prog 34 #[.slice A0 l0.length c0,.slice A1 l1.length c1] w fun e w'=>e=.returned (.bool r)∧Below w.heap.size w w':=by
 have h7:=Try.underlying29;have g0:=zA f6;have h8:=zA f7;clear f6 f7;have g1:=zA f8;have h9:=zA f9;clear f8 f9;have HB:=zA (Below.refl w.heap.size w);unfold laws_eqValS.f at h;have H:=h;clear h;have e2:=zA H;clear H;go_enter Try.func34,Try.ntmps34;go_upto_if 10 with (fail)
 go_cut [] (fun wc=>∃ (kq:Nat),Aside0 (laws_eqValS.j0 kq l0 l1=some r)∧Aside0 (kq≤k)∧Aside0 (Below w.heap.size w wc))
 case first=>
  have H:=e2.out;clear e2;replace H:=zI1 H;rcases H with ⟨c4,H⟩|⟨c4,H⟩
  ·have b3:=beq_iff_eq.mpr c4;have e3:=bne_eq_false_iff_eq.mpr c4;have e4:(l0.length == l1.length)=true:=by first|simpa using c4|(simp at c4 ⊢;omega)
   clear c4;(first|rw[b3]|(simp only[i64_w,i32_w];rw[b3])|skip);have H':=zA H;clear H;go_wp2;go_meet
   case rel=>exact⟨_,(by first|exact H'|(subst_vars;exact H')),⟨by first|omega|exact Nat.le_refl _⟩,⟨zB⟩⟩
  have b3:=beq_eq_false_iff_ne.mpr c4;have e3:=bne_iff_ne.mpr c4;have e4:(l0.length == l1.length)=false:=by first|simpa using c4|(simp at c4 ⊢;omega)
  (first|rw[b3]|(simp only[i64_w,i32_w];rw[b3])|skip);obtain rfl:=zm H;go_wp2;go_ret;exact⟨zE,zB⟩
 case rest=>
  clear e2;(try clear c1);obtain⟨kq,HA,g2,HB⟩:=hcut;cases kq with
  | zero=>exact absurd HA.out (by simp[laws_eqValS.j0])
  | succ g3=>
   have H:=HA.out;clear HA;simp only[laws_eqValS.j0] at H;have H':=zA H;clear H;go_wp2;go_loopg [5] g3 (fun kq v5 w'=>∃ (a0:Int),v5=.int .i64 a0∧Aside0 (laws_eqValS.l0 kq l0 l1 a0=some r)∧Aside0 (kq≤g3)∧Aside0 (Below w.heap.size w w'))
   case atStart=>exact⟨(0),zS,H',⟨Nat.le_refl _⟩,⟨zB⟩⟩
   case round=>
    clear H';obtain⟨a0,rfl,HA,g4,HB⟩:=hrel;cases gk with
    | zero=>exact absurd HA.out (by simp[laws_eqValS.l0])
    | succ k2=>
     have H:=HA.out;clear HA;simp only[laws_eqValS.l0] at H;replace H:=zI0 H;rcases H with ⟨g6,H⟩|⟨g6,H⟩
     ·replace H:=zD0 H;obtain⟨i0,H⟩:=H;replace H:=zD0 H;obtain⟨i1,H⟩:=H;replace H:=Option.bind_eq_some_iff.mp H;obtain⟨i2,g5,H⟩:=H;(try dsimp only at H);have A8:=zA g5;clear g5;replace H:=zB0 H;rcases H with ⟨rfl,H⟩|⟨rfl,H⟩
      ·have H':=zA H;clear H;(try go_wp2);replace HB:=zA (below_drew1 HB.out);have b4:0≤(a0:Int):=zD;have b5:a0<(l0.length:Int):=zD;obtain⟨a1,b8,b9,c2,c5,e5,a3,a4,a5,a6,a7,c6,c7,c8,c9⟩:=at_T29 g0.out a0 b4 b5;have g7:=a7;have g8:=a6;have g9:=a5;have h0:=a4;have h1:=a3;cases e5;replace a3:=zx HB a3;replace a4:=zx HB a4;replace a5:=zx HB a5;replace a6:=zx HB a6;replace a7:=zx HB a7;have d0:=zA c7;have e6:=zA c6;clear c7 c6;have d1:=zA c9;have e7:=zA c8;clear c9 c8;replace b4:=eq_true b4;replace b5:=eq_true b5;have b6:0≤(a0:Int):=zD;have b7:a0<(l1.length:Int):=zD;obtain⟨a2,d2,d3,d4,d5,e8,a8,a9,b0,b1,b2,d6,d7,d8,d9⟩:=at_T29 g1.out a0 b6 b7;have h2:=b2;have h3:=b1;have h4:=b0;have h5:=a9;have h6:=a8;cases e8;replace a8:=zx HB a8;replace a9:=zx HB a9;replace b0:=zx HB b0;replace b1:=zx HB b1;replace b2:=zx HB b2;have e0:=zA d7;have e9:=zA d6;clear d7 d6;have e1:=zA d9;have f5:=zA d8;clear d9 d8;replace b6:=eq_true b6;replace b7:=eq_true b7;refine start_ (n:=10) (S:=fun w'=>w'.cell? (a1.add ((a0).toNat*5))=some (.int .i64 ((rd_T29 l0 a0).f0))∧w'.cell? ⟨(a1.add ((a0).toNat*5)).block,(a1.add ((a0).toNat*5)).off+1,none⟩=some (.int .i64 ((rd_T29 l0 a0).f1))∧w'.cell? ⟨(a1.add ((a0).toNat*5)).block,(a1.add ((a0).toNat*5)).off+2,none⟩=some (.string ((rd_T29 l0 a0).f2))∧w'.cell? ⟨(a1.add ((a0).toNat*5)).block,(a1.add ((a0).toNat*5)).off+3,none⟩=some (.slice b8 ((rd_T29 l0 a0).f3).length b9)∧w'.cell? ⟨(a1.add ((a0).toNat*5)).block,(a1.add ((a0).toNat*5)).off+4,none⟩=some (.slice c2 ((rd_T29 l0 a0).f4).length c5)∧w'.cell? (a2.add ((a0).toNat*5))=some (.int .i64 ((rd_T29 l1 a0).f0))∧w'.cell? ⟨(a2.add ((a0).toNat*5)).block,(a2.add ((a0).toNat*5)).off+1,none⟩=some (.int .i64 ((rd_T29 l1 a0).f1))∧w'.cell? ⟨(a2.add ((a0).toNat*5)).block,(a2.add ((a0).toNat*5)).off+2,none⟩=some (.string ((rd_T29 l1 a0).f2))∧w'.cell? ⟨(a2.add ((a0).toNat*5)).block,(a2.add ((a0).toNat*5)).off+3,none⟩=some (.slice d2 ((rd_T29 l1 a0).f3).length d3)∧w'.cell? ⟨(a2.add ((a0).toNat*5)).block,(a2.add ((a0).toNat*5)).off+4,none⟩=some (.slice d4 ((rd_T29 l1 a0).f4).length d5)) (ds:=[]) (Array.replicate 10 false) (by kernel_rfl) rfl rfl zO fun hHeld=>?_;refine with_tabW laws_eqValS.tab6 laws_eqValS.bits6 (fun HT_ HW_=>?_);generalize wr.drew=i3 at HB d0 d1 e0 e1 a3 a4 a5 a6 a7 a8 a9 b0 b1 b2 hHeld ⊢;refine zp 0 17 ?_;refine zp 1 18 ?_;refine zp 2 19 ?_;refine zp 4 21 ?_;refine zp 5 22 ?_;refine zp 6 23 ?_;refine zt 3 20 ?_;refine zt 7 24 ?_;refine zo 8 (some 25) fun K hK=>?_;refine goes_ Try.func10 (by kernel_rfl) rfl #[.agg #[.int .i64 ((rd_T29 l0 a0).f0),.int .i64 ((rd_T29 l0 a0).f1),.string ((rd_T29 l0 a0).f2),.slice b8 ((rd_T29 l0 a0).f3).length b9,.slice c2 ((rd_T29 l0 a0).f4).length c5],.agg #[.int .i64 ((rd_T29 l1 a0).f0),.int .i64 ((rd_T29 l1 a0).f1),.string ((rd_T29 l1 a0).f2),.slice d2 ((rd_T29 l1 a0).f3).length d3,.slice d4 ((rd_T29 l1 a0).f4).length d5]] (by rfl) rfl rfl zM ?_;(with_reducible refine(laws_eqVal.Rec.calls k2 ((rd_T29 l0 a0).f0) ((rd_T29 l0 a0).f1) ((rd_T29 l0 a0).f2) _ _ ((rd_T29 l0 a0).f3) _ _ ((rd_T29 l0 a0).f4) ((rd_T29 l1 a0).f0) ((rd_T29 l1 a0).f1) ((rd_T29 l1 a0).f2) _ _ ((rd_T29 l1 a0).f3) _ _ ((rd_T29 l1 a0).f4) true _ ?s1 ?s2 ?s3 ?s4 ?s5 ?s6 ?s7 ?s8 A8.out).mono ?_);(case s1=>exact zC (Kd.C_below d0.out HB.out));(case s2=>exact e6.out);(case s3=>exact zC (Kd.C_below d1.out HB.out));(case s4=>exact e7.out);(case s5=>exact zC (Kd.C_below e0.out HB.out));(case s6=>exact e9.out);(case s7=>exact zC (Kd.C_below e1.out HB.out));(case s8=>exact f5.out);rintro e i4 ⟨rfl,hb⟩;refine⟨_,rfl,?_⟩;replace HB:=zA (below_step (zB) hb);(try clear hb);refine hK.out _ _ zO fun hHeld=>?_;clear hK K;refine zn ?_;refine zp 9 26 ?_;refine done_ (done_of HT_.out (by kernel_rfl)) ?_;(try go_wp2);go_roundg k2
       case measure=>have:=g2.out;have:=g4.out;omega
       case rel=>exact⟨(wrap64 (a0+1)),zS,H',⟨by have:=g2.out;have:=g4.out;omega⟩,⟨zB⟩⟩
      obtain rfl:=zm H;(try go_wp2);replace HB:=zA (below_drew1 HB.out);have b4:0≤(a0:Int):=zD;have b5:a0<(l0.length:Int):=zD;obtain⟨a1,b8,b9,c2,c5,e5,a3,a4,a5,a6,a7,c6,c7,c8,c9⟩:=at_T29 g0.out a0 b4 b5;have g7:=a7;have g8:=a6;have g9:=a5;have h0:=a4;have h1:=a3;cases e5;replace a3:=zx HB a3;replace a4:=zx HB a4;replace a5:=zx HB a5;replace a6:=zx HB a6;replace a7:=zx HB a7;have d0:=zA c7;have e6:=zA c6;clear c7 c6;have d1:=zA c9;have e7:=zA c8;clear c9 c8;replace b4:=eq_true b4;replace b5:=eq_true b5;have b6:0≤(a0:Int):=zD;have b7:a0<(l1.length:Int):=zD;obtain⟨a2,d2,d3,d4,d5,e8,a8,a9,b0,b1,b2,d6,d7,d8,d9⟩:=at_T29 g1.out a0 b6 b7;have h2:=b2;have h3:=b1;have h4:=b0;have h5:=a9;have h6:=a8;cases e8;replace a8:=zx HB a8;replace a9:=zx HB a9;replace b0:=zx HB b0;replace b1:=zx HB b1;replace b2:=zx HB b2;have e0:=zA d7;have e9:=zA d6;clear d7 d6;have e1:=zA d9;have f5:=zA d8;clear d9 d8;replace b6:=eq_true b6;replace b7:=eq_true b7;refine start_ (n:=10) (S:=fun w'=>w'.cell? (a1.add ((a0).toNat*5))=some (.int .i64 ((rd_T29 l0 a0).f0))∧w'.cell? ⟨(a1.add ((a0).toNat*5)).block,(a1.add ((a0).toNat*5)).off+1,none⟩=some (.int .i64 ((rd_T29 l0 a0).f1))∧w'.cell? ⟨(a1.add ((a0).toNat*5)).block,(a1.add ((a0).toNat*5)).off+2,none⟩=some (.string ((rd_T29 l0 a0).f2))∧w'.cell? ⟨(a1.add ((a0).toNat*5)).block,(a1.add ((a0).toNat*5)).off+3,none⟩=some (.slice b8 ((rd_T29 l0 a0).f3).length b9)∧w'.cell? ⟨(a1.add ((a0).toNat*5)).block,(a1.add ((a0).toNat*5)).off+4,none⟩=some (.slice c2 ((rd_T29 l0 a0).f4).length c5)∧w'.cell? (a2.add ((a0).toNat*5))=some (.int .i64 ((rd_T29 l1 a0).f0))∧w'.cell? ⟨(a2.add ((a0).toNat*5)).block,(a2.add ((a0).toNat*5)).off+1,none⟩=some (.int .i64 ((rd_T29 l1 a0).f1))∧w'.cell? ⟨(a2.add ((a0).toNat*5)).block,(a2.add ((a0).toNat*5)).off+2,none⟩=some (.string ((rd_T29 l1 a0).f2))∧w'.cell? ⟨(a2.add ((a0).toNat*5)).block,(a2.add ((a0).toNat*5)).off+3,none⟩=some (.slice d2 ((rd_T29 l1 a0).f3).length d3)∧w'.cell? ⟨(a2.add ((a0).toNat*5)).block,(a2.add ((a0).toNat*5)).off+4,none⟩=some (.slice d4 ((rd_T29 l1 a0).f4).length d5)) (ds:=[]) (Array.replicate 10 false) (by kernel_rfl) rfl rfl zO fun hHeld=>?_;refine with_tabW laws_eqValS.tab6 laws_eqValS.bits6 (fun HT_ HW_=>?_);generalize wr.drew=i5 at HB d0 d1 e0 e1 a3 a4 a5 a6 a7 a8 a9 b0 b1 b2 hHeld ⊢;refine zp 0 17 ?_;refine zp 1 18 ?_;refine zp 2 19 ?_;refine zp 4 21 ?_;refine zp 5 22 ?_;refine zp 6 23 ?_;refine zt 3 20 ?_;refine zt 7 24 ?_;refine zo 8 (some 25) fun K hK=>?_;refine goes_ Try.func10 (by kernel_rfl) rfl #[.agg #[.int .i64 ((rd_T29 l0 a0).f0),.int .i64 ((rd_T29 l0 a0).f1),.string ((rd_T29 l0 a0).f2),.slice b8 ((rd_T29 l0 a0).f3).length b9,.slice c2 ((rd_T29 l0 a0).f4).length c5],.agg #[.int .i64 ((rd_T29 l1 a0).f0),.int .i64 ((rd_T29 l1 a0).f1),.string ((rd_T29 l1 a0).f2),.slice d2 ((rd_T29 l1 a0).f3).length d3,.slice d4 ((rd_T29 l1 a0).f4).length d5]] (by rfl) rfl rfl zM ?_;(with_reducible refine(laws_eqVal.Rec.calls k2 ((rd_T29 l0 a0).f0) ((rd_T29 l0 a0).f1) ((rd_T29 l0 a0).f2) _ _ ((rd_T29 l0 a0).f3) _ _ ((rd_T29 l0 a0).f4) ((rd_T29 l1 a0).f0) ((rd_T29 l1 a0).f1) ((rd_T29 l1 a0).f2) _ _ ((rd_T29 l1 a0).f3) _ _ ((rd_T29 l1 a0).f4) false _ ?s1 ?s2 ?s3 ?s4 ?s5 ?s6 ?s7 ?s8 A8.out).mono ?_);(case s1=>exact zC (Kd.C_below d0.out HB.out));(case s2=>exact e6.out);(case s3=>exact zC (Kd.C_below d1.out HB.out));(case s4=>exact e7.out);(case s5=>exact zC (Kd.C_below e0.out HB.out));(case s6=>exact e9.out);(case s7=>exact zC (Kd.C_below e1.out HB.out));(case s8=>exact f5.out);rintro e i6 ⟨rfl,hb⟩;refine⟨_,rfl,?_⟩;replace HB:=zA (below_step (zB) hb);(try clear hb);refine hK.out _ _ zO fun hHeld=>?_;clear hK K;refine zn ?_;refine zp 9 26 ?_;refine done_ (done_of HT_.out (by kernel_rfl)) ?_;(try go_wp2);go_ret;exact⟨zE,zB⟩
     obtain rfl:=zm H;go_wp2;go_ret;exact⟨zE,zB⟩
end
/-! ### laws_eqVal: function 10 -/
mutual
def laws_eqVal.j0:Nat→Int→Int→ByteArray→List (S29)→List ByteArray→Int→Int→ByteArray→List (S29)→List ByteArray→Option (Bool)
 | 0,_,_,_,_,_,_,_,_,_,_=>none
 | k+1,a8,a0,a1,a2,a3,a9,a4,a5,a6,a7=>if a0=a4 then (laws_eqVal.j1 k a8 a0 a1 a2 a3 a9 a4 a5 a6 a7) else (some false)
def laws_eqVal.j1:Nat→Int→Int→ByteArray→List (S29)→List ByteArray→Int→Int→ByteArray→List (S29)→List ByteArray→Option (Bool)
 | 0,_,_,_,_,_,_,_,_,_,_=>none
 | k+1,a8,a0,a1,a2,a3,a9,a4,a5,a6,a7=>if a1.toList=a5.toList then (laws_eqVal.j2 k a8 a0 a1 a2 a3 a9 a4 a5 a6 a7) else (some false)
def laws_eqVal.j2:Nat→Int→Int→ByteArray→List (S29)→List ByteArray→Int→Int→ByteArray→List (S29)→List ByteArray→Option (Bool)
 | 0,_,_,_,_,_,_,_,_,_,_=>none
 | k+1,a8,a0,a1,a2,a3,a9,a4,a5,a6,a7=>(@laws_eqValS.f ⟨fun _=>laws_eqVal.f k⟩ k a2 a6).bind fun b2=>(if b2=true then ((laws_eqStringS.f k a3 a7).bind fun b3=>(if b3=true then (some true) else (some false))) else (some false))
def laws_eqVal.f:Nat→Int→Int→ByteArray→List (S29)→List ByteArray→Int→Int→ByteArray→List (S29)→List ByteArray→Option (Bool)
 | 0,_,_,_,_,_,_,_,_,_,_=>none
 | k+1,b0,b4,b5,b6,b7,b1,b8,b9,c0,c1=>if b0=b1 then (laws_eqVal.j0 k b0 b4 b5 b6 b7 b1 b8 b9 c0 c1) else (some false)
end
theorem laws_eqVal.calls (k:Nat):∀ (a7 a8:Int) (a9:ByteArray) (b0:Option Addr) (b1:Nat) (a2:List (S29)) (b7:Option Addr) (b8:Nat) (a4:List ByteArray) (b2 b3:Int) (b4:ByteArray) (b5:Option Addr) (b6:Nat) (a3:List (S29)) (b9:Option Addr) (c0:Nat) (a5:List ByteArray) (r:Bool) (w:World) (d4:Kd.C k29 w b0 a2.length a2) (d5:a2.length≤b1) (d6:Kd.C Kd.string w b7 a4.length a4) (d7:a4.length≤b8) (d8:Kd.C k29 w b5 a3.length a3) (d9:a3.length≤b6) (e0:Kd.C Kd.string w b9 a5.length a5) (e1:a5.length≤c0) (h:laws_eqVal.f k a7 a8 a9 a2 a4 b2 b3 b4 a3 a5=some r),
  Calls Try.prog 10 #[.agg #[.int .i64 a7,.int .i64 a8,.string a9,.slice b0 a2.length b1,.slice b7 a4.length b8],.agg #[.int .i64 b2,.int .i64 b3,.string b4,.slice b5 a3.length b6,.slice b9 a5.length c0]] w fun e w'=>e=.returned (.bool r)∧Below w.heap.size w w':=by
 induction k using Nat.strongRecOn with
 | _ k ih=>
 intro a7 a8 a9 b0 b1 a2 b7 b8 a4 b2 b3 b4 b5 b6 a3 b9 c0 a5 r w d4 d5 d6 d7 d8 d9 e0 e1 h;cases k with
 | zero=>exact absurd h (by simp[laws_eqVal.f])
 | succ k=>
 simp only[laws_eqVal.f] at h;have m7:=Try.underlying29;have e2:=zA d4;have e3:=zA d5;clear d4 d5;have h4:=zA d6;have h5:=zA d7;clear d6 d7;have e4:=zA d8;have e5:=zA d9;clear d8 d9;have h6:=zA e0;have h7:=zA e1;clear e0 e1;have HB:=zA (Below.refl w.heap.size w);have H:=h;clear h;have e6:=zA H;clear H;go_enter Try.func10,Try.ntmps10;go_upto_if 9 with (first|((with_reducible refine zd 2 ?_);refine ze 2 29 #[.int .i64 a7,.int .i64 a8,.string a9,.slice b0 a2.length b1,.slice b7 a4.length b8] ?_;intro e7 hg w4 hbox hb;have a0:=zA (hbox);have m8:=zi HB hg;have m9:=zi HB hg;replace HB:=zA (below_step (zB) hb);clear hb hbox hg)|((with_reducible refine zd 3 ?_);refine ze 3 29 #[.int .i64 b2,.int .i64 b3,.string b4,.slice b5 a3.length b6,.slice b9 a5.length c0] ?_;intro e8 hg w5 hbox hb;have a1:=zA (hbox);have n0:=zi HB hg;have n1:=zi HB hg;replace HB:=zh HB hb;have c7:=zA (zL hg (zK a0.out));have c8:=zA (zJ hg (zK a0.out));replace a0:=zb a0 hb;clear hb hbox hg;have n2:=c7.out;have n3:=c8.out;obtain⟨e9,f0,f1,f2,f3,f4,f5,f6,f7,f8⟩:=ze5 a0.out;obtain⟨f9,g0,g1,g2,g3,g4,g5,g6,g7,g8⟩:=ze5 a1.out))
 (try simp only[Act.put,zT]);go_cut [] (fun wc=>∃ (kq:Nat),Aside0 (laws_eqVal.j0 kq a7 a8 a9 a2 a4 b2 b3 b4 a3 a5=some r)∧Aside0 (kq≤k)∧Aside0 (wc.heap[e7]?=some (.cells #[.int .i64 a7,.int .i64 a8,.string a9,(.slice b0 a2.length b1),(.slice b7 a4.length b8)] 29 (0,0)))∧Aside0 (wc.heap[e8]?=some (.cells #[.int .i64 b2,.int .i64 b3,.string b4,(.slice b5 a3.length b6),(.slice b9 a5.length c0)] 29 (0,0)))∧Aside0 (Below w.heap.size w wc))
 case first=>
  have H:=e6.out;clear e6;replace H:=zI1 H;rcases H with ⟨c9,H⟩|⟨c9,H⟩
  ·have c2:=beq_iff_eq.mpr c9;have d2:=bne_eq_false_iff_eq.mpr c9;clear c9;(first|rw[c2]|(simp only[i64_w,i32_w];rw[c2])|skip);have H':=zA H;clear H;go_wp2;go_meet
   case rel=>exact⟨_,(by first|exact H'|(subst_vars;exact H')),⟨by first|omega|exact Nat.le_refl _⟩,⟨zK a0.out⟩,⟨zK a1.out⟩,⟨zW HB.out⟩⟩
  have c2:=beq_eq_false_iff_ne.mpr c9;have d2:=bne_iff_ne.mpr c9;(first|rw[c2]|(simp only[i64_w,i32_w];rw[c2])|skip);obtain rfl:=zm H;go_wp2;go_ret;exact⟨zE,zW HB.out⟩
 case rest=>
  clear e6;(try clear e9 f0 f1 f2 f3 f4 f5 f6 f7 f8);(try clear f9 g0 g1 g2 g3 g4 g5 g6 g7 g8);obtain⟨kq,HA,d1,a0,a1,HB⟩:=hcut;cases kq with
  | zero=>exact absurd HA.out (by simp[laws_eqVal.j0])
  | succ k5=>
   have H:=HA.out;clear HA;simp only[laws_eqVal.j0] at H;have g9:=zA H;clear H;have n4:=c7.out;have n5:=c8.out;obtain⟨h8,h9,i0,i1,i2,i3,i4,i5,i6,i7⟩:=ze5 a0.out;obtain⟨i8,i9,j3,j4,j5,j6,j7,j8,j9,k0⟩:=ze5 a1.out;go_upto_if 14 with (fail)
   go_cut [] (fun wc=>∃ (kq:Nat),Aside0 (laws_eqVal.j1 kq a7 a8 a9 a2 a4 b2 b3 b4 a3 a5=some r)∧Aside0 (kq≤k5)∧Aside0 (wc.heap[e7]?=some (.cells #[.int .i64 a7,.int .i64 a8,.string a9,(.slice b0 a2.length b1),(.slice b7 a4.length b8)] 29 (0,0)))∧Aside0 (wc.heap[e8]?=some (.cells #[.int .i64 b2,.int .i64 b3,.string b4,(.slice b5 a3.length b6),(.slice b9 a5.length c0)] 29 (0,0)))∧Aside0 (Below w.heap.size w wc))
   case first=>
    have H:=g9.out;clear g9;replace H:=zI1 H;rcases H with ⟨c3,H⟩|⟨c3,H⟩
    ·have c4:=beq_iff_eq.mpr c3;have h0:=bne_eq_false_iff_eq.mpr c3;clear c3;(first|rw[c4]|(simp only[i64_w,i32_w];rw[c4])|skip);have H':=zA H;clear H;go_wp2;go_meet
     case rel=>exact⟨_,(by first|exact H'|(subst_vars;exact H')),⟨by have:=d1.out;first|omega|exact Nat.le_refl _⟩,⟨zK a0.out⟩,⟨zK a1.out⟩,⟨zW HB.out⟩⟩
    have c4:=beq_eq_false_iff_ne.mpr c3;have h0:=bne_iff_ne.mpr c3;(first|rw[c4]|(simp only[i64_w,i32_w];rw[c4])|skip);obtain rfl:=zm H;go_wp2;go_ret;exact⟨zE,zW HB.out⟩
   case rest=>
    clear g9;(try clear h8 h9 i0 i1 i2 i3 i4 i5 i6 i7);(try clear i8 i9 j3 j4 j5 j6 j7 j8 j9 k0);obtain⟨kq,HA,d3,a0,a1,HB⟩:=hcut;cases kq with
    | zero=>exact absurd HA.out (by simp[laws_eqVal.j1])
    | succ k6=>
     have H:=HA.out;clear HA;simp only[laws_eqVal.j1] at H;have h1:=zA H;clear H;have n6:=c7.out;have n7:=c8.out;obtain⟨k7,k8,k9,l0,l1,l2,l3,l4,l5,l6⟩:=ze5 a0.out;obtain⟨l7,l8,l9,m0,m1,m2,m3,m4,m5,m6⟩:=ze5 a1.out;go_upto_if 19 with (fail)
     go_cut [] (fun wc=>∃ (kq:Nat),Aside0 (laws_eqVal.j2 kq a7 a8 a9 a2 a4 b2 b3 b4 a3 a5=some r)∧Aside0 (kq≤k6)∧Aside0 (wc.heap[e7]?=some (.cells #[.int .i64 a7,.int .i64 a8,.string a9,(.slice b0 a2.length b1),(.slice b7 a4.length b8)] 29 (0,0)))∧Aside0 (wc.heap[e8]?=some (.cells #[.int .i64 b2,.int .i64 b3,.string b4,(.slice b5 a3.length b6),(.slice b9 a5.length c0)] 29 (0,0)))∧Aside0 (Below w.heap.size w wc))
     case first=>
      have H:=h1.out;clear h1;replace H:=zI1 H;rcases H with ⟨c5,H⟩|⟨c5,H⟩
      ·have d0:=beq_iff_eq.mpr c5;have k1:=bne_eq_false_iff_eq.mpr c5;clear c5;(first|rw[d0]|(simp only[i64_w,i32_w];rw[d0])|skip);have H':=zA H;clear H;go_wp2;go_meet
       case rel=>exact⟨_,(by first|exact H'|(subst_vars;exact H')),⟨by have:=d1.out;have:=d3.out;first|omega|exact Nat.le_refl _⟩,⟨zK a0.out⟩,⟨zK a1.out⟩,⟨zW HB.out⟩⟩
      have d0:=beq_eq_false_iff_ne.mpr c5;have k1:=bne_iff_ne.mpr c5;(first|rw[d0]|(simp only[i64_w,i32_w];rw[d0])|skip);obtain rfl:=zm H;go_wp2;go_ret;exact⟨zE,zW HB.out⟩
     case rest=>
      clear h1;(try clear k7 k8 k9 l0 l1 l2 l3 l4 l5 l6);(try clear l7 l8 l9 m0 m1 m2 m3 m4 m5 m6);obtain⟨kq,HA,h2,a0,a1,HB⟩:=hcut;cases kq with
      | zero=>exact absurd HA.out (by simp[laws_eqVal.j2])
      | succ a6=>
       have H:=HA.out;clear HA;simp only[laws_eqVal.j2] at H;replace H:=Option.bind_eq_some_iff.mp H;obtain⟨n8,k2,H⟩:=H;(try dsimp only at H);have h3:=zA k2;clear k2;replace H:=zB0 H;rcases H with ⟨rfl,H⟩|⟨rfl,H⟩
       ·replace H:=Option.bind_eq_some_iff.mp H;obtain⟨n9,k3,H⟩:=H;(try dsimp only at H);have k4:=zA k3;clear k3;replace H:=zB0 H;rcases H with ⟨rfl,H⟩|⟨rfl,H⟩
        ·obtain rfl:=zm H;have o0:=c7.out;have o1:=c8.out;obtain⟨o2,o3,o4,o5,o6,o7,o8,o9,p0,p1⟩:=ze5 a0.out;obtain⟨p3,p4,p5,p6,p7,p8,p9,q0,q1,q2⟩:=ze5 a1.out;go_wp2_with (first|((with_reducible refine zq 34 ?_);refine zg (some 24) Try.func34 #[.slice b0 a2.length b1,.slice b5 a3.length b6] ?_;(refine(@laws_eqValS.calls ⟨fun _=>laws_eqVal.f a6⟩ (@laws_eqVal.Rec.Ok.mk ⟨fun _=>laws_eqVal.f a6⟩ (fun _=>ih a6 (by have:=d1.out;have:=d3.out;have:=h2.out;omega))) a6 _ _ a2 _ _ a3 true _ ?s1 ?s2 ?s3 ?s4 h3.out).mono ?_);(case s1=>exact zC (Kd.C_below e2.out HB.out));(case s2=>exact e3.out);(case s3=>exact zC (Kd.C_below e4.out HB.out));(case s4=>exact e5.out);rintro e q3 ⟨rfl,hb⟩;refine⟨_,rfl,?_⟩;replace a0:=zb a0 hb;replace a1:=zb a1 hb;replace HB:=zh HB hb;(try clear hb);obtain⟨q4,q5,q6,q7,q8,q9,r0,r1,r2,r3⟩:=ze5 a0.out;obtain⟨r4,r5,r6,r7,r8,r9,t0,t1,t2,t3⟩:=ze5 a1.out)|((with_reducible refine zq 35 ?_);refine zg (some 30) Try.func35 #[.slice b7 a4.length b8,.slice b9 a5.length c0] ?_;(with_reducible refine(laws_eqStringS.calls a6 _ _ a4 _ _ a5 true _ ?s1 ?s2 ?s3 ?s4 k4.out).mono ?_);(case s1=>exact zC (Kd.C_below h4.out HB.out));(case s2=>exact h5.out);(case s3=>exact zC (Kd.C_below h6.out HB.out));(case s4=>exact h7.out);rintro e w' ⟨rfl,⟨nd,rfl⟩⟩;refine⟨_,rfl,?_⟩))
         go_ret;exact⟨zE,zW HB.out⟩
        obtain rfl:=zm H;have t4:=c7.out;have t5:=c8.out;obtain⟨t6,t7,t8,t9,v0,v1,v2,v3,v4,v5⟩:=ze5 a0.out;obtain⟨v6,v7,v8,v9,x0,x1,x2,x3,x4,x5⟩:=ze5 a1.out;go_wp2_with (first|((with_reducible refine zq 34 ?_);refine zg (some 24) Try.func34 #[.slice b0 a2.length b1,.slice b5 a3.length b6] ?_;(refine(@laws_eqValS.calls ⟨fun _=>laws_eqVal.f a6⟩ (@laws_eqVal.Rec.Ok.mk ⟨fun _=>laws_eqVal.f a6⟩ (fun _=>ih a6 (by have:=d1.out;have:=d3.out;have:=h2.out;omega))) a6 _ _ a2 _ _ a3 true _ ?s1 ?s2 ?s3 ?s4 h3.out).mono ?_);(case s1=>exact zC (Kd.C_below e2.out HB.out));(case s2=>exact e3.out);(case s3=>exact zC (Kd.C_below e4.out HB.out));(case s4=>exact e5.out);rintro e x6 ⟨rfl,hb⟩;refine⟨_,rfl,?_⟩;replace a0:=zb a0 hb;replace a1:=zb a1 hb;replace HB:=zh HB hb;(try clear hb);obtain⟨x7,x8,x9,y0,y1,y2,y3,y4,y5,y6⟩:=ze5 a0.out;obtain⟨y7,y8,y9,z0,z1,z2,z3,z4,z5,z6⟩:=ze5 a1.out)|((with_reducible refine zq 35 ?_);refine zg (some 30) Try.func35 #[.slice b7 a4.length b8,.slice b9 a5.length c0] ?_;(with_reducible refine(laws_eqStringS.calls a6 _ _ a4 _ _ a5 false _ ?s1 ?s2 ?s3 ?s4 k4.out).mono ?_);(case s1=>exact zC (Kd.C_below h4.out HB.out));(case s2=>exact h5.out);(case s3=>exact zC (Kd.C_below h6.out HB.out));(case s4=>exact h7.out);rintro e w' ⟨rfl,⟨nd,rfl⟩⟩;refine⟨_,rfl,?_⟩))
        go_ret;exact⟨zE,zW HB.out⟩
       obtain rfl:=zm H;have z7:=c7.out;have z8:=c8.out;obtain⟨z9,A0,A1,A2,A3,A4,A5,A6,A7,A8⟩:=ze5 a0.out;obtain⟨A9,B0,B1,B2,B3,B4,B5,B6,B7,B8⟩:=ze5 a1.out;go_wp2_with (first|((with_reducible refine zq 34 ?_);refine zg (some 24) Try.func34 #[.slice b0 a2.length b1,.slice b5 a3.length b6] ?_;(refine(@laws_eqValS.calls ⟨fun _=>laws_eqVal.f a6⟩ (@laws_eqVal.Rec.Ok.mk ⟨fun _=>laws_eqVal.f a6⟩ (fun _=>ih a6 (by have:=d1.out;have:=d3.out;have:=h2.out;omega))) a6 _ _ a2 _ _ a3 false _ ?s1 ?s2 ?s3 ?s4 h3.out).mono ?_);(case s1=>exact zC (Kd.C_below e2.out HB.out));(case s2=>exact e3.out);(case s3=>exact zC (Kd.C_below e4.out HB.out));(case s4=>exact e5.out);rintro e B9 ⟨rfl,hb⟩;refine⟨_,rfl,?_⟩;replace a0:=zb a0 hb;replace a1:=zb a1 hb;replace HB:=zh HB hb;(try clear hb)))
       go_ret;exact⟨zE,zW HB.out⟩
/-! ### laws_markText: function 60 -/
mutual
def laws_markText.j0:Nat→Int→Option (ByteArray)
 | 0,_=>none
 | k+1,x0=>laws_markText.l0 k x0 (⟨#[]⟩:ByteArray)
def laws_markText.l0:Nat→Int→ByteArray→Option (ByteArray)
 | 0,_,_=>none
 | k+1,x0,x3=>if x0>0 then ((some (([(wrap64 (48+(Int.tmod x0 10))) % 256]:List Int):List Int)).bind fun a0=>(if (strOfNums a0).size+x3.size≤9223372036854775807 then (laws_markText.l0 k (wrap64 (Int.tdiv x0 10)) ((strOfNums a0)++x3)) else (none))) else (if 1+x3.size≤9223372036854775807 then (some ((⟨#[109]⟩:ByteArray)++x3)) else (none))
end
def laws_markText.f (k:Nat) (a0:Int):Option (ByteArray):=if a0≤0 then (some (⟨#[109,48]⟩:ByteArray)) else (laws_markText.j0 k a0)
theorem laws_markText.calls (k:Nat) (a0:Int) (r:ByteArray) (w:World) (h:laws_markText.f k a0=some r) :
  Calls Try.prog 60 #[.int .i64 a0] w fun e w'=>e=.returned (.string r)∧Below w.heap.size w w':=by
 have HB:=zA (Below.refl w.heap.size w);unfold laws_markText.f at h;have H:=h;clear h;have a6:=zA H;clear H;go_enter Try.func60,Try.ntmps60;go_upto_if 5 with (fail)
 go_cut [] (fun wc=>∃ (kq:Nat),Aside0 (laws_markText.j0 kq a0=some r)∧Aside0 (kq≤k)∧Aside0 (Below w.heap.size w wc))
 case first=>
  have H:=a6.out;clear a6;replace H:=zI0 H;rcases H with ⟨a3,H⟩|⟨a3,H⟩
  ·(first|rw[a3]|(simp only[i64_w,i32_w];rw[a3])|skip);obtain rfl:=zm H;go_wp2;go_ret;exact⟨zE,zB⟩
  (first|rw[a3]|(simp only[i64_w,i32_w];rw[a3])|skip);have H':=zA H;clear H;go_wp2;go_meet
  case rel=>exact⟨_,(by first|exact H'|(subst_vars;exact H')),⟨by first|omega|exact Nat.le_refl _⟩,⟨zB⟩⟩
 case rest=>
  clear a6;obtain⟨kq,HA,a8,HB⟩:=hcut;cases kq with
  | zero=>exact absurd HA.out (by simp[laws_markText.j0])
  | succ a9=>
   have H:=HA.out;clear HA;simp only[laws_markText.j0] at H;have H':=zA H;clear H;go_wp2;go_loopg [0,3] a9 (fun kq v0 v3 w'=>∃ (a1:Int) (a2:ByteArray),v0=.int .i64 a1∧v3=.string a2∧Aside0 (laws_markText.l0 kq a1 a2=some r)∧Aside0 (kq≤a9)∧Aside0 (Below w.heap.size w w'))
   case atStart=>exact⟨(a0),((⟨#[]⟩:ByteArray)),zS,zS,H',⟨Nat.le_refl _⟩,⟨zB⟩⟩
   case round=>
    clear H';obtain⟨a1,a2,rfl,rfl,HA,b0,HB⟩:=hrel;cases gk with
    | zero=>exact absurd HA.out (by simp[laws_markText.l0])
    | succ k2=>
     have H:=HA.out;clear HA;simp only[laws_markText.l0] at H;replace H:=zI1 H;rcases H with ⟨c4,H⟩|⟨c4,H⟩
     ·have b2:decide (0<a1)=true:=decide_eq_true c4;clear c4;obtain⟨a5,a7⟩:∃ y_:List Int,y_=(([(wrap64 (48+(Int.tmod a1 10))) % 256]:List Int)):=⟨_,rfl⟩;replace H:(if (strOfNums a5).size+a2.size≤9223372036854775807 then (laws_markText.l0 k2 (wrap64 (Int.tdiv a1 10)) ((strOfNums a5)++a2)) else (none))=some r:=zY a7 H;have b1:=zA a7;clear a7;replace H:=zC0 H;obtain⟨c5,H⟩:=H;have b4:=eq_true c5;have b5:=decide_eq_true c5;(try have b6:(9223372036854775807<(strOfNums a5).size+a2.size)=False:=eq_false (Nat.not_lt.2 c5));have H':=zA H;clear H;go_wp2_with (first|((with_reducible refine gate_dst (N:=12) rfl ?_);refine Kd.R_lit (Kd.int .u8) _ 5 ?hg (N:=12) ?hd (xs:=([(wrap64 (48+(Int.tmod a1 10))) % 256]:List Int)) (inner:=[.int .u8 ((wrap64 (48+(Int.tmod a1 10))) % 256)]) (ok:=fun _=>True) ?hr ?hp (fun _ hk=>hk) trivial (Below.refl _ _) (Nat.le_refl _) (by simp) ?_;(case hd=>rfl);(case hg=>rfl);(case hr=>first|(go_simp;done)|(go_simp;rfl));(case hp=>exact(Reps.one (show Kd.M (Kd.int .u8) _ _ _ ((wrap64 (48+(Int.tmod a1 10))) % 256) [.int .u8 ((wrap64 (48+(Int.tmod a1 10))) % 256)] from rfl) (Reps.none _ _)));intro b7 w6 a4 hb hg_ hnew_;clear hg_ hnew_;(first|rw[← b1.out] at a4|(simp only[Int.reduceToNat] at a4;rw[← b1.out] at a4));have b3:=zA (Kd.R_lower a4 (below_size (zB)));replace HB:=zA (below_step (zB) hb);clear hb a4;have b8:=own_string (P:=Try.prog) Try.underlying115 Try.underlying5 Try.underlying9 (Kd.own_of_R b3.out)))
      go_roundg k2
      case measure=>have:=a8.out;have:=b0.out;omega
      case rel=>exact⟨(wrap64 (Int.tdiv a1 10)),((strOfNums a5)++a2),zS,zS,H',⟨by have:=a8.out;have:=b0.out;omega⟩,⟨zB⟩⟩
     have b2:decide (0<a1)=false:=decide_eq_false c4;clear c4;replace H:=zC0 H;obtain⟨c9,H⟩:=H;have b9:=eq_true c9;have c0:=decide_eq_true c9;(try have c1:(9223372036854775807<1+a2.size)=False:=eq_false (Nat.not_lt.2 c9));obtain rfl:=zm H;go_wp2;go_ret;exact⟨zE,zB⟩
/-! ### laws_markStringS: function 37 -/
def laws_markStringS.l0:Nat→List ByteArray→Int→Int→Option (Int × List ByteArray)
 | 0,_,_,_=>none
 | k+1,x0,x1,x5=>if x5<(x0.length:Int) then ((laws_markText.f k x1).bind fun a0=>(if 0≤x5 then (laws_markStringS.l0 k (x0.set (x5:Int).toNat a0) (wrap64 (x1+1)) (wrap64 (x5+1))) else (none))) else (some (x1,x0))
def laws_markStringS.f (k:Nat) (l0:List ByteArray) (a1:Int):Option (Int × List ByteArray):=laws_markStringS.l0 k l0 a1 0
theorem laws_markStringS.calls (k:Nat) (a3:Nat→Prop) (a6:Value) (l0:List ByteArray) (a1 r1:Int) (r2:List ByteArray) (w0 w:World) (hB:Below w0.heap.size w0 w) (b8:Kd.R Kd.string 9 w w0.heap.size a3 a6 l0) (h:laws_markStringS.f k l0 a1=some (r1,r2)) :
  Calls Try.prog 37 #[a6,.int .i64 a1] w fun e w'=>e=.returned (.int .i64 r1)∧Kd.R Kd.string 9 w' w0.heap.size (fun k_=>(a3 k_∨w.heap.size≤k_)) a6 r2∧Below w0.heap.size w0 w'∧Kept w w' (fun k_=>a3 k_):=by
 have b9:=zA (show Kd.R Kd.string 9 w w0.heap.size (fun k_=>(a3 k_∨w.heap.size≤k_)) a6 l0 from Kd.R_mono b8 (fun k_ hk=>(.inl hk)));have HK:=zA (Kept.refl w (fun k_=>a3 k_));have c7:=zA hB.size;have HB:=zA hB;clear hB;unfold laws_markStringS.f at h;have H:=h;clear h;have H':=zA H;clear H;go_enter Try.func37,Try.ntmps37;go_wp2;go_loopg [1,5] k (fun kq v1 v5 w'=>∃ (a5:List ByteArray) (a4:Int) (a2:Int),v1=.int .i64 a4∧v5=.int .i64 a2∧Aside0 (laws_markStringS.l0 kq a5 a4 a2=some (r1,r2))∧Aside0 (kq≤k)∧Aside0 (Kd.R Kd.string 9 w' w0.heap.size (fun k_=>(a3 k_∨w.heap.size≤k_)) a6 a5)∧Aside0 (Kept w w' (fun k_=>a3 k_))∧Aside0 (Below w0.heap.size w0 w'))
 case atStart=>exact⟨(l0),(a1),(0),zS,zS,H',⟨Nat.le_refl _⟩,⟨zR b9.out⟩,⟨by repeat(first|(with_reducible first|exact HK.out|apply Kept.alloc|apply Kept.drewN|apply Kept.drew)|exact HK.out)⟩,⟨zB⟩⟩
 case round=>
  clear H';obtain⟨a5,a4,a2,rfl,rfl,HA,b3,a0,HK,HB⟩:=hrel;cases gk with
  | zero=>exact absurd HA.out (by simp[laws_markStringS.l0])
  | succ k1=>
   have H:=HA.out;clear HA;simp only[laws_markStringS.l0] at H;replace H:=zI0 H;rcases H with ⟨c0,H⟩|⟨c0,H⟩
   ·replace H:=Option.bind_eq_some_iff.mp H;obtain⟨a8,b4,H⟩:=H;(try dsimp only at H);have A4:=zA b4;clear b4;replace H:=zD0 H;obtain⟨c8,H⟩:=H;obtain⟨a9,b0⟩:∃ y_:List ByteArray,y_=(a5.set (a2:Int).toNat a8):=⟨_,rfl⟩;replace H:(laws_markStringS.l0 k1 a9 (wrap64 (a4+1)) (wrap64 (a2+1)))=some (r1,r2):=zY b0 H;have c1:=zA b0;clear b0;have H':=zA H;clear H;obtain⟨c9,c2,c3⟩:=Kd.R_slice a0.out;subst c3;go_wp2_with (first|((with_reducible refine zq 60 ?_);refine zg (some 15) Try.func60 #[.int .i64 a4] ?_;(with_reducible refine(laws_markText.calls k1 a4 a8 _ A4.out).mono ?_);rintro e w8 ⟨rfl,hb⟩;refine⟨_,rfl,?_⟩;replace a0:=zr a0 hb;replace HK:=zA (Kept.below (S:=(fun k_=>a3 k_)) (by repeat(first|(with_reducible first|exact HK.out|apply Kept.alloc|apply Kept.drewN|apply Kept.drew)|exact HK.out)) hb);replace HB:=zA (below_step (zB) hb);(try clear hb);have p6:0≤(a2:Int):=zD;have q6:(a2:Int)<((a5.length:Int):Int):=zD;obtain⟨a7,d0,b5,b6,c4,d1,b7⟩:=Kd.R_form a0.out (by omega);(first|cases b5|(injection b5 with ea_ en_ ec_;(first|subst ea_|(injection ea_ with ea_;subst ea_));subst ec_;clear en_));have c5:=zA b6;have d2:=zA b7;clear b6 c4 b7;have d3:=zA (show (a3 a7∨w.heap.size≤a7) from(a0.out.1 _ rfl));obtain⟨d4,d5⟩:=Kd.R_celln (⟨#[]⟩:ByteArray) a0.out (a2:Int) p6 q6;replace p6:=eq_true p6;replace q6:=eq_true q6;obtain⟨d6,d7⟩:=Kd.R_celln (⟨#[]⟩:ByteArray) a0.out (a2:Int) (zD) (zD);have b1:=Kd.R_putg a0.out (a2:Int) a8)|((with_reducible refine gate_store (t:=9) (p:=16) rfl ?_);refine store_event (t:=9) (p:=16) (v:=?vo_w10) (w1:=(w8.setCell ⟨a7,(a2:Int).toNat,none⟩ (.string a8))) ?hg ?ho ?hn ?hr ?_;(case ho=>rfl);(case hg=>rfl);(case hn=>rfl);(case hr=>first|(go_simp;done)|(go_simp;rfl));intro b2 hw;have hg:w8.grownBy b2 (some a7):=(by rw[hw];exact b1.2);have hp_:Kd.R Kd.string 9 b2 w0.heap.size (fun k_=>(a3 k_∨w.heap.size≤k_)) (.slice (some ⟨a7,0,none⟩) a5.length c2) a9:=(by rw[hw,c1.out];exact b1.1);clear b1;replace HB:=zA ((by rw[hw];exact below_set (HB.out) c5.out:Below w0.heap.size w0 b2));replace HK:=zA (Kept.of_grown (S:=(fun k_=>a3 k_)) hg (by repeat(first|(with_reducible first|exact HK.out|apply Kept.alloc|apply Kept.drewN|apply Kept.drew)|exact HK.out)) (fun k_ e_=>(a0.out.1 k_ e_)));replace a0:=zA (hp_);clear hg hw hp_))
    go_roundg k1
    case measure=>have:=b3.out;omega
    case rel=>exact⟨(a9),(wrap64 (a4+1)),(wrap64 (a2+1)),zS,zS,H',⟨by have:=b3.out;omega⟩,⟨zR a0.out⟩,⟨by repeat(first|(with_reducible first|exact HK.out|apply Kept.alloc|apply Kept.drewN|apply Kept.drew)|exact HK.out)⟩,⟨zB⟩⟩
   simp only[zU] at H;obtain⟨rfl,rfl⟩:=H;obtain⟨d8,d9,c6⟩:=Kd.R_slice a0.out;subst c6;go_wp2;go_ret;exact⟨zE,zR a0.out,zB,by repeat(first|(with_reducible first|exact HK.out|apply Kept.alloc|apply Kept.drewN|apply Kept.drew)|exact HK.out)⟩
/-! ### laws_markValS: function 36 -/
def laws_markValS.el (F_:List S29→Int→Option (Int × List S29)) (k:Nat) (x:S29) (n:Int):Option (Int × S29):=(laws_markText.f k (wrap64 ((wrap64 (n+1))+1))).bind fun t0=>(F_ x.f3 (wrap64 ((wrap64 ((wrap64 (n+1))+1))+1))).bind fun(z_:Int × _)=>(fun p3n p3l=>(laws_markStringS.f k x.f4 p3n).bind fun(z_:Int × _)=>(fun p4n p4l=>some (p4n,(⟨n,(wrap64 (n+1)),t0,p3l,p4l⟩:S29))) z_.1 z_.2) z_.1 z_.2
def laws_markValS.l (F_:List S29→Int→Option (Int × List S29)) (k:Nat):List S29→Int→Option (Int × List S29)
 | [],n=>some (n,[])
 | x :: r,n=>(laws_markValS.el F_ k x n).bind fun p=>(laws_markValS.l F_ k r p.1).bind fun q=>some (q.1,p.2 :: q.2)
def laws_markValS.f:Nat→List S29→Int→Option (Int × List S29)
 | 0,_,_=>none
 | k+1,l0,a1=>laws_markValS.l (laws_markValS.f k) k l0 a1
theorem laws_markValS.calls (k:Nat):∀ (a5:Nat→Prop) (b0:Value) (l0:List S29) (a1 r1:Int) (r2:List S29) (w0 w:World) (hB:Below w0.heap.size w0 w) (a9:Kd.S k29 29 w w0.heap.size a5 b0 l0) (h:laws_markValS.f k l0 a1=some (r1,r2)),
  Calls Try.prog 36 #[b0,.int .i64 a1] w fun e w'=>e=.returned (.int .i64 r1)∧Kd.S k29 29 w' w0.heap.size a5 b0 r2∧Below w0.heap.size w0 w'∧Kept w w' a5:=by
 induction k with
 | zero=>intro _ _ _ _ _ _ _ _ _ _ h;exact absurd h (by simp[laws_markValS.f])
 | succ k ih=>
 intro a5 b0 l0 a1 r1 r2 w0 w hB a9 h;have hu_:=Try.underlying27;obtain⟨A,c,rfl⟩:=Kd.S_slice a9;have HMAX:=zA (show l0.length≤9223372036854775807 from(Kd.S_reads' a9).2.2.2.1);have HO:=zA a9;have HK:=zA (Kept.refl w a5);have HB:=zA hB;clear hB a9;have H':=zA (show laws_markValS.l (laws_markValS.f k) k l0 a1=some (r1,r2) from h);clear h;go_enter Try.func36,Try.ntmps36;go_wp2;go_loopg [1,5] l0.length (fun gg v1 v5 w'=>∃ (kk:Nat) (x1 x5:Int) (done rest:List S29) (tl:List S29),v1=.int .i64 x1∧v5=.int .i64 x5∧x5=(kk:Int)∧l0.length-kk≤gg∧done.length=kk∧Aside0 (kk+rest.length=l0.length)∧Aside0 (laws_markValS.l (laws_markValS.f k) k rest x1=some (r1,tl))∧Aside0 (r2=done++tl)∧Aside0 (Kd.S k29 29 w' w0.heap.size a5 (.slice A l0.length c) (done++rest))∧Aside0 (Kept w w' a5)∧Aside0 (Below w0.heap.size w0 w'))
 case atStart=>exact⟨0,a1,0,[],l0,r2,rfl,rfl,rfl,by omega,rfl,⟨by omega⟩,H',⟨rfl⟩,⟨by(with_reducible repeat(first|apply Kd.S_alloc|apply Kd.S_drewN|apply Kd.S_drew));exact HO.out⟩,⟨by(repeat(first|(with_reducible first|exact HK.out|apply Kept.alloc|apply Kept.drewN|apply Kept.drew)|exact HK.out))⟩,⟨by(exact zW HB.out)⟩⟩
 case round=>
  clear HO HK HB H';obtain⟨kk,x1,x5,done,rest,tl,rfl,rfl,b5,hg,hdl,hrl,HA,b6,HO,HK,HB⟩:=hrel;cases rest with
  | nil=>
   have hlt:¬(x5<(l0.length:Int)):=by have:=hrl.out;simp at this;omega
   have H:=HA.out;simp only[laws_markValS.l,Option.some.injEq,Prod.mk.injEq] at H;obtain⟨rfl,rfl⟩:=H;have b9:=b6.out;subst b9;simp only[List.append_nil] at HO ⊢;have HOO:=HO;clear HO b5 hg hdl;have HO:=HOO;go_wp2;go_ret;exact⟨rfl,by(with_reducible repeat(first|apply Kd.S_alloc|apply Kd.S_drewN|apply Kd.S_drew));exact HO.out,by(exact zW HB.out),by(repeat(first|(with_reducible first|exact HK.out|apply Kept.alloc|apply Kept.drewN|apply Kept.drew)|exact HK.out))⟩
  | cons x rest=>
   have hltz:x5<(l0.length:Int):=by have:=hrl.out;simp at this;omega
   have h0z:0≤x5:=by omega
   have H:=HA.out;unfold laws_markValS.l at H;replace H:=Option.bind_eq_some_iff.mp H;obtain⟨⟨n1,x'⟩,hel,H⟩:=H;replace H:=Option.bind_eq_some_iff.mp H;obtain⟨⟨n2,b7⟩,hl,H⟩:=H;simp only[zU] at H;obtain⟨rfl,rfl⟩:=H;unfold laws_markValS.el at hel;replace hel:=Option.bind_eq_some_iff.mp hel;obtain⟨t0,h_t0,hel⟩:=hel;have A_t0:=zA (show laws_markText.f k (wrap64 ((wrap64 (x1+1))+1))=some t0 from h_t0);clear h_t0;replace hel:=Option.bind_eq_some_iff.mp hel;obtain⟨⟨p3n,p3l⟩,h_p3,hel⟩:=hel;have A_p3:=zA (show laws_markValS.f k x.f3 (wrap64 ((wrap64 ((wrap64 (x1+1))+1))+1))=some (p3n,p3l) from h_p3);clear h_p3;replace hel:=Option.bind_eq_some_iff.mp hel;obtain⟨⟨p4n,p4l⟩,h_p4,hel⟩:=hel;have A_p4:=zA (show laws_markStringS.f k x.f4 p3n=some (p4n,p4l) from h_p4);clear h_p4;replace hel:some (p4n,(⟨x1,(wrap64 (x1+1)),t0,p3l,p4l⟩:S29))=some (n1,x'):=hel;simp only[Option.some.injEq,Prod.mk.injEq] at hel;obtain⟨rfl,rfl⟩:=hel;have AL:=zA (show laws_markValS.l (laws_markValS.f k) k rest p4n=some (n2,b7) from hl);clear hl HA;have hlen:(done++x :: rest).length=l0.length:=by have:=hrl.out;simp at this;rw[List.length_append,List.length_cons];omega
   obtain⟨g,cap,eA,gb,-,-⟩:=Kd.S_form HO.out (by omega);injection eA with eA1 eA2 eA3;subst eA1;subst eA3;have b2:=zA (show x5=(done.length:Int) by omega);have HDL:=zA hdl;have HGG:=zA hg;have GB:=zA gb;clear eA2 hlen b5 hdl hg gb;obtain⟨oki,ce,hcl,hM,hcc,hfr,hoki,hH⟩:=Kd.S_elem HO.out z29 x5 h0z hltz;rw[Deep.get_next b2.out] at hM;obtain⟨v3,v4,Q,rfl,g3,g4⟩:=k29_openQ hM;obtain⟨A3,c3,rfl⟩:=Kd.S_slice g3;obtain⟨A4,c4,rfl⟩:=Kd.R_slice g4;have H3:=zA g3;have H4:=zA g4;have HH:=zA hH;have HOK:=zA hoki;clear HO hM hcl hcc hfr g3 g4 hH hoki;obtain⟨hcc,hfr⟩:=Deep.H_cells HH.out h0z hltz;have hx_:wr.cell? ⟨g,x5.toNat*5,none⟩=some (.int .i64 x.f0):=hcc 0 _ rfl;have hf_:wr.frozen? ⟨g,x5.toNat*5,none⟩=false:=hfr 0;clear hcc hfr;have h0b:=eq_true h0z;have hltb:=eq_true hltz
   go_wp2_with (first
    | ((with_reducible refine gate_store (t:=3) (p:=16) rfl ?_);refine store_event (t:=3) (p:=16) (v:=?voy1_) (w1:=(wr.setCell ⟨g,x5.toNat*5,none⟩ (.int .i64 x1))) ?hg ?ho ?hn ?hr ?_;(case ho=>rfl);(case hg=>rfl);(case hn=>rfl);(case hr=>first|(go_simp;done)|(go_simp;rfl));intro b1 hw;have hp:=Deep.H_put HH.out h0z hltz 0 (by decide) rfl rfl (u:=.int .i64 x1) hw;clear hx_ hf_;have a0:=zA hp.1;have a2:=zA (Kd.S_grown H3.out hp.2 (fun k_ hk e_=>(HOK.out k_ hk.1).2 (Option.some.inj e_)));have a3:=zA (Kd.R_grown H4.out hp.2 (fun k_ hk e_=>(HOK.out k_ hk.1).2 (Option.some.inj e_)));have a4:=zA (Kept.of_grown (S:=a5) hp.2 HK.out (fun k_ e_=>.inl (Option.some.inj e_ ▸ (Deep.H_own HH.out).1)));have a6:=zA (show Below w0.heap.size w0 b1 from by rw[hw];exact below_set HB.out GB.out);clear HH H3 H4 HK HB hp hw;have HH:=a0;have HK:=a4;have HB:=a6;clear a0 a4 a6;have H3:=a2;clear a2;have H4:=a3;clear a3;obtain⟨hcc,hfr⟩:=Deep.H_cells HH.out h0z hltz;have hx_:b1.cell? ⟨g,x5.toNat*5+1,none⟩=some (.int .i64 x.f1):=hcc 1 _ rfl;have hf_:b1.frozen? ⟨g,x5.toNat*5+1,none⟩=false:=hfr 1;clear hcc hfr)
    | ((with_reducible refine gate_store (t:=3) (p:=23) rfl ?_);refine store_event (t:=3) (p:=23) (v:=?voy2_) (w1:=(b1.setCell ⟨g,x5.toNat*5+1,none⟩ (.int .i64 (wrap64 (x1+1))))) ?hg ?ho ?hn ?hr ?_;(case ho=>rfl);(case hg=>rfl);(case hn=>rfl);(case hr=>first|(go_simp;done)|(go_simp;rfl));intro c0 hw;have hp:=Deep.H_put HH.out h0z hltz 1 (by decide) rfl rfl (u:=.int .i64 (wrap64 (x1+1))) hw;clear hx_ hf_;have a0:=zA hp.1;have a2:=zA (Kd.S_grown H3.out hp.2 (fun k_ hk e_=>(HOK.out k_ hk.1).2 (Option.some.inj e_)));have a3:=zA (Kd.R_grown H4.out hp.2 (fun k_ hk e_=>(HOK.out k_ hk.1).2 (Option.some.inj e_)));have a4:=zA (Kept.of_grown (S:=a5) hp.2 HK.out (fun k_ e_=>.inl (Option.some.inj e_ ▸ (Deep.H_own HH.out).1)));have a6:=zA (show Below w0.heap.size w0 c0 from by rw[hw];exact below_set HB.out GB.out);clear HH H3 H4 HK HB hp hw;have HH:=a0;have HK:=a4;have HB:=a6;clear a0 a4 a6;have H3:=a2;clear a2;have H4:=a3;clear a3;skip)
    | ((with_reducible refine gate_callee (f:=60) rfl ?_);refine goesL_ (some 29) rfl rfl Try.func60 (by kernel_rfl) rfl #[.int .i64 (wrap64 ((wrap64 (x1+1))+1))] rfl (by(try simp only[List.map_toArray,List.map_cons,List.map_nil]);first|done|rfl) ?_;(with_reducible refine(laws_markText.calls k (wrap64 ((wrap64 (x1+1))+1)) t0 _ A_t0.out).mono ?_);rintro e b3 ⟨rfl,hb⟩;refine⟨_,rfl,?_⟩;have a0:=zA (Kd.H_below HH.out hb);have a7:=zA (Kept.below HK.out hb);have a8:=zA (below_step HB.out hb);have a2:=zA (Kd.S_below H3.out hb);have a3:=zA (Kd.R_below H4.out hb);clear HH HK HB H3 H4 A_t0;have HH:=a0;have HK:=a7;have HB:=a8;have H3:=a2;clear a2;have H4:=a3;clear a3;clear a0 a7 a8 hb;obtain⟨hcc,hfr⟩:=Deep.H_cells HH.out h0z hltz;have hx_:b3.cell? ⟨g,x5.toNat*5+2,none⟩=some (.string x.f2):=hcc 2 _ rfl;have hf_:b3.frozen? ⟨g,x5.toNat*5+2,none⟩=false:=hfr 2;clear hcc hfr)
    | ((with_reducible refine gate_store (t:=9) (p:=31) rfl ?_);refine store_event (t:=9) (p:=31) (v:=?voy4_) (w1:=(b3.setCell ⟨g,x5.toNat*5+2,none⟩ (.string t0))) ?hg ?ho ?hn ?hr ?_;(case ho=>rfl);(case hg=>rfl);(case hn=>rfl);(case hr=>first|(go_simp;done)|(go_simp;rfl));intro b4 hw;have hp:=Deep.H_put HH.out h0z hltz 2 (by decide) rfl rfl (u:=.string t0) hw;clear hx_ hf_;have a0:=zA hp.1;have a2:=zA (Kd.S_grown H3.out hp.2 (fun k_ hk e_=>(HOK.out k_ hk.1).2 (Option.some.inj e_)));have a3:=zA (Kd.R_grown H4.out hp.2 (fun k_ hk e_=>(HOK.out k_ hk.1).2 (Option.some.inj e_)));have a4:=zA (Kept.of_grown (S:=a5) hp.2 HK.out (fun k_ e_=>.inl (Option.some.inj e_ ▸ (Deep.H_own HH.out).1)));have a6:=zA (show Below w0.heap.size w0 b4 from by rw[hw];exact below_set HB.out GB.out);clear HH H3 H4 HK HB hp hw;have HH:=a0;have HK:=a4;have HB:=a6;clear a0 a4 a6;have H3:=a2;clear a2;have H4:=a3;clear a3;obtain⟨hcc,hfr⟩:=Deep.H_cells HH.out h0z hltz;have hx_:b4.cell? ⟨g,x5.toNat*5+3,none⟩=some (.slice A3 x.f3.length c3):=hcc 3 _ rfl;have hf_:b4.frozen? ⟨g,x5.toNat*5+3,none⟩=false:=hfr 3;clear hcc hfr)
    | ((with_reducible refine gate_callee (f:=36) rfl ?_);refine goesL_ (some 40) rfl rfl Try.func36 (by kernel_rfl) rfl #[.slice A3 x.f3.length c3,.int .i64 (wrap64 ((wrap64 ((wrap64 (x1+1))+1))+1))] rfl (by(try simp only[List.map_toArray,List.map_cons,List.map_nil]);first|done|rfl) ?_;(with_reducible refine(ih (fun k_=>oki k_∧Q k_) (.slice A3 x.f3.length c3) _ (wrap64 ((wrap64 ((wrap64 (x1+1))+1))+1)) p3n p3l w0 _ (by(exact zW HB.out)) H3.out A_p3.out).mono ?_);rintro e b8 ⟨rfl,ho,hb,hkp⟩;refine⟨_,rfl,?_⟩;have hsub:∀ k_,(oki k_∧Q k_)→oki k_:=fun k_ hk=>hk.1;have a0:=zA (Deep.H_call HH.out hkp hsub);have a7:=zA ho;have a8:=zA (Kept.then_ HK.out hkp (fun k_ hk=>.inl (HOK.out k_ hk.1).1));have a4:=zA hb;have a3:=zA (Kd.R_kept H4.out hkp (fun k_ hk' hP_=>hk'.2 hP_.2));clear HH H3 HK HB ho hb hkp hsub hx_ hf_ H4;have HH:=a0;have H3:=a7;have HK:=a8;have HB:=a4;clear a0 a7 a8 a4;have H4:=a3;clear a3;obtain⟨hcc,hfr⟩:=Deep.H_cells HH.out h0z hltz;have hx_:b8.cell? ⟨g,x5.toNat*5+4,none⟩=some (.slice A4 x.f4.length c4):=hcc 4 _ rfl;have hf_:b8.frozen? ⟨g,x5.toNat*5+4,none⟩=false:=hfr 4;clear hcc hfr)
    | ((with_reducible refine gate_callee (f:=37) rfl ?_);refine goesL_ (some 47) rfl rfl Try.func37 (by kernel_rfl) rfl #[.slice A4 x.f4.length c4,.int .i64 p3n] rfl (by(try simp only[List.map_toArray,List.map_cons,List.map_nil]);first|done|rfl) ?_;(with_reducible refine(laws_markStringS.calls k (fun k_=>some k_=(.slice A4 x.f4.length c4:Value).ownBlock) (.slice A4 x.f4.length c4) _ p3n p4n p4l w0 _ (by(exact zW HB.out)) (Deep.R_flat rfl H4.out) A_p4.out).mono ?_);rintro e c1 ⟨rfl,ho,hb,hkp⟩;refine⟨_,rfl,?_⟩;have hsub:∀ k_,some k_=(.slice A4 x.f4.length c4:Value).ownBlock→(oki k_∧¬Q k_):=fun k_ hk=>H4.out.1 k_ hk.symm;have a0:=zA (Deep.H_call HH.out hkp (fun k_ hk=>(hsub k_ hk).1));have a7:=zA (Deep.R_back (Q:=fun k_=>oki k_∧¬Q k_) rfl ho (fun k_ hk=>hsub k_ hk.symm));have a8:=zA (Kept.then_ HK.out hkp (fun k_ hk=>.inl (HOK.out k_ (hsub k_ hk).1).1));have a4:=zA hb;have a2:=zA (Kd.S_kept H3.out hkp (fun k_ hk' hP_=>(hsub k_ hP_).2 hk'.2));clear HH H4 HK HB ho hb hkp hsub hx_ hf_ H3;have HH:=a0;have H4:=a7;have HK:=a8;have HB:=a4;clear a0 a7 a8 a4;have H3:=a2;clear a2;skip))
   have hS:=Kd.H_back HH.out (x':=(⟨x1,(wrap64 (x1+1)),t0,p3l,p4l⟩:S29)) (k29_mkQ _ _ _ _ Q H3.out H4.out) (fun _ hk=>hk);rw[Deep.set_next b2.out] at hS;have HS:=zA hS;clear hS;go_roundg (l0.length-(kk+1))
   case measure=>have:=HGG.out;have:=hrl.out;rw[List.length_cons] at this;omega
   case rel=>exact⟨kk+1,_,wrap64 (x5+1),done++[_],rest,b7,rfl,rfl,by have:=b2.out;have:=HDL.out;have:=HMAX.out;unfold wrap64;omega,Nat.le_refl _,by rw[List.length_append,HDL.out];rfl,⟨by have:=hrl.out;rw[List.length_cons] at this;omega⟩,AL,⟨by rw[b6.out,List.append_assoc];rfl⟩,HS,HK,HB⟩
/-! ### laws_markVal: function 11 -/
def laws_markVal.f (k:Nat) (a0 a2:Int) (a3:ByteArray) (l0:List S29) (l1:List ByteArray) (a1:Int):Option (Int × List S29 × List ByteArray):=(laws_markValS.f k l0 a1).bind fun p=>(laws_markStringS.f k l1 p.1).bind fun q=>some (q.1,p.2,q.2)
set_option maxHeartbeats 2000000 in
set_option maxRecDepth 100000 in
theorem laws_markVal.calls (k:Nat) (a3 a4:Int) (a5:ByteArray) (a0:Nat→Prop) (a7:Value) (l0:List S29) (a2:Nat→Prop) (a6:Value) (l1:List ByteArray) (a1 r1:Int) (r2:List S29) (r3:List ByteArray) (w0 w:World) (hB:Below w0.heap.size w0 w) (a8:Kd.S k29 29 w w0.heap.size (fun k_=>a0 k_∧some k_≠a6.ownBlock) a7 l0) (a9:Kd.R Kd.string 9 w w0.heap.size a2 a6 l1) (h:laws_markVal.f k a3 a4 a5 l0 l1 a1=some (r1,r2,r3)) :
  Calls Try.prog 11 #[.agg #[.int .i64 a3,.int .i64 a4,.string a5,a7,a6],.int .i64 a1] w fun e w'=>e=.returned (.int .i64 r1)∧Kd.S k29 29 w' w0.heap.size a0 a7 r2∧Kd.R Kd.string 9 w' w0.heap.size (fun k_=>((a0 k_∨a2 k_)∨w.heap.size≤k_)) a6 r3∧Below w0.heap.size w0 w'∧Kept w w' (fun k_=>a0 k_∨a2 k_):=by
 unfold laws_markVal.f at h;replace h:=Option.bind_eq_some_iff.mp h;obtain⟨⟨n1,l0'⟩,h1,h⟩:=h;replace h:=Option.bind_eq_some_iff.mp h;obtain⟨⟨n2,l1'⟩,h2,h⟩:=h;simp only[Option.some.injEq,Prod.mk.injEq] at h;obtain⟨rfl,rfl,rfl⟩:=h;have hu_:=Try.underlying29;obtain⟨A0,c0,rfl⟩:=Kd.S_slice a8;obtain⟨A1,c1,rfl⟩:=Kd.R_slice a9;have H1:=zA h1;have H2:=zA h2;have HB:=zA (below_alloc hB (.cells #[.int .i64 a3,.int .i64 a4,.string a5,.slice A0 l0.length c0,.slice A1 l1.length c1] 29));have hnew:=blk_new w (.cells #[.int .i64 a3,.int .i64 a4,.string a5,.slice A0 l0.length c0,.slice A1 l1.length c1] 29 (0,0));have b2:=zA (Kd.S_mono (ok':=fun k_=>(a0 k_∧some k_≠(.slice A1 l1.length c1:Value).ownBlock)∧k_<w.heap.size) (Kd.S_bound a8) (fun k_ hk=>⟨hk.1,hk.2.2.1⟩));have b1:=zA (Kd.R_mono (ok':=fun k_=>a2 k_∧k_<w.heap.size) (Kd.R_bound a9) (fun k_ hk=>⟨hk.1,hk.2.2.1⟩));have HN:=zA hnew;clear hnew a8 a9 hB h1 h2;go_enter Try.func11,Try.ntmps11;go_wp2_with fail
 (with_reducible refine(laws_markValS.calls k (fun k_=>(a0 k_∧some k_≠(.slice A1 l1.length c1:Value).ownBlock)∧k_<w.heap.size) (.slice A0 l0.length c0) l0 a1 n1 l0' w0 _ HB.out (Kd.S_alloc b2.out _) H1.out).mono ?_);rintro e w2 ⟨rfl,ho,hb,hkp⟩;have b0:w2.heap[w.heap.size]?=some (.cells #[.int .i64 a3,.int .i64 a4,.string a5,.slice A0 l0.length c0,.slice A1 l1.length c1] 29 (0,0)):=blk_kept HN.out hkp (fun hk=>Nat.lt_irrefl _ hk.2);have b3:w2.cell? ⟨w.heap.size,4,none⟩=some (.slice A1 l1.length c1):=(blk_cell b0 4).trans rfl;have M1:=zA (Kd.R_kept (Kd.R_tight rfl (Kd.R_alloc b1.out _)) hkp (fun k_ hk hP=>hP.1.2 hk));have M0:=zA ho;have MB:=zA hb;have MK:=zA (Kept.mono ((Kept.alloc (Kept.refl w _) _).then_ hkp (fun k_ hk=>.inl hk)) (S':=fun k_=>(a0 k_∨a2 k_)∧k_<w.heap.size) (fun k_ hk=>⟨.inl hk.1.1,hk.2⟩));have hz:=hkp.1;have hz':w.heap.size<w2.heap.size:=blk_lt b0;clear ho hb hkp b0;go_wp2_with fail
 (with_reducible refine(laws_markStringS.calls k (fun k_=>some k_=(.slice A1 l1.length c1:Value).ownBlock) (.slice A1 l1.length c1) l1 n1 n2 l1' w0 _ MB.out M1.out H2.out).mono ?_);rintro e w3 ⟨rfl,ho,hb,hkp⟩;have hsub:∀ k_,some k_=(.slice A1 l1.length c1:Value).ownBlock→a2 k_∧k_<w.heap.size:=fun k_ hk=>b1.out.1 k_ hk.symm;have F0:=zA (Kd.S_mono (Kd.S_kept M0.out hkp (fun k_ hk hP=>hk.1.2 hP)) (ok':=a0) (fun k_ hk=>hk.1.1));have F1:=zA (Deep.R_back (Q:=fun k_=>(a0 k_∨a2 k_)∨w.heap.size≤k_) rfl ho (fun k_ hk=>.inl (.inr (hsub k_ hk.symm).1)));have FK:=zA (Kept.mono (MK.out.then_ hkp (fun k_ hk=>.inl ⟨.inr (hsub k_ hk).1,(hsub k_ hk).2⟩)) (S':=fun k_=>a0 k_∨a2 k_) (fun k_ hk=>hk.1));have FB:=zA hb;clear ho hb hkp hsub;go_wp2;go_ret;exact⟨rfl,F0.out,F1.out,FB.out,FK.out⟩
/-! ### laws_heldStringS: function 39 -/
def laws_heldStringS.l0:Nat→List ByteArray→Int→Int→Option (Int)
 | 0,_,_,_=>none
 | k+1,x0,x1,x5=>if x5<(x0.length:Int) then (if 0≤x5 then ((laws_markText.f k x1).bind fun a0=>(if (rdOf ByteArray.empty x0 x5).toList=a0.toList then (laws_heldStringS.l0 k x0 (wrap64 (x1+1)) (wrap64 (x5+1))) else (some (-1)))) else (none)) else (some x1)
def laws_heldStringS.f (k:Nat) (l0:List ByteArray) (a1:Int):Option (Int):=laws_heldStringS.l0 k l0 a1 0
theorem laws_heldStringS.calls (k:Nat) (A0:Option Addr) (c0:Nat) (l0:List ByteArray) (a1 r:Int) (w:World) (a9:Kd.C Kd.string w A0 l0.length l0) (b0:l0.length≤c0) (h:laws_heldStringS.f k l0 a1=some r) :
  Calls Try.prog 39 #[.slice A0 l0.length c0,.int .i64 a1] w fun e w'=>e=.returned (.int .i64 r)∧Below w.heap.size w w':=by
 have b1:=zA a9;have b8:=zA b0;clear a9 b0;have HB:=zA (Below.refl w.heap.size w);unfold laws_heldStringS.f at h;have H:=h;clear h;have H':=zA H;clear H;go_enter Try.func39,Try.ntmps39;go_wp2;go_loopg [1,5] k (fun kq v1 v5 w'=>∃ (a4:Int) (a0:Int),v1=.int .i64 a4∧v5=.int .i64 a0∧Aside0 (laws_heldStringS.l0 kq l0 a4 a0=some r)∧Aside0 (kq≤k)∧Aside0 (Below w.heap.size w w'))
 case atStart=>exact⟨(a1),(0),zS,zS,H',⟨Nat.le_refl _⟩,⟨zB⟩⟩
 case round=>
  clear H';obtain⟨a4,a0,rfl,rfl,HA,b2,HB⟩:=hrel;cases gk with
  | zero=>exact absurd HA.out (by simp[laws_heldStringS.l0])
  | succ k1=>
   have H:=HA.out;clear HA;simp only[laws_heldStringS.l0] at H;replace H:=zI0 H;rcases H with ⟨b5,H⟩|⟨b5,H⟩
   ·replace H:=zD0 H;obtain⟨b9,H⟩:=H;replace H:=Option.bind_eq_some_iff.mp H;obtain⟨b3,b4,H⟩:=H;(try dsimp only at H);have A5:=zA b4;clear b4;replace H:=zI1 H;rcases H with ⟨c6,H⟩|⟨c6,H⟩
    ·have b6:=beq_iff_eq.mpr c6;have b7:=bne_eq_false_iff_eq.mpr c6;clear c6;have H':=zA H;clear H;(try go_wp2);replace HB:=zA (below_drew1 HB.out);have a5:0≤(a0:Int):=zD;have a6:a0<(l0.length:Int):=zD;obtain⟨a7,a8,a2⟩:=Kd.at_string b1.out a0 a5 a6;have a3:=a2;cases a8;replace a2:=zx HB a2;replace a5:=eq_true a5;replace a6:=eq_true a6;refine start_ (n:=7) (S:=fun w'=>w'.cell? (a7.add (a0).toNat)=some (.string (rdOf ByteArray.empty l0 a0))) (ds:=[]) (Array.replicate 7 false) (by kernel_rfl) rfl rfl (((HB.out.cell (World.block_lt_of_cell? w _ a3)).trans a3)) (fun hHeld=>?_);generalize wr.drew=w7 at HB a2 hHeld ⊢;refine zp 0 12 ?_;refine zp 1 13 ?_;refine zp 2 14 ?_;refine zp 4 16 ?_;refine take_ (i:=3) (N:=some 15) (v:=?_) (a':=?_) #[true,true,true,true,true,false,false] rfl rfl (by kernel_rfl) (fun _ _ _ h=>h) (Or.inl ⟨by rfl,?_⟩) hHeld ?_ ?_;rotate_left
     ·intro w' s0;go_simp;(with_reducible rfl)
     rotate_left
     ·simp only[Act.put,zT,i64_w,i32_w];rfl
     refine zo 5 (some 17) fun K hK=>?_;refine goes_ Try.func60 (by kernel_rfl) rfl #[.int .i64 a4] (by rfl) rfl rfl zM ?_;(with_reducible refine(laws_markText.calls k1 a4 b3 _ A5.out).mono ?_);rintro e w8 ⟨rfl,hb⟩;refine⟨_,rfl,?_⟩;replace HB:=zA (below_step (zB) hb);(try clear hb);refine hK.out _ _ (((HB.out.cell (World.block_lt_of_cell? w _ a3)).trans a3)) (fun hHeld=>?_);clear hK K;refine zn ?_;refine zp 6 18 ?_;refine done_ (by kernel_rfl) ?_;(try go_wp2);go_roundg k1
     case measure=>have:=b2.out;omega
     case rel=>exact⟨(wrap64 (a4+1)),(wrap64 (a0+1)),zS,zS,H',⟨by have:=b2.out;omega⟩,⟨zB⟩⟩
    have b6:=beq_eq_false_iff_ne.mpr c6;have b7:=bne_iff_ne.mpr c6;obtain rfl:=zm H;(try go_wp2);replace HB:=zA (below_drew1 HB.out);have a5:0≤(a0:Int):=zD;have a6:a0<(l0.length:Int):=zD;obtain⟨a7,a8,a2⟩:=Kd.at_string b1.out a0 a5 a6;have a3:=a2;cases a8;replace a2:=zx HB a2;replace a5:=eq_true a5;replace a6:=eq_true a6;refine start_ (n:=7) (S:=fun w'=>w'.cell? (a7.add (a0).toNat)=some (.string (rdOf ByteArray.empty l0 a0))) (ds:=[]) (Array.replicate 7 false) (by kernel_rfl) rfl rfl (((HB.out.cell (World.block_lt_of_cell? w _ a3)).trans a3)) (fun hHeld=>?_);generalize wr.drew=w9 at HB a2 hHeld ⊢;refine zp 0 12 ?_;refine zp 1 13 ?_;refine zp 2 14 ?_;refine zp 4 16 ?_;refine take_ (i:=3) (N:=some 15) (v:=?_) (a':=?_) #[true,true,true,true,true,false,false] rfl rfl (by kernel_rfl) (fun _ _ _ h=>h) (Or.inl ⟨by rfl,?_⟩) hHeld ?_ ?_;rotate_left
    ·intro w' s0;go_simp;(with_reducible rfl)
    rotate_left
    ·simp only[Act.put,zT,i64_w,i32_w];rfl
    refine zo 5 (some 17) fun K hK=>?_;refine goes_ Try.func60 (by kernel_rfl) rfl #[.int .i64 a4] (by rfl) rfl rfl zM ?_;(with_reducible refine(laws_markText.calls k1 a4 b3 _ A5.out).mono ?_);rintro e c1 ⟨rfl,hb⟩;refine⟨_,rfl,?_⟩;replace HB:=zA (below_step (zB) hb);(try clear hb);refine hK.out _ _ (((HB.out.cell (World.block_lt_of_cell? w _ a3)).trans a3)) (fun hHeld=>?_);clear hK K;refine zn ?_;refine zp 6 18 ?_;refine done_ (by kernel_rfl) ?_;(try go_wp2);go_ret;exact⟨zE,zB⟩
   obtain rfl:=zm H;go_wp2;go_ret;exact⟨zE,zB⟩
/-! ### laws_heldValS: function 38 -/
mutual
def laws_heldValS.l0:Nat→List (S29)→Int→Int→Option (Int)
 | 0,_,_,_=>none
 | k+1,x0,x1,x5=>if x5<(x0.length:Int) then (laws_heldValS.j1 k x0 x1 x5) else (some x1)
def laws_heldValS.j1:Nat→List (S29)→Int→Int→Option (Int)
 | 0,_,_,_=>none
 | k+1,x0,x1,x5=>if 0≤x5 then (if x5<(x0.length:Int) then (if ((rd_T29 x0 x5).f0)=x1 then (laws_heldValS.j2 k x0 x1 x5) else (some (-1))) else (none)) else (none)
def laws_heldValS.j2:Nat→List (S29)→Int→Int→Option (Int)
 | 0,_,_,_=>none
 | k+1,x0,x1,x5=>if 0≤x5 then (if x5<(x0.length:Int) then (if ((rd_T29 x0 x5).f1)=(wrap64 (x1+1)) then (laws_heldValS.j3 k x0 (wrap64 (x1+1)) x5) else (some (-1))) else (none)) else (none)
def laws_heldValS.j3:Nat→List (S29)→Int→Int→Option (Int)
 | 0,_,_,_=>none
 | k+1,x0,x1,x5=>if 0≤x5 then (if x5<(x0.length:Int) then ((laws_markText.f k (wrap64 (x1+1))).bind fun a3=>(if ((rd_T29 x0 x5).f2).toList=a3.toList then (laws_heldValS.j4 k x0 (wrap64 (x1+1)) x5) else (some (-1)))) else (none)) else (none)
def laws_heldValS.j4:Nat→List (S29)→Int→Int→Option (Int)
 | 0,_,_,_=>none
 | k+1,x0,x1,x5=>if 0≤x5 then (if x5<(x0.length:Int) then ((laws_heldValS.f k ((rd_T29 x0 x5).f3) (wrap64 (x1+1))).bind fun a0=>(if a0<0 then (some (-1)) else ((laws_heldStringS.f k ((rd_T29 x0 x5).f4) a0).bind fun a2=>(if a2<0 then (some (-1)) else (laws_heldValS.l0 k x0 a2 (wrap64 (x5+1))))))) else (none)) else (none)
def laws_heldValS.f:Nat→List (S29)→Int→Option (Int)
 | 0,_,_=>none
 | k+1,l0,a1=>laws_heldValS.l0 k l0 a1 0
end
def laws_heldValS.T10:Bool × List (List Nat × List Nat):=(true,[([],[]),([],[]),([0,1],[0,1]),([2],[2]),([3],[3]),([],[]),([5],[5]),([4,6],[4,6])])
def laws_heldValS.B10:List Nat:=[0,0,3,7,15,0,32,127]
theorem laws_heldValS.tab10:rtab .any (opsOf Try.f38 10)=laws_heldValS.T10:=by kernel_rfl
theorem laws_heldValS.bits10:waitsOk laws_heldValS.T10.2 laws_heldValS.B10=true:=by kernel_rfl
theorem laws_heldValS.calls (k:Nat):∀ (A0:Option Addr) (c0:Nat) (l0:List (S29)) (a1 r:Int) (w:World) (i1:Kd.C k29 w A0 l0.length l0) (i2:l0.length≤c0) (h:laws_heldValS.f k l0 a1=some r),
  Calls Try.prog 38 #[.slice A0 l0.length c0,.int .i64 a1] w fun e w'=>e=.returned (.int .i64 r)∧Below w.heap.size w w':=by
 induction k using Nat.strongRecOn with
 | _ k ih=>
 intro A0 c0 l0 a1 r w i1 i2 h;cases k with
 | zero=>exact absurd h (by simp[laws_heldValS.f])
 | succ k=>
 simp only[laws_heldValS.f] at h;have a8:=zA i1;have p3:=zA i2;clear i1 i2;have HB:=zA (Below.refl w.heap.size w);have H:=h;clear h;have H':=zA H;clear H;go_enter Try.func38,Try.ntmps38;go_wp2;go_loopg [1,5] k (fun kq v1 v5 w'=>∃ (a3:Int) (a0:Int),v1=.int .i64 a3∧v5=.int .i64 a0∧Aside0 (laws_heldValS.l0 kq l0 a3 a0=some r)∧Aside0 (kq≤k)∧Aside0 (Below w.heap.size w w'))
 case atStart=>exact⟨(a1),(0),zS,zS,H',⟨Nat.le_refl _⟩,⟨zB⟩⟩
 case round=>
  clear H';obtain⟨a3,a0,rfl,rfl,HA,a6,HB⟩:=hrel;cases gk with
  | zero=>exact absurd HA.out (by simp[laws_heldValS.l0])
  | succ k1=>
   have H:=HA.out;clear HA;simp only[laws_heldValS.l0] at H;have i3:=zA H;clear H;go_upto_if 9 with (fail)
   go_cut [] (fun wc=>∃ (kq:Nat),Aside0 (laws_heldValS.j1 kq l0 a3 a0=some r)∧Aside0 (kq≤k1)∧Aside0 (Below w.heap.size w wc))
   case first=>
    have H:=i3.out;clear i3;replace H:=zI0 H;rcases H with ⟨a7,H⟩|⟨a7,H⟩
    ·(first|rw[a7]|(simp only[i64_w,i32_w];rw[a7])|skip);have H':=zA H;clear H;go_wp2;go_meet
     case rel=>exact⟨_,(by first|exact H'|(subst_vars;exact H')),⟨by have:=a6.out;first|omega|exact Nat.le_refl _⟩,⟨zB⟩⟩
    (first|rw[a7]|(simp only[i64_w,i32_w];rw[a7])|skip);obtain rfl:=zm H;go_wp2;go_ret;exact⟨zE,zB⟩
   case rest=>
    clear i3;obtain⟨kq,HA,a9,HB⟩:=hcut;cases kq with
    | zero=>exact absurd HA.out (by simp[laws_heldValS.j1])
    | succ m8=>
     have H:=HA.out;clear HA;simp only[laws_heldValS.j1] at H;replace H:=zD0 H;obtain⟨i4,H⟩:=H;replace H:=zD0 H;obtain⟨i5,H⟩:=H;have i6:=zA H;clear H;have d5:0≤(a0:Int):=zD;have d6:a0<(l0.length:Int):=zD;obtain⟨a2,p4,p5,p7,p8,m9,e0,e1,e2,e3,e4,k3,k4,k5,k6⟩:=at_T29 a8.out a0 d5 d6;cases m9;replace e0:=zx HB e0;replace e1:=zx HB e1;replace e2:=zx HB e2;replace e3:=zx HB e3;replace e4:=zx HB e4;have p9:=zA k4;have q0:=zA k3;clear k4 k3;have q2:=zA k6;have q3:=zA k5;clear k6 k5;replace d5:=eq_true d5;replace d6:=eq_true d6;go_upto_if 18 with (fail)
     go_cut [] (fun wc=>∃ (kq:Nat),Aside0 (laws_heldValS.j2 kq l0 a3 a0=some r)∧Aside0 (kq≤m8)∧Aside0 (Below w.heap.size w wc))
     case first=>
      have H:=i6.out;clear i6;replace H:=zI1 H;rcases H with ⟨c8,H⟩|⟨c8,H⟩
      ·have b0:=beq_iff_eq.mpr c8;have h3:=bne_eq_false_iff_eq.mpr c8;clear c8;(first|rw[b0]|(simp only[i64_w,i32_w];rw[b0])|skip);have H':=zA H;clear H;go_wp2;go_meet
       case rel=>exact⟨_,(by first|exact H'|(subst_vars;exact H')),⟨by have:=a6.out;have:=a9.out;first|omega|exact Nat.le_refl _⟩,⟨zB⟩⟩
      have b0:=beq_eq_false_iff_ne.mpr c8;have h3:=bne_iff_ne.mpr c8;(first|rw[b0]|(simp only[i64_w,i32_w];rw[b0])|skip);obtain rfl:=zm H;go_wp2;go_ret;exact⟨zE,zB⟩
     case rest=>
      clear i6;(try clear i4);(try clear i5);(try clear e0);(try clear e1);(try clear e2);(try clear e3);(try clear e4);(try clear d5);(try clear d6);obtain⟨kq,HA,c7,HB⟩:=hcut;cases kq with
      | zero=>exact absurd HA.out (by simp[laws_heldValS.j2])
      | succ n0=>
       have H:=HA.out;clear HA;simp only[laws_heldValS.j2] at H;replace H:=zD0 H;obtain⟨k7,H⟩:=H;replace H:=zD0 H;obtain⟨k8,H⟩:=H;have i7:=zA H;clear H;have e5:0≤(a0:Int):=zD;have e6:a0<(l0.length:Int):=zD;obtain⟨n1,q4,q5,q6,q7,n2,h4,h5,h6,h7,h8,k9,l1,l2,l3⟩:=at_T29 a8.out a0 e5 e6;obtain rfl:a2=n1:=(by injection n2);replace h4:=zx HB h4;replace h5:=zx HB h5;replace h6:=zx HB h6;replace h7:=zx HB h7;replace h8:=zx HB h8;have q8:=zA l1;have q9:=zA k9;clear l1 k9;have r0:=zA l3;have r1:=zA l2;clear l3 l2;replace e5:=eq_true e5;replace e6:=eq_true e6;go_upto_if 27 with (fail)
       go_cut [] (fun wc=>∃ (kq:Nat),Aside0 (laws_heldValS.j3 kq l0 (wrap64 (a3+1)) a0=some r)∧Aside0 (kq≤n0)∧Aside0 (Below w.heap.size w wc))
       case first=>
        have H:=i7.out;clear i7;replace H:=zI1 H;rcases H with ⟨b1,H⟩|⟨b1,H⟩
        ·have d0:=beq_iff_eq.mpr b1;have i8:=bne_eq_false_iff_eq.mpr b1;clear b1;(first|rw[d0]|(simp only[i64_w,i32_w];rw[d0])|skip);have H':=zA H;clear H;go_wp2;go_meet
         case rel=>exact⟨_,(by first|exact H'|(subst_vars;exact H')),⟨by have:=a6.out;have:=a9.out;have:=c7.out;first|omega|exact Nat.le_refl _⟩,⟨zB⟩⟩
        have d0:=beq_eq_false_iff_ne.mpr b1;have i8:=bne_iff_ne.mpr b1;(first|rw[d0]|(simp only[i64_w,i32_w];rw[d0])|skip);obtain rfl:=zm H;go_wp2;go_ret;exact⟨zE,zB⟩
       case rest=>
        clear i7;(try clear k7);(try clear k8);(try clear h4);(try clear h5);(try clear h6);(try clear h7);(try clear h8);(try clear e5);(try clear e6);obtain⟨kq,HA,d7,HB⟩:=hcut;cases kq with
        | zero=>exact absurd HA.out (by simp[laws_heldValS.j3])
        | succ l4=>
         have H:=HA.out;clear HA;simp only[laws_heldValS.j3] at H;replace H:=zD0 H;obtain⟨n3,H⟩:=H;replace H:=zD0 H;obtain⟨n4,H⟩:=H;replace H:=Option.bind_eq_some_iff.mp H;obtain⟨n5,l5,H⟩:=H;(try dsimp only at H);have n6:=zA l5;clear l5;have i9:=zA H;clear H;(try go_wp2);replace HB:=zA (below_drew1 HB.out);have h9:0≤(a0:Int):=zD;have i0:a0<(l0.length:Int):=zD;obtain⟨n7,n8,n9,o0,o1,o2,e7,e8,e9,f5,f6,l6,l7,l8,l9⟩:=at_T29 a8.out a0 h9 i0;have r2:=f6;have r3:=f5;have r4:=e9;have r5:=e8;have r6:=e7;obtain rfl:a2=n7:=(by injection o2);replace e7:=zx HB e7;replace e8:=zx HB e8;replace e9:=zx HB e9;replace f5:=zx HB f5;replace f6:=zx HB f6;have o3:=zA l7;have r7:=zA l6;clear l7 l6;have o4:=zA l9;have r8:=zA l8;clear l9 l8;replace h9:=eq_true h9;replace i0:=eq_true i0;refine start_ (n:=8) (S:=fun w'=>w'.cell? (a2.add ((a0).toNat*5))=some (.int .i64 ((rd_T29 l0 a0).f0))∧w'.cell? ⟨(a2.add ((a0).toNat*5)).block,(a2.add ((a0).toNat*5)).off+1,none⟩=some (.int .i64 ((rd_T29 l0 a0).f1))∧w'.cell? ⟨(a2.add ((a0).toNat*5)).block,(a2.add ((a0).toNat*5)).off+2,none⟩=some (.string ((rd_T29 l0 a0).f2))∧w'.cell? ⟨(a2.add ((a0).toNat*5)).block,(a2.add ((a0).toNat*5)).off+3,none⟩=some (.slice n8 ((rd_T29 l0 a0).f3).length n9)∧w'.cell? ⟨(a2.add ((a0).toNat*5)).block,(a2.add ((a0).toNat*5)).off+4,none⟩=some (.slice o0 ((rd_T29 l0 a0).f4).length o1)) (ds:=[]) (Array.replicate 8 false) (by kernel_rfl) rfl rfl zO fun hHeld=>?_;refine with_tabW laws_heldValS.tab10 laws_heldValS.bits10 (fun HT_ HW_=>?_);generalize wc.drew=r9 at HB o3 o4 e7 e8 e9 f5 f6 hHeld ⊢;refine zp 0 30 ?_;refine zp 1 31 ?_;refine zp 2 32 ?_;refine zp 3 33 ?_;refine zp 5 35 ?_;refine zt 4 34 ?_;refine zo 6 (some 36) fun K hK=>?_;refine goes_ Try.func60 (by kernel_rfl) rfl #[.int .i64 (wrap64 ((wrap64 (a3+1))+1))] (by rfl) rfl rfl zM ?_;(with_reducible refine(laws_markText.calls l4 (wrap64 ((wrap64 (a3+1))+1)) n5 _ n6.out).mono ?_);rintro e t0 ⟨rfl,hb⟩;refine⟨_,rfl,?_⟩;replace HB:=zA (below_step (zB) hb);(try clear hb);refine hK.out _ _ zO fun hHeld=>?_;clear hK K;refine zn ?_;refine zp 7 37 ?_;refine done_ (done_of HT_.out (by kernel_rfl)) ?_;go_upto_if 37 with (fail)
         go_cut [] (fun wc=>∃ (kq:Nat),Aside0 (laws_heldValS.j4 kq l0 (wrap64 ((wrap64 (a3+1))+1)) a0=some r)∧Aside0 (kq≤l4)∧Aside0 (Below w.heap.size w wc))
         case first=>
          have H:=i9.out;clear i9;replace H:=zI1 H;rcases H with ⟨d1,H⟩|⟨d1,H⟩
          ·have d8:=beq_iff_eq.mpr d1;have m0:=bne_eq_false_iff_eq.mpr d1;clear d1;(first|rw[d8]|(simp only[i64_w,i32_w];rw[d8])|skip);have H':=zA H;clear H;go_wp2;go_meet
           case rel=>exact⟨_,(by first|exact H'|(subst_vars;exact H')),⟨by have:=a6.out;have:=a9.out;have:=c7.out;have:=d7.out;first|omega|exact Nat.le_refl _⟩,⟨zB⟩⟩
          have d8:=beq_eq_false_iff_ne.mpr d1;have m0:=bne_iff_ne.mpr d1;(first|rw[d8]|(simp only[i64_w,i32_w];rw[d8])|skip);obtain rfl:=zm H;go_wp2;go_ret;exact⟨zE,zB⟩
         case rest=>
          clear i9;(try clear n3);(try clear n4);(try clear e7);(try clear e8);(try clear e9);(try clear f5);(try clear f6);(try clear h9);(try clear i0);obtain⟨kq,HA,f7,HB⟩:=hcut;cases kq with
          | zero=>exact absurd HA.out (by simp[laws_heldValS.j4])
          | succ d9=>
           have H:=HA.out;clear HA;simp only[laws_heldValS.j4] at H;replace H:=zD0 H;obtain⟨t1,H⟩:=H;replace H:=zD0 H;obtain⟨t2,H⟩:=H;replace H:=Option.bind_eq_some_iff.mp H;obtain⟨d2,m1,H⟩:=H;(try dsimp only at H);have j0:=zA m1;clear m1;replace H:=zI0 H;rcases H with ⟨o5,H⟩|⟨o5,H⟩
           ·obtain rfl:=zm H;have a4:0≤(a0:Int):=zD;have a5:a0<(l0.length:Int):=zD;obtain⟨f8,f9,g0,m2,m3,g1,b2,b3,b4,b5,b6,b7,b8,b9,c2⟩:=at_T29 a8.out a0 a4 a5;obtain rfl:a2=f8:=(by injection g1);replace b2:=zx HB b2;replace b3:=zx HB b3;replace b4:=zx HB b4;replace b5:=zx HB b5;replace b6:=zx HB b6;have g2:=zA b8;have g3:=zA b7;clear b8 b7;have m4:=zA c2;have m5:=zA b9;clear c2 b9;replace a4:=eq_true a4;replace a5:=eq_true a5;go_wp2_with (first|((with_reducible refine zq 38 ?_);refine zg (some 46) Try.func38 #[.slice f9 ((rd_T29 l0 a0).f3).length g0,.int .i64 (wrap64 ((wrap64 ((wrap64 (a3+1))+1))+1))] ?_;(with_reducible refine(ih d9 (by have:=a6.out;have:=a9.out;have:=c7.out;have:=d7.out;have:=f7.out;omega) _ _ ((rd_T29 l0 a0).f3) (wrap64 ((wrap64 ((wrap64 (a3+1))+1))+1)) d2 _ ?s1 ?s2 j0.out).mono ?_);(case s1=>exact zC (Kd.C_below g2.out HB.out));(case s2=>exact g3.out);rintro e t3 ⟨rfl,hb⟩;refine⟨_,rfl,?_⟩;replace HB:=zA (below_step (zB) hb);(try clear hb)))
            go_ret;exact⟨zE,zB⟩
           replace H:=Option.bind_eq_some_iff.mp H;obtain⟨j5,m6,H⟩:=H;(try dsimp only at H);have m7:=zA m6;clear m6;replace H:=zI0 H;rcases H with ⟨o6,H⟩|⟨o6,H⟩
           ·obtain rfl:=zm H;have a4:0≤(a0:Int):=zD;have a5:a0<(l0.length:Int):=zD;obtain⟨f8,f9,g0,m2,m3,g1,b2,b3,b4,b5,b6,b7,b8,b9,c2⟩:=at_T29 a8.out a0 a4 a5;obtain rfl:a2=f8:=(by injection g1);replace b2:=zx HB b2;replace b3:=zx HB b3;replace b4:=zx HB b4;replace b5:=zx HB b5;replace b6:=zx HB b6;have g2:=zA b8;have g3:=zA b7;clear b8 b7;have m4:=zA c2;have m5:=zA b9;clear c2 b9;replace a4:=eq_true a4;replace a5:=eq_true a5;go_wp2_with (first|((with_reducible refine zq 38 ?_);refine zg (some 46) Try.func38 #[.slice f9 ((rd_T29 l0 a0).f3).length g0,.int .i64 (wrap64 ((wrap64 ((wrap64 (a3+1))+1))+1))] ?_;(with_reducible refine(ih d9 (by have:=a6.out;have:=a9.out;have:=c7.out;have:=d7.out;have:=f7.out;omega) _ _ ((rd_T29 l0 a0).f3) (wrap64 ((wrap64 ((wrap64 (a3+1))+1))+1)) d2 _ ?s1 ?s2 j0.out).mono ?_);(case s1=>exact zC (Kd.C_below g2.out HB.out));(case s2=>exact g3.out);rintro e t4 ⟨rfl,hb⟩;refine⟨_,rfl,?_⟩;replace HB:=zA (below_step (zB) hb);(try clear hb);have d3:0≤(a0:Int):=zD;have d4:a0<(l0.length:Int):=zD;obtain⟨j6,o7,o8,j7,j8,j9,g4,g5,g6,g7,g8,g9,h0,h1,h2⟩:=at_T29 a8.out a0 d3 d4;obtain rfl:a2=j6:=(by injection j9);replace g4:=zx HB g4;replace g5:=zx HB g5;replace g6:=zx HB g6;replace g7:=zx HB g7;replace g8:=zx HB g8;have o9:=zA h0;have p0:=zA g9;clear h0 g9;have k0:=zA h2;have k2:=zA h1;clear h2 h1;replace d3:=eq_true d3;replace d4:=eq_true d4)|((with_reducible refine zq 39 ?_);refine zg (some 55) Try.func39 #[.slice j7 ((rd_T29 l0 a0).f4).length j8,.int .i64 d2] ?_;(with_reducible refine(laws_heldStringS.calls d9 _ _ ((rd_T29 l0 a0).f4) d2 j5 _ ?s1 ?s2 m7.out).mono ?_);(case s1=>exact zC (Kd.C_below k0.out HB.out));(case s2=>exact k2.out);rintro e t5 ⟨rfl,hb⟩;refine⟨_,rfl,?_⟩;replace HB:=zA (below_step (zB) hb);(try clear hb)))
            go_ret;exact⟨zE,zB⟩
           have H':=zA H;clear H;have a4:0≤(a0:Int):=zD;have a5:a0<(l0.length:Int):=zD;obtain⟨f8,f9,g0,m2,m3,g1,b2,b3,b4,b5,b6,b7,b8,b9,c2⟩:=at_T29 a8.out a0 a4 a5;obtain rfl:a2=f8:=(by injection g1);replace b2:=zx HB b2;replace b3:=zx HB b3;replace b4:=zx HB b4;replace b5:=zx HB b5;replace b6:=zx HB b6;have g2:=zA b8;have g3:=zA b7;clear b8 b7;have m4:=zA c2;have m5:=zA b9;clear c2 b9;replace a4:=eq_true a4;replace a5:=eq_true a5;go_wp2_with (first|((with_reducible refine zq 38 ?_);refine zg (some 46) Try.func38 #[.slice f9 ((rd_T29 l0 a0).f3).length g0,.int .i64 (wrap64 ((wrap64 ((wrap64 (a3+1))+1))+1))] ?_;(with_reducible refine(ih d9 (by have:=a6.out;have:=a9.out;have:=c7.out;have:=d7.out;have:=f7.out;omega) _ _ ((rd_T29 l0 a0).f3) (wrap64 ((wrap64 ((wrap64 (a3+1))+1))+1)) d2 _ ?s1 ?s2 j0.out).mono ?_);(case s1=>exact zC (Kd.C_below g2.out HB.out));(case s2=>exact g3.out);rintro e t6 ⟨rfl,hb⟩;refine⟨_,rfl,?_⟩;replace HB:=zA (below_step (zB) hb);(try clear hb);have d3:0≤(a0:Int):=zD;have d4:a0<(l0.length:Int):=zD;obtain⟨j6,o7,o8,j7,j8,j9,g4,g5,g6,g7,g8,g9,h0,h1,h2⟩:=at_T29 a8.out a0 d3 d4;obtain rfl:a2=j6:=(by injection j9);replace g4:=zx HB g4;replace g5:=zx HB g5;replace g6:=zx HB g6;replace g7:=zx HB g7;replace g8:=zx HB g8;have o9:=zA h0;have p0:=zA g9;clear h0 g9;have k0:=zA h2;have k2:=zA h1;clear h2 h1;replace d3:=eq_true d3;replace d4:=eq_true d4)|((with_reducible refine zq 39 ?_);refine zg (some 55) Try.func39 #[.slice j7 ((rd_T29 l0 a0).f4).length j8,.int .i64 d2] ?_;(with_reducible refine(laws_heldStringS.calls d9 _ _ ((rd_T29 l0 a0).f4) d2 j5 _ ?s1 ?s2 m7.out).mono ?_);(case s1=>exact zC (Kd.C_below k0.out HB.out));(case s2=>exact k2.out);rintro e t7 ⟨rfl,hb⟩;refine⟨_,rfl,?_⟩;replace HB:=zA (below_step (zB) hb);(try clear hb)))
           go_roundg d9
           case measure=>have:=a6.out;have:=a9.out;have:=c7.out;have:=d7.out;have:=f7.out;omega
           case rel=>exact⟨(j5),(wrap64 (a0+1)),zS,zS,H',⟨by have:=a6.out;have:=a9.out;have:=c7.out;have:=d7.out;have:=f7.out;omega⟩,⟨zB⟩⟩
/-! ### laws_heldVal: function 12 -/
def laws_heldVal.f (k:Nat) (a5 a6:Int) (a7:ByteArray) (a3:List (S29)) (a4:List ByteArray) (a1:Int):Option (Int):=(laws_heldValS.f k a3 a1).bind fun a0=>(if a0<0 then (some (-1)) else ((laws_heldStringS.f k a4 a0).bind fun a2=>(if a2<0 then (some (-1)) else (some a2))))
theorem laws_heldVal.calls (k:Nat) (a9 b0:Int) (b1:ByteArray) (a5:Option Addr) (a6:Nat) (a0:List (S29)) (a7:Option Addr) (a8:Nat) (a2:List ByteArray) (a1 r:Int) (w:World) (b4:Kd.C k29 w a5 a0.length a0) (b5:a0.length≤a6) (b6:Kd.C Kd.string w a7 a2.length a2) (b7:a2.length≤a8) (h:laws_heldVal.f k a9 b0 b1 a0 a2 a1=some r) :
  Calls Try.prog 12 #[.agg #[.int .i64 a9,.int .i64 b0,.string b1,.slice a5 a0.length a6,.slice a7 a2.length a8],.int .i64 a1] w fun e w'=>e=.returned (.int .i64 r)∧Below w.heap.size w w':=by
 have c5:=Try.underlying29;have c0:=zA b4;have c1:=zA b5;clear b4 b5;have c2:=zA b6;have c3:=zA b7;clear b6 b7;have HB:=zA (Below.refl w.heap.size w);unfold laws_heldVal.f at h;have H:=h;clear h;replace H:=Option.bind_eq_some_iff.mp H;obtain⟨b2,b8,H⟩:=H;(try dsimp only at H);have A3:=zA b8;clear b8;go_enter Try.func12,Try.ntmps12;go_upto_if 10 with (first|((with_reducible refine zd 2 ?_);refine ze 2 29 #[.int .i64 a9,.int .i64 b0,.string b1,.slice a5 a0.length a6,.slice a7 a2.length a8] ?_;intro c6 hg w5 hbox hb;have a4:=zA (hbox);have c7:=zi HB hg;have c8:=zi HB hg;replace HB:=zA (below_step (zB) hb);clear hb hbox hg;obtain⟨c9,d0,d1,d2,d3,d4,d5,d6,d7,d8⟩:=ze5 a4.out)|((with_reducible refine zq 38 ?_);refine zg (some 8) Try.func38 #[.slice a5 a0.length a6,.int .i64 a1] ?_;(with_reducible refine(laws_heldValS.calls k _ _ a0 a1 b2 _ ?s1 ?s2 A3.out).mono ?_);(case s1=>exact zC (Kd.C_below c0.out HB.out));(case s2=>exact c1.out);rintro e w7 ⟨rfl,hb⟩;refine⟨_,rfl,?_⟩;replace a4:=zb a4 hb;replace HB:=zh HB hb;(try clear hb)))
 (try simp only[Act.put,zT]);replace H:=zI0 H;rcases H with ⟨a3,H⟩|⟨a3,H⟩
 ·obtain rfl:=zm H;(try simp only[a3]);go_wp2;go_ret;exact⟨zE,zW HB.out⟩
 replace H:=Option.bind_eq_some_iff.mp H;obtain⟨c4,b9,H⟩:=H;(try dsimp only at H);have A8:=zA b9;clear b9;obtain⟨d9,e0,e1,e2,e3,e4,e5,e6,e7,e8⟩:=ze5 a4.out;(try simp only[a3,a3]);go_upto_if 16 with (first|((with_reducible refine zq 39 ?_);refine zg (some 14) Try.func39 #[.slice a7 a2.length a8,.int .i64 b2] ?_;(with_reducible refine(laws_heldStringS.calls k _ _ a2 b2 c4 _ ?s1 ?s2 A8.out).mono ?_);(case s1=>exact zC (Kd.C_below c2.out HB.out));(case s2=>exact c3.out);rintro e e9 ⟨rfl,hb⟩;refine⟨_,rfl,?_⟩;replace a4:=zb a4 hb;replace HB:=zh HB hb;(try clear hb)))
 (try simp only[Act.put,zT]);replace H:=zI0 H;rcases H with ⟨b3,H⟩|⟨b3,H⟩
 ·obtain rfl:=zm H;(try simp only[a3,a3,b3]);go_wp2;go_ret;exact⟨zE,zW HB.out⟩
 obtain rfl:=zm H;(try simp only[a3,a3,b3]);go_wp2;go_ret;exact⟨zE,zW HB.out⟩
/-! ### laws_szStringS: function 27 -/
mutual
def laws_szStringS.j0:Nat→List ByteArray→Int→Option (Int)
 | 0,_,_=>none
 | k+1,x0,x1=>laws_szStringS.l0 k x0 x1 0
def laws_szStringS.l0:Nat→List ByteArray→Int→Int→Option (Int)
 | 0,_,_,_=>none
 | k+1,x0,x1,x5=>if x5<(x0.length:Int) then (if 0≤x5 then (if (wrap64 (x1-((rdOf ByteArray.empty x0 x5).size:Int)))<0 then (some (-1)) else (laws_szStringS.l0 k x0 (wrap64 (x1-((rdOf ByteArray.empty x0 x5).size:Int))) (wrap64 (x5+1)))) else (none)) else (some x1)
end
def laws_szStringS.f (k:Nat) (l0:List ByteArray) (a1:Int):Option (Int):=if (wrap64 (a1-(l0.length:Int)))<0 then (some (-1)) else (laws_szStringS.j0 k l0 (wrap64 (a1-(l0.length:Int))))
theorem laws_szStringS.calls (k:Nat) (A0:Option Addr) (c0:Nat) (l0:List ByteArray) (a1 r:Int) (w:World) (a8:Kd.C Kd.string w A0 l0.length l0) (a9:l0.length≤c0) (h:laws_szStringS.f k l0 a1=some r) :
  Calls Try.prog 27 #[.slice A0 l0.length c0,.int .i64 a1] w fun e w'=>e=.returned (.int .i64 r)∧Drawn0 w w':=by
 have b0:=zA a8;have b8:=zA a9;clear a8 a9;unfold laws_szStringS.f at h;have H:=h;clear h;have a6:=zA H;clear H;go_enter Try.func27,Try.ntmps27;go_upto_if 11 with (fail)
 go_cut [] (fun wc=>∃ (kq:Nat),Aside0 (laws_szStringS.j0 kq l0 (wrap64 (a1-(l0.length:Int)))=some r)∧Aside0 (kq≤k)∧Drawn0 w wc)
 case first=>
  have H:=a6.out;clear a6;replace H:=zI0 H;rcases H with ⟨a2,H⟩|⟨a2,H⟩
  ·(first|rw[a2]|(simp only[i64_w,i32_w];rw[a2])|skip);obtain rfl:=zm H;go_wp2;go_ret;exact⟨by first|rfl|(simp;done)|(simp[*];done)|(simp;rw[Bool.eq_iff_iff];simp;done),zv0⟩
  (first|rw[a2]|(simp only[i64_w,i32_w];rw[a2])|skip);have H':=zA H;clear H;go_wp2;go_meet
  case rel=>exact⟨_,(by first|exact H'|(subst_vars;exact H')),⟨by first|omega|exact Nat.le_refl _⟩,zv0⟩
 case rest=>
  clear a6;obtain⟨kq,HA,b1,⟨b9,rfl⟩⟩:=hcut;cases kq with
  | zero=>exact absurd HA.out (by simp[laws_szStringS.j0])
  | succ b2=>
   have H:=HA.out;clear HA;simp only[laws_szStringS.j0] at H;have H':=zA H;clear H;go_wp2;go_loopg [1,5] b2 (fun kq v1 v5 w'=>∃ (a5:Int) (a0:Int),v1=.int .i64 a5∧v5=.int .i64 a0∧Aside0 (laws_szStringS.l0 kq l0 a5 a0=some r)∧Aside0 (kq≤b2)∧Drawn0 w w')
   case atStart=>exact⟨((wrap64 (a1-(l0.length:Int)))),(0),zS,zS,H',⟨Nat.le_refl _⟩,zv0⟩
   case round=>
    clear H';obtain⟨a5,a0,rfl,rfl,HA,b3,⟨m2,rfl⟩⟩:=hrel;cases gk with
    | zero=>exact absurd HA.out (by simp[laws_szStringS.l0])
    | succ k2=>
     have H:=HA.out;clear HA;simp only[laws_szStringS.l0] at H;replace H:=zI0 H;rcases H with ⟨b4,H⟩|⟨b4,H⟩
     ·replace H:=zD0 H;obtain⟨c1,H⟩:=H;replace H:=zI0 H;rcases H with ⟨b5,H⟩|⟨b5,H⟩
      ·obtain rfl:=zm H;have a3:0≤(a0:Int):=zD;have a4:a0<(l0.length:Int):=zD;obtain⟨b6,a7,b7⟩:=Kd.at_string b0.out a0 a3 a4;cases a7;replace a3:=eq_true a3;replace a4:=eq_true a4;go_wp2;go_ret;exact⟨by first|rfl|(simp;done)|(simp[*];done)|(simp;rw[Bool.eq_iff_iff];simp;done),zv0⟩
      have H':=zA H;clear H;have a3:0≤(a0:Int):=zD;have a4:a0<(l0.length:Int):=zD;obtain⟨b6,a7,b7⟩:=Kd.at_string b0.out a0 a3 a4;cases a7;replace a3:=eq_true a3;replace a4:=eq_true a4;go_wp2;go_roundg k2
      case measure=>have:=b1.out;have:=b3.out;omega
      case rel=>exact⟨(wrap64 (a5-((rdOf ByteArray.empty l0 a0).size:Int))),(wrap64 (a0+1)),zS,zS,H',⟨by have:=b1.out;have:=b3.out;omega⟩,zv0⟩
     obtain rfl:=zm H;go_wp2;go_ret;exact⟨by first|rfl|(simp;done)|(simp[*];done)|(simp;rw[Bool.eq_iff_iff];simp;done),zv0⟩
/-! ### laws_szNeed: function 63 -/
def laws_szNeed.f (a0 a2:ByteArray) (a1:Int):Option (Int):=if (wrap64 (a1-(a0.size:Int)))<0 then (some (-1)) else (if (wrap64 ((wrap64 (a1-(a0.size:Int)))-(a2.size:Int)))<0 then (some (-1)) else (some (wrap64 ((wrap64 (a1-(a0.size:Int)))-(a2.size:Int)))))
theorem laws_szNeed.calls (a2 a3:ByteArray) (a1 r:Int) (w:World) (h:laws_szNeed.f a2 a3 a1=some r) :
  Calls Try.prog 63 #[.agg #[.string a2,.string a3],.int .i64 a1] w fun e w'=>e=.returned (.int .i64 r)∧Below w.heap.size w w':=by
 have a6:=Try.underlying99;have HB:=zA (Below.refl w.heap.size w);unfold laws_szNeed.f at h;have H:=h;clear h;go_enter Try.func63,Try.ntmps63;go_upto_if 11 with (first|((with_reducible refine zd 2 ?_);refine ze 2 99 #[.string a2,.string a3] ?_;intro a7 hg w4 hbox hb;have a5:=zA (hbox);have a8:=zi HB hg;have a9:=zi HB hg;replace HB:=zA (below_step (zB) hb);clear hb hbox hg;obtain⟨b0,b1,b2,b3⟩:=ze2 a5.out))
 (try simp only[Act.put,zT]);replace H:=zI0 H;rcases H with ⟨a0,H⟩|⟨a0,H⟩
 ·obtain rfl:=zm H;(try simp only[a0]);go_wp2;go_ret;exact⟨zE,zW HB.out⟩
 replace H:=zI0 H;rcases H with ⟨a4,H⟩|⟨a4,H⟩
 ·obtain rfl:=zm H;(try simp only[a0,a4]);go_wp2;go_ret;exact⟨zE,zW HB.out⟩
 obtain rfl:=zm H;(try simp only[a0,a4]);go_wp2;go_ret;exact⟨zE,zW HB.out⟩
/-! ### laws_szNeedS: function 40 -/
mutual
def laws_szNeedS.j0:Nat→List (S99)→Int→Option (Int)
 | 0,_,_=>none
 | k+1,x0,x1=>laws_szNeedS.l0 k x0 x1 0
def laws_szNeedS.l0:Nat→List (S99)→Int→Int→Option (Int)
 | 0,_,_,_=>none
 | k+1,x0,x1,x5=>if x5<(x0.length:Int) then (if 0≤x5 then ((laws_szNeed.f ((rd_T99 x0 x5).f0) ((rd_T99 x0 x5).f1) x1).bind fun a0=>(if a0<0 then (some (-1)) else (laws_szNeedS.l0 k x0 a0 (wrap64 (x5+1))))) else (none)) else (some x1)
end
def laws_szNeedS.f (k:Nat) (l0:List (S99)) (a1:Int):Option (Int):=if (wrap64 (a1-(l0.length:Int)))<0 then (some (-1)) else (laws_szNeedS.j0 k l0 (wrap64 (a1-(l0.length:Int))))
theorem laws_szNeedS.calls (k:Nat) (A0:Option Addr) (c0:Nat) (l0:List (S99)) (a1 r:Int) (w:World) (b1:Kd.C k99 w A0 l0.length l0) (b2:l0.length≤c0) (h:laws_szNeedS.f k l0 a1=some r) :
  Calls Try.prog 40 #[.slice A0 l0.length c0,.int .i64 a1] w fun e w'=>e=.returned (.int .i64 r)∧Below w.heap.size w w':=by
 have c2:=Try.underlying99;have b3:=zA b1;have c3:=zA b2;clear b1 b2;have HB:=zA (Below.refl w.heap.size w);unfold laws_szNeedS.f at h;have H:=h;clear h;have a8:=zA H;clear H;go_enter Try.func40,Try.ntmps40;go_upto_if 11 with (fail)
 go_cut [] (fun wc=>∃ (kq:Nat),Aside0 (laws_szNeedS.j0 kq l0 (wrap64 (a1-(l0.length:Int)))=some r)∧Aside0 (kq≤k)∧Aside0 (Below w.heap.size w wc))
 case first=>
  have H:=a8.out;clear a8;replace H:=zI0 H;rcases H with ⟨a2,H⟩|⟨a2,H⟩
  ·(first|rw[a2]|(simp only[i64_w,i32_w];rw[a2])|skip);obtain rfl:=zm H;go_wp2;go_ret;exact⟨zE,zB⟩
  (first|rw[a2]|(simp only[i64_w,i32_w];rw[a2])|skip);have H':=zA H;clear H;go_wp2;go_meet
  case rel=>exact⟨_,(by first|exact H'|(subst_vars;exact H')),⟨by first|omega|exact Nat.le_refl _⟩,⟨zB⟩⟩
 case rest=>
  clear a8;obtain⟨kq,HA,b4,HB⟩:=hcut;cases kq with
  | zero=>exact absurd HA.out (by simp[laws_szNeedS.j0])
  | succ b5=>
   have H:=HA.out;clear HA;simp only[laws_szNeedS.j0] at H;have H':=zA H;clear H;go_wp2;go_loopg [1,5] b5 (fun kq v1 v5 w'=>∃ (a3:Int) (a0:Int),v1=.int .i64 a3∧v5=.int .i64 a0∧Aside0 (laws_szNeedS.l0 kq l0 a3 a0=some r)∧Aside0 (kq≤b5)∧Aside0 (Below w.heap.size w w'))
   case atStart=>exact⟨((wrap64 (a1-(l0.length:Int)))),(0),zS,zS,H',⟨Nat.le_refl _⟩,⟨zB⟩⟩
   case round=>
    clear H';obtain⟨a3,a0,rfl,rfl,HA,b6,HB⟩:=hrel;cases gk with
    | zero=>exact absurd HA.out (by simp[laws_szNeedS.l0])
    | succ k2=>
     have H:=HA.out;clear HA;simp only[laws_szNeedS.l0] at H;replace H:=zI0 H;rcases H with ⟨b8,H⟩|⟨b8,H⟩
     ·replace H:=zD0 H;obtain⟨c5,H⟩:=H;replace H:=Option.bind_eq_some_iff.mp H;obtain⟨a9,b7,H⟩:=H;(try dsimp only at H);have A7:=zA b7;clear b7;replace H:=zI0 H;rcases H with ⟨b9,H⟩|⟨b9,H⟩
      ·obtain rfl:=zm H;have a4:0≤(a0:Int):=zD;have a5:a0<(l0.length:Int):=zD;obtain⟨c1,b0,a6,a7⟩:=at_T99 b3.out a0 a4 a5;cases b0;replace a6:=zx HB a6;replace a7:=zx HB a7;replace a4:=eq_true a4;replace a5:=eq_true a5;go_wp2_with (first|((with_reducible refine zq 63 ?_);refine zg (some 23) Try.func63 #[.agg #[.string ((rd_T99 l0 a0).f0),.string ((rd_T99 l0 a0).f1)],.int .i64 a3] ?_;(with_reducible refine(laws_szNeed.calls ((rd_T99 l0 a0).f0) ((rd_T99 l0 a0).f1) a3 a9 _ A7.out).mono ?_);rintro e w9 ⟨rfl,hb⟩;refine⟨_,rfl,?_⟩;replace HB:=zA (below_step (zB) hb);(try clear hb)))
       go_ret;exact⟨zE,zB⟩
      have H':=zA H;clear H;have a4:0≤(a0:Int):=zD;have a5:a0<(l0.length:Int):=zD;obtain⟨c1,b0,a6,a7⟩:=at_T99 b3.out a0 a4 a5;cases b0;replace a6:=zx HB a6;replace a7:=zx HB a7;replace a4:=eq_true a4;replace a5:=eq_true a5;go_wp2_with (first|((with_reducible refine zq 63 ?_);refine zg (some 23) Try.func63 #[.agg #[.string ((rd_T99 l0 a0).f0),.string ((rd_T99 l0 a0).f1)],.int .i64 a3] ?_;(with_reducible refine(laws_szNeed.calls ((rd_T99 l0 a0).f0) ((rd_T99 l0 a0).f1) a3 a9 _ A7.out).mono ?_);rintro e c6 ⟨rfl,hb⟩;refine⟨_,rfl,?_⟩;replace HB:=zA (below_step (zB) hb);(try clear hb)))
      go_roundg k2
      case measure=>have:=b4.out;have:=b6.out;omega
      case rel=>exact⟨(a9),(wrap64 (a0+1)),zS,zS,H',⟨by have:=b4.out;have:=b6.out;omega⟩,⟨zB⟩⟩
     obtain rfl:=zm H;go_wp2;go_ret;exact⟨zE,zB⟩
/-! ### laws_szCmd: function 64 -/
def laws_szCmd.f (k:Nat) (a0:ByteArray) (a3:List ByteArray) (a1:Int):Option (Int):=if (wrap64 (a1-(a0.size:Int)))<0 then (some (-1)) else ((laws_szStringS.f k a3 (wrap64 (a1-(a0.size:Int)))).bind fun a2=>(if a2<0 then (some (-1)) else (some a2)))
theorem laws_szCmd.calls (k:Nat) (a3:ByteArray) (a4:Option Addr) (a5:Nat) (a0:List ByteArray) (a1 r:Int) (w:World) (a7:Kd.C Kd.string w a4 a0.length a0) (a8:a0.length≤a5) (h:laws_szCmd.f k a3 a0 a1=some r) :
  Calls Try.prog 64 #[.agg #[.string a3,.slice a4 a0.length a5],.int .i64 a1] w fun e w'=>e=.returned (.int .i64 r)∧Below w.heap.size w w':=by
 have b4:=Try.underlying101;have b0:=zA a7;have b1:=zA a8;clear a7 a8;have HB:=zA (Below.refl w.heap.size w);unfold laws_szCmd.f at h;have H:=h;clear h;go_enter Try.func64,Try.ntmps64;go_upto_if 11 with (first|((with_reducible refine zd 2 ?_);refine ze 2 101 #[.string a3,.slice a4 a0.length a5] ?_;intro b5 hg w4 hbox hb;have b2:=zA (hbox);have b6:=zi HB hg;have b7:=zi HB hg;replace HB:=zA (below_step (zB) hb);clear hb hbox hg;obtain⟨b8,b9,c0,c1⟩:=ze2 b2.out))
 (try simp only[Act.put,zT]);replace H:=zI0 H;rcases H with ⟨a2,H⟩|⟨a2,H⟩
 ·obtain rfl:=zm H;(try simp only[a2]);go_wp2;go_ret;exact⟨zE,zW HB.out⟩
 replace H:=Option.bind_eq_some_iff.mp H;obtain⟨b3,a9,H⟩:=H;(try dsimp only at H);have A6:=zA a9;clear a9;(try simp only[a2,a2]);go_upto_if 17 with (first|((with_reducible refine zq 27 ?_);refine zg (some 15) Try.func27 #[.slice a4 a0.length a5,.int .i64 (wrap64 (a1-(a3.size:Int)))] ?_;(with_reducible refine(laws_szStringS.calls k _ _ a0 (wrap64 (a1-(a3.size:Int))) b3 _ ?s1 ?s2 A6.out).mono ?_);(case s1=>exact zC (Kd.C_below b0.out HB.out));(case s2=>exact b1.out);rintro e w' ⟨rfl,⟨nd,rfl⟩⟩;refine⟨_,rfl,?_⟩))
 (try simp only[Act.put,zT]);replace H:=zI0 H;rcases H with ⟨a6,H⟩|⟨a6,H⟩
 ·obtain rfl:=zm H;(try simp only[a2,a2,a6]);go_wp2;go_ret;exact⟨zE,zW HB.out⟩
 obtain rfl:=zm H;(try simp only[a2,a2,a6]);go_wp2;go_ret;exact⟨zE,zW HB.out⟩
/-! ### laws_szCmdS: function 41 -/
mutual
def laws_szCmdS.j0:Nat→List (S101)→Int→Option (Int)
 | 0,_,_=>none
 | k+1,x0,x1=>laws_szCmdS.l0 k x0 x1 0
def laws_szCmdS.l0:Nat→List (S101)→Int→Int→Option (Int)
 | 0,_,_,_=>none
 | k+1,x0,x1,x5=>if x5<(x0.length:Int) then (if 0≤x5 then ((laws_szCmd.f k ((rd_T101 x0 x5).f0) ((rd_T101 x0 x5).f1) x1).bind fun a0=>(if a0<0 then (some (-1)) else (laws_szCmdS.l0 k x0 a0 (wrap64 (x5+1))))) else (none)) else (some x1)
end
def laws_szCmdS.f (k:Nat) (l0:List (S101)) (a1:Int):Option (Int):=if (wrap64 (a1-(l0.length:Int)))<0 then (some (-1)) else (laws_szCmdS.j0 k l0 (wrap64 (a1-(l0.length:Int))))
theorem laws_szCmdS.calls (k:Nat) (A0:Option Addr) (c0:Nat) (l0:List (S101)) (a1 r:Int) (w:World) (b7:Kd.C k101 w A0 l0.length l0) (b8:l0.length≤c0) (h:laws_szCmdS.f k l0 a1=some r) :
  Calls Try.prog 41 #[.slice A0 l0.length c0,.int .i64 a1] w fun e w'=>e=.returned (.int .i64 r)∧Below w.heap.size w w':=by
 have c9:=Try.underlying101;have b9:=zA b7;have d0:=zA b8;clear b7 b8;have HB:=zA (Below.refl w.heap.size w);unfold laws_szCmdS.f at h;have H:=h;clear h;have b0:=zA H;clear H;go_enter Try.func41,Try.ntmps41;go_upto_if 11 with (fail)
 go_cut [] (fun wc=>∃ (kq:Nat),Aside0 (laws_szCmdS.j0 kq l0 (wrap64 (a1-(l0.length:Int)))=some r)∧Aside0 (kq≤k)∧Aside0 (Below w.heap.size w wc))
 case first=>
  have H:=b0.out;clear b0;replace H:=zI0 H;rcases H with ⟨a2,H⟩|⟨a2,H⟩
  ·(first|rw[a2]|(simp only[i64_w,i32_w];rw[a2])|skip);obtain rfl:=zm H;go_wp2;go_ret;exact⟨zE,zB⟩
  (first|rw[a2]|(simp only[i64_w,i32_w];rw[a2])|skip);have H':=zA H;clear H;go_wp2;go_meet
  case rel=>exact⟨_,(by first|exact H'|(subst_vars;exact H')),⟨by first|omega|exact Nat.le_refl _⟩,⟨zB⟩⟩
 case rest=>
  clear b0;obtain⟨kq,HA,c1,HB⟩:=hcut;cases kq with
  | zero=>exact absurd HA.out (by simp[laws_szCmdS.j0])
  | succ c2=>
   have H:=HA.out;clear HA;simp only[laws_szCmdS.j0] at H;have H':=zA H;clear H;go_wp2;go_loopg [1,5] c2 (fun kq v1 v5 w'=>∃ (a3:Int) (a0:Int),v1=.int .i64 a3∧v5=.int .i64 a0∧Aside0 (laws_szCmdS.l0 kq l0 a3 a0=some r)∧Aside0 (kq≤c2)∧Aside0 (Below w.heap.size w w'))
   case atStart=>exact⟨((wrap64 (a1-(l0.length:Int)))),(0),zS,zS,H',⟨Nat.le_refl _⟩,⟨zB⟩⟩
   case round=>
    clear H';obtain⟨a3,a0,rfl,rfl,HA,c3,HB⟩:=hrel;cases gk with
    | zero=>exact absurd HA.out (by simp[laws_szCmdS.l0])
    | succ k2=>
     have H:=HA.out;clear HA;simp only[laws_szCmdS.l0] at H;replace H:=zI0 H;rcases H with ⟨c6,H⟩|⟨c6,H⟩
     ·replace H:=zD0 H;obtain⟨d1,H⟩:=H;replace H:=Option.bind_eq_some_iff.mp H;obtain⟨b1,c5,H⟩:=H;(try dsimp only at H);have A7:=zA c5;clear c5;replace H:=zI0 H;rcases H with ⟨c7,H⟩|⟨c7,H⟩
      ·obtain rfl:=zm H;have a4:0≤(a0:Int):=zD;have a5:a0<(l0.length:Int):=zD;obtain⟨c8,b2,b3,b4,a6,a7,a8,a9⟩:=at_T101 b9.out a0 a4 a5;cases b4;replace a6:=zx HB a6;replace a7:=zx HB a7;have b5:=zA a9;have b6:=zA a8;clear a9 a8;replace a4:=eq_true a4;replace a5:=eq_true a5;go_wp2_with (first|((with_reducible refine zq 64 ?_);refine zg (some 23) Try.func64 #[.agg #[.string ((rd_T101 l0 a0).f0),.slice b2 ((rd_T101 l0 a0).f1).length b3],.int .i64 a3] ?_;(with_reducible refine(laws_szCmd.calls k2 ((rd_T101 l0 a0).f0) _ _ ((rd_T101 l0 a0).f1) a3 b1 _ ?s1 ?s2 A7.out).mono ?_);(case s1=>exact zC (Kd.C_below b5.out HB.out));(case s2=>exact b6.out);rintro e w9 ⟨rfl,hb⟩;refine⟨_,rfl,?_⟩;replace HB:=zA (below_step (zB) hb);(try clear hb)))
       go_ret;exact⟨zE,zB⟩
      have H':=zA H;clear H;have a4:0≤(a0:Int):=zD;have a5:a0<(l0.length:Int):=zD;obtain⟨c8,b2,b3,b4,a6,a7,a8,a9⟩:=at_T101 b9.out a0 a4 a5;cases b4;replace a6:=zx HB a6;replace a7:=zx HB a7;have b5:=zA a9;have b6:=zA a8;clear a9 a8;replace a4:=eq_true a4;replace a5:=eq_true a5;go_wp2_with (first|((with_reducible refine zq 64 ?_);refine zg (some 23) Try.func64 #[.agg #[.string ((rd_T101 l0 a0).f0),.slice b2 ((rd_T101 l0 a0).f1).length b3],.int .i64 a3] ?_;(with_reducible refine(laws_szCmd.calls k2 ((rd_T101 l0 a0).f0) _ _ ((rd_T101 l0 a0).f1) a3 b1 _ ?s1 ?s2 A7.out).mono ?_);(case s1=>exact zC (Kd.C_below b5.out HB.out));(case s2=>exact b6.out);rintro e d2 ⟨rfl,hb⟩;refine⟨_,rfl,?_⟩;replace HB:=zA (below_step (zB) hb);(try clear hb)))
      go_roundg k2
      case measure=>have:=c1.out;have:=c3.out;omega
      case rel=>exact⟨(b1),(wrap64 (a0+1)),zS,zS,H',⟨by have:=c1.out;have:=c3.out;omega⟩,⟨zB⟩⟩
     obtain rfl:=zm H;go_wp2;go_ret;exact⟨zE,zB⟩
/-! ### laws_szPack: function 13 -/
mutual
def laws_szPack.j0:Nat→Int→ByteArray→List ByteArray→List (S99)→List (S101)→Option (Int)
 | 0,_,_,_,_,_=>none
 | k+1,x1,a3,a0,a1,a2=>(laws_szStringS.f k a0 x1).bind fun a4=>(if a4<0 then (some (-1)) else (laws_szPack.j1 k a4 a3 a0 a1 a2))
def laws_szPack.j1:Nat→Int→ByteArray→List ByteArray→List (S99)→List (S101)→Option (Int)
 | 0,_,_,_,_,_=>none
 | k+1,x1,a3,a0,a1,a2=>(laws_szNeedS.f k a1 x1).bind fun a5=>(if a5<0 then (some (-1)) else ((laws_szCmdS.f k a2 a5).bind fun a6=>(if a6<0 then (some (-1)) else (some a6))))
end
def laws_szPack.f (k:Nat) (a0:ByteArray) (a2:List ByteArray) (a3:List (S99)) (a4:List (S101)) (a1:Int):Option (Int):=if (wrap64 (a1-(a0.size:Int)))<0 then (some (-1)) else (laws_szPack.j0 k (wrap64 (a1-(a0.size:Int))) a0 a2 a3 a4)
theorem laws_szPack.calls (k:Nat) (a5:ByteArray) (b3:Option Addr) (b4:Nat) (a4:List ByteArray) (a6:Option Addr) (a7:Nat) (a2:List (S99)) (a9:Option Addr) (b0:Nat) (a3:List (S101)) (a1 r:Int) (w:World) (c4:Kd.C Kd.string w b3 a4.length a4) (c5:a4.length≤b4) (c7:Kd.C k99 w a6 a2.length a2) (c8:a2.length≤a7) (c9:Kd.C k101 w a9 a3.length a3) (d0:a3.length≤b0) (h:laws_szPack.f k a5 a4 a2 a3 a1=some r) :
  Calls Try.prog 13 #[.agg #[.string a5,.slice b3 a4.length b4,.slice a6 a2.length a7,.slice a9 a3.length b0],.int .i64 a1] w fun e w'=>e=.returned (.int .i64 r)∧Below w.heap.size w w':=by
 have g1:=Try.underlying39;have e8:=zA c4;have e9:=zA c5;clear c4 c5;have b7:=zA c7;have b8:=zA c8;clear c7 c8;have d1:=zA c9;have d2:=zA d0;clear c9 d0;have HB:=zA (Below.refl w.heap.size w);unfold laws_szPack.f at h;have H:=h;clear h;have b9:=zA H;clear H;go_enter Try.func13,Try.ntmps13;go_upto_if 11 with (first|((with_reducible refine zd 2 ?_);refine ze 2 39 #[.string a5,.slice b3 a4.length b4,.slice a6 a2.length a7,.slice a9 a3.length b0] ?_;intro d3 hg w4 hbox hb;have a0:=zA (hbox);have g2:=zi HB hg;have g3:=zi HB hg;replace HB:=zA (below_step (zB) hb);clear hb hbox hg;obtain⟨d4,d5,d6,d7,d8,d9,e0,e1⟩:=ze4 a0.out))
 (try simp only[Act.put,zT]);go_cut [] (fun wc=>∃ (kq:Nat),Aside0 (laws_szPack.j0 kq (wrap64 (a1-(a5.size:Int))) a5 a4 a2 a3=some r)∧Aside0 (kq≤k)∧Aside0 (wc.heap[d3]?=some (.cells #[.string a5,(.slice b3 a4.length b4),(.slice a6 a2.length a7),(.slice a9 a3.length b0)] 39 (0,0)))∧Aside0 (Below w.heap.size w wc))
 case first=>
  have H:=b9.out;clear b9;replace H:=zI0 H;rcases H with ⟨b1,H⟩|⟨b1,H⟩
  ·(first|rw[b1]|(simp only[i64_w,i32_w];rw[b1])|skip);obtain rfl:=zm H;go_wp2;go_ret;exact⟨zE,zW HB.out⟩
  (first|rw[b1]|(simp only[i64_w,i32_w];rw[b1])|skip);have H':=zA H;clear H;go_wp2;go_meet
  case rel=>exact⟨_,(by first|exact H'|(subst_vars;exact H')),⟨by first|omega|exact Nat.le_refl _⟩,⟨zK a0.out⟩,⟨zW HB.out⟩⟩
 case rest=>
  clear b9;(try clear d4 d5 d6 d7 d8 d9 e0 e1);obtain⟨kq,HA,f0,a0,HB⟩:=hcut;cases kq with
  | zero=>exact absurd HA.out (by simp[laws_szPack.j0])
  | succ e2=>
   have H:=HA.out;clear HA;simp only[laws_szPack.j0] at H;replace H:=Option.bind_eq_some_iff.mp H;obtain⟨a8,e3,H⟩:=H;(try dsimp only at H);have A7:=zA e3;clear e3;have c0:=zA H;clear H;obtain⟨f1,f2,f3,f4,f5,f6,f7,f8⟩:=ze4 a0.out;go_upto_if 17 with (first|((with_reducible refine zq 27 ?_);refine zg (some 15) Try.func27 #[.slice b3 a4.length b4,.int .i64 (wrap64 (a1-(a5.size:Int)))] ?_;(with_reducible refine(laws_szStringS.calls e2 _ _ a4 (wrap64 (a1-(a5.size:Int))) a8 _ ?s1 ?s2 A7.out).mono ?_);(case s1=>exact zC (Kd.C_below e8.out HB.out));(case s2=>exact e9.out);rintro e w' ⟨rfl,⟨nd,rfl⟩⟩;refine⟨_,rfl,?_⟩))
   (try simp only[Act.put,zT]);go_cut [] (fun wc=>∃ (kq:Nat),Aside0 (laws_szPack.j1 kq a8 a5 a4 a2 a3=some r)∧Aside0 (kq≤e2)∧Aside0 (wc.heap[d3]?=some (.cells #[.string a5,(.slice b3 a4.length b4),(.slice a6 a2.length a7),(.slice a9 a3.length b0)] 39 (0,0)))∧Aside0 (Below w.heap.size w wc))
   case first=>
    have H:=c0.out;clear c0;replace H:=zI0 H;rcases H with ⟨b5,H⟩|⟨b5,H⟩
    ·(first|rw[b5]|(simp only[i64_w,i32_w];rw[b5])|skip);obtain rfl:=zm H;go_wp2;go_ret;exact⟨zE,zW HB.out⟩
    (first|rw[b5]|(simp only[i64_w,i32_w];rw[b5])|skip);have H':=zA H;clear H;go_wp2;go_meet
    case rel=>exact⟨_,(by first|exact H'|(subst_vars;exact H')),⟨by have:=f0.out;first|omega|exact Nat.le_refl _⟩,⟨zK a0.out⟩,⟨zW HB.out⟩⟩
   case rest=>
    clear c0;(try clear f1 f2 f3 f4 f5 f6 f7 f8);obtain⟨kq,HA,g4,a0,HB⟩:=hcut;cases kq with
    | zero=>exact absurd HA.out (by simp[laws_szPack.j1])
    | succ b6=>
     have H:=HA.out;clear HA;simp only[laws_szPack.j1] at H;replace H:=Option.bind_eq_some_iff.mp H;obtain⟨b2,e4,H⟩:=H;(try dsimp only at H);have c3:=zA e4;clear e4;replace H:=zI0 H;rcases H with ⟨f9,H⟩|⟨f9,H⟩
     ·obtain rfl:=zm H;obtain⟨g5,g6,g7,g8,g9,h0,h1,h2⟩:=ze4 a0.out;go_wp2_with (first|((with_reducible refine zq 40 ?_);refine zg (some 21) Try.func40 #[.slice a6 a2.length a7,.int .i64 a8] ?_;(with_reducible refine(laws_szNeedS.calls b6 _ _ a2 a8 b2 _ ?s1 ?s2 c3.out).mono ?_);(case s1=>exact zC (Kd.C_below b7.out HB.out));(case s2=>exact b8.out);rintro e h3 ⟨rfl,hb⟩;refine⟨_,rfl,?_⟩;replace a0:=zb a0 hb;replace HB:=zh HB hb;(try clear hb)))
      go_ret;exact⟨zE,zW HB.out⟩
     replace H:=Option.bind_eq_some_iff.mp H;obtain⟨e5,e6,H⟩:=H;(try dsimp only at H);have e7:=zA e6;clear e6;replace H:=zI0 H;rcases H with ⟨g0,H⟩|⟨g0,H⟩
     ·obtain rfl:=zm H;obtain⟨h4,h5,h6,h7,h8,h9,i0,i1⟩:=ze4 a0.out;go_wp2_with (first|((with_reducible refine zq 40 ?_);refine zg (some 21) Try.func40 #[.slice a6 a2.length a7,.int .i64 a8] ?_;(with_reducible refine(laws_szNeedS.calls b6 _ _ a2 a8 b2 _ ?s1 ?s2 c3.out).mono ?_);(case s1=>exact zC (Kd.C_below b7.out HB.out));(case s2=>exact b8.out);rintro e i2 ⟨rfl,hb⟩;refine⟨_,rfl,?_⟩;replace a0:=zb a0 hb;replace HB:=zh HB hb;(try clear hb);obtain⟨i3,i4,i5,i6,i7,i8,i9,j2⟩:=ze4 a0.out)|((with_reducible refine zq 41 ?_);refine zg (some 27) Try.func41 #[.slice a9 a3.length b0,.int .i64 b2] ?_;(with_reducible refine(laws_szCmdS.calls b6 _ _ a3 b2 e5 _ ?s1 ?s2 e7.out).mono ?_);(case s1=>exact zC (Kd.C_below d1.out HB.out));(case s2=>exact d2.out);rintro e j3 ⟨rfl,hb⟩;refine⟨_,rfl,?_⟩;replace a0:=zb a0 hb;replace HB:=zh HB hb;(try clear hb)))
      go_ret;exact⟨zE,zW HB.out⟩
     obtain rfl:=zm H;obtain⟨j4,j5,j6,j7,j8,j9,k0,k1⟩:=ze4 a0.out;go_wp2_with (first|((with_reducible refine zq 40 ?_);refine zg (some 21) Try.func40 #[.slice a6 a2.length a7,.int .i64 a8] ?_;(with_reducible refine(laws_szNeedS.calls b6 _ _ a2 a8 b2 _ ?s1 ?s2 c3.out).mono ?_);(case s1=>exact zC (Kd.C_below b7.out HB.out));(case s2=>exact b8.out);rintro e k2 ⟨rfl,hb⟩;refine⟨_,rfl,?_⟩;replace a0:=zb a0 hb;replace HB:=zh HB hb;(try clear hb);obtain⟨k3,k4,k5,k6,k7,k8,k9,l0⟩:=ze4 a0.out)|((with_reducible refine zq 41 ?_);refine zg (some 27) Try.func41 #[.slice a9 a3.length b0,.int .i64 b2] ?_;(with_reducible refine(laws_szCmdS.calls b6 _ _ a3 b2 e5 _ ?s1 ?s2 e7.out).mono ?_);(case s1=>exact zC (Kd.C_below d1.out HB.out));(case s2=>exact d2.out);rintro e l1 ⟨rfl,hb⟩;refine⟨_,rfl,?_⟩;replace a0:=zb a0 hb;replace HB:=zh HB hb;(try clear hb)))
     go_ret;exact⟨zE,zW HB.out⟩
/-! ### spec_l7TextVal: function 42 -/
def spec_l7TextVal.f (a0:ByteArray):Option (Int × Int × ByteArray × (List (S29)) × List ByteArray):=some (3,0,a0,([]:List (S29)),([]:List ByteArray))
theorem spec_l7TextVal.calls (a0:ByteArray) (r1 r2:Int) (r3:ByteArray) (r4:List (S29)) (r5:List ByteArray) (w:World) (h:spec_l7TextVal.f a0=some (r1,r2,r3,r4,r5)) :
  Calls Try.prog 42 #[.string a0] w fun e w'=>∃ a2 a1:Value,e=.returned (.agg #[.int .i64 r1,.int .i64 r2,.string r3,a2,a1])∧Kd.S k29 29 w' w.heap.size (fun k_=>some k_≠(a1:Value).ownBlock) a2 r4∧Kd.R Kd.string 9 w' w.heap.size (fun _=>True) a1 r5∧Below w.heap.size w w':=by
 have a5:=Try.underlying29;have HB:=zA (Below.refl w.heap.size w);unfold spec_l7TextVal.f at h;have H:=h;clear h;simp only[zU] at H;obtain⟨rfl,rfl,rfl,rfl,rfl⟩:=H;go_enter Try.func42,Try.ntmps42;go_wp2_with (first|((with_reducible refine zd 2 ?_);refine ze 2 29 #[.int .i64 0,.int .i64 0,.string (⟨#[]⟩:ByteArray),.slice none 0 0,.slice none 0 0] ?_;intro a4 hg w2 hbox hb;have a3:=zA (hbox);have a6:=zi HB hg;have a7:=zi HB hg;replace HB:=zA (below_step (zB) hb);clear hb hbox hg;obtain⟨a8,a9,b0,b1,b2,b3,b4,b5,b6,b7⟩:=ze5 a3.out))
 refine bodyPost_ret (results_cell_row rfl _ _ a4 29 #[.int .i64 3,.int .i64 0,.string a0,.slice none 0 0,.slice none 0 0] (0,0) _ rfl (by(with_reducible repeat(first|refine blk_drewN ?_ _|refine blk_drew ?_|refine blk_alloc ?_ _));refine blk_put (cs:=#[.int .i64 3,.int .i64 0,.string a0,.slice none 0 0,.slice none 0 0]) ?_ 4 _ rfl;(with_reducible repeat(first|refine blk_drewN ?_ _|refine blk_drew ?_|refine blk_alloc ?_ _));refine blk_put (cs:=#[.int .i64 3,.int .i64 0,.string a0,.slice none 0 0,.slice none 0 0]) ?_ 3 _ rfl;(with_reducible repeat(first|refine blk_drewN ?_ _|refine blk_drew ?_|refine blk_alloc ?_ _));refine blk_put (cs:=#[.int .i64 3,.int .i64 0,.string (⟨#[]⟩:ByteArray),.slice none 0 0,.slice none 0 0]) ?_ 2 _ rfl;(with_reducible repeat(first|refine blk_drewN ?_ _|refine blk_drew ?_|refine blk_alloc ?_ _));refine blk_put (cs:=#[.int .i64 3,.int .i64 0,.string (⟨#[]⟩:ByteArray),.slice none 0 0,.slice none 0 0]) ?_ 1 _ rfl;(with_reducible repeat(first|refine blk_drewN ?_ _|refine blk_drew ?_|refine blk_alloc ?_ _));refine blk_put (cs:=#[.int .i64 0,.int .i64 0,.string (⟨#[]⟩:ByteArray),.slice none 0 0,.slice none 0 0]) ?_ 0 _ rfl;(with_reducible repeat(first|refine blk_drewN ?_ _|refine blk_drew ?_|refine blk_alloc ?_ _));exact a3.out) Try.underlying29 rfl (by kernel_rfl)) rfl ?_;exact⟨_,_,zE,by first|exact Kd.S_nil _ _ _ _ _|exact Kd.N_nil _ _ _ _ _|exact Kd.V_nil _ _ _ _ _|exact Kd.Q_nil _ _ _ _ _|exact Kd.R_nil _ _ _ _ _,by first|exact Kd.R_nil _ _ _ _ _|exact Kd.N_nil _ _ _ _ _|exact Kd.V_nil _ _ _ _ _|exact Kd.Q_nil _ _ _ _ _|exact Kd.S_nil _ _ _ _ _,zW HB.out⟩
end Go.Proofs.Ytglhniiabhknoaa.PGC

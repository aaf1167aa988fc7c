/- The walks of the functions that these laws reach, and what each comes to: printed by this session's program. -/
import Derived.Test.YtglhniiabhknoaaGreatDoorZGCPGCx0
import Derived.Test.YtglhniiabhknoaaGreatDoorZGCPGCx6
import Derived.Test.YtglhniiabhknoaaGreatDoorZGCPGCx15
import Derived.Test.YtglhniiabhknoaaGreatDoorZGCSays
import Derived.Test.YtglhniiabhknoaaGreatDoorZGCRegN
namespace Go.Proofs.YtglhniiabhknoaaGreatDoor.PGC
open Go.RowKit YtglhniiabhknoaaGreatDoorW.PrintWords YtglhniiabhknoaaGreatDoorW.PrintLast YtglhniiabhknoaaGreatDoorW.PrintMore
attribute [local go_sem high] Mine.str_gtr Mine.str_leq Mine.str_geq
attribute [local go_sem] max2_int min2_int max_two min_two max_three min_three max_four min_four   -- for this text's walks alone
set_option linter.unusedVariables false
set_option maxHeartbeats 8000000
set_option maxRecDepth 100000
set_option linter.unusedSimpArgs false
/-! ### laws_FnExactParseRange: function 5 -/
mutual
def laws_FnExactParseRange.j0:Nat→ByteArray→Option (Bool)
 | 0,_=>none
 | k+1,x0=>(spec_ParseRange.f k x0).bind fun a0=>((impl_ParseRange.f k x0).bind fun a1=>((laws_eqCmpSS.f k a1.1 a0.1).bind fun a6=>(if a6=true then (laws_FnExactParseRange.j1 k x0 a0.1 a0.2 a1.1 (a1.2 != a0.2)) else (laws_FnExactParseRange.j1 k x0 a0.1 a0.2 a1.1 true))))
def laws_FnExactParseRange.j1:Nat→ByteArray→List (List (S34))→Bool→List (List (S34))→Bool→Option (Bool)
 | 0,_,_,_,_,_=>none
 | k+1,x0,x3,x4,x5,a7=>if a7=true then (none) else (laws_FnExactParseRange.j2 k x0 x3 x4 x5)
def laws_FnExactParseRange.j2:Nat→ByteArray→List (List (S34))→Bool→List (List (S34))→Option (Bool)
 | 0,_,_,_,_=>none
 | k+1,x0,x3,x4,x5=>(laws_markCmpSS.f k x5 1).bind fun a2=>((laws_heldCmpSS.f k a2.2 1).bind fun a3=>(if a3<0 then (none) else (laws_FnExactParseRange.j3 k x0 x3 x4 a2.2 a2.1 a3)))
def laws_FnExactParseRange.j3:Nat→ByteArray→List (List (S34))→Bool→List (List (S34))→Int→Int→Option (Bool)
 | 0,_,_,_,_,_,_=>none
 | k+1,x0,x3,x4,x5,x7,x8=>if x8=x7 then (laws_FnExactParseRange.j4 k x0 x3 x4 x5 x7) else (none)
def laws_FnExactParseRange.j4:Nat→ByteArray→List (List (S34))→Bool→List (List (S34))→Int→Option (Bool)
 | 0,_,_,_,_,_=>none
 | k+1,x0,x3,x4,x5,x7=>(impl_ParseRange.f k x0).bind fun a4=>((laws_eqCmpSS.f k a4.1 x3).bind fun a8=>(if a8=true then (laws_FnExactParseRange.j5 k x5 x7 (a4.2 != x4)) else (laws_FnExactParseRange.j5 k x5 x7 true)))
def laws_FnExactParseRange.j5:Nat→List (List (S34))→Int→Bool→Option (Bool)
 | 0,_,_,_=>none
 | k+1,x5,x7,a9=>if a9=true then (none) else (laws_FnExactParseRange.j6 k x5 x7)
def laws_FnExactParseRange.j6:Nat→List (List (S34))→Int→Option (Bool)
 | 0,_,_=>none
 | k+1,x5,x7=>(laws_heldCmpSS.f k x5 1).bind fun a5=>(if a5<0 then (none) else (if a5=x7 then (some true) else (none)))
end
def laws_FnExactParseRange.f (k:Nat) (a0:ByteArray):Option (Bool):=if (a0.size:Int)>1048576 then (some true) else (laws_FnExactParseRange.j0 k a0)
theorem laws_FnExactParseRange.calls (k:Nat) (a0:ByteArray) (r:Bool) (w:World) (hG:GW w) (h:laws_FnExactParseRange.f k a0=some r) :
  Calls Tryz.prog 5 #[.string a0] w fun e w'=>e=.returned (.bool r)∧Below w.heap.size w w':=by
 have HG:=zA hG;clear hG;have HB:=zA (Below.refl w.heap.size w);unfold laws_FnExactParseRange.f at h;have H:=h;clear h;have d9:=zA H;clear H;go_enter Tryz.func5,Tryz.ntmps5;go_upto_if 13 with (fail)
 go_cut [] (fun wc=>∃ (kq:Nat),Aside0 (laws_FnExactParseRange.j0 kq a0=some r)∧Aside0 (kq≤k)∧Aside0 (Below w.heap.size w wc))
 case first=>
  have H:=d9.out;clear d9;replace H:=zI1 H;rcases H with ⟨c3,H⟩|⟨c3,H⟩
  ·have a8:decide (1048576<(a0.size:Int))=true:=decide_eq_true c3;have b5:decide (1048576<a0.size)=true:=decide_eq_true (by omega);clear c3;(first|rw[a8]|(simp only[i64_w,i32_w];rw[a8])|skip);obtain rfl:=zm H;go_wp2;go_ret;exact⟨zE,zB⟩
  have a8:decide (1048576<(a0.size:Int))=false:=decide_eq_false c3;have b5:decide (1048576<a0.size)=false:=decide_eq_false (by omega);clear c3;(first|rw[a8]|(simp only[i64_w,i32_w];rw[a8])|skip);have H':=zA H;clear H;go_wp2;go_meet
  case rel=>exact⟨_,(by first|exact H'|(subst_vars;exact H')),⟨by first|omega|exact Nat.le_refl _⟩,⟨zB⟩⟩
 case rest=>
  clear d9;obtain⟨kq,HA,b6,HB⟩:=hcut;cases kq with
  | zero=>exact absurd HA.out (by simp[laws_FnExactParseRange.j0])
  | succ d0=>
   have H:=HA.out;clear HA;simp only[laws_FnExactParseRange.j0] at H;replace H:=Option.bind_eq_some_iff.mp H;obtain⟨⟨a4,b8⟩,f4,H⟩:=H;(try dsimp only at H);have A4:=zA f4;clear f4;replace H:=Option.bind_eq_some_iff.mp H;obtain⟨⟨a5,f5⟩,f6,H⟩:=H;(try dsimp only at H);have A5:=zA f6;clear f6;have e0:=zA H;clear H;go_upto_region 5 with (first|((with_reducible refine zq 9 ?_);refine zg (some 16) Tryz.func9 #[.string a0] ?_;(with_reducible refine(spec_ParseRange.calls d0 a0 a4 b8 _ A4.out).mono ?_);rintro e w7 ⟨b3,rfl,b0,hb⟩;refine⟨_,rfl,?_⟩;have a6:=zA (Kd.N_lower (Kd.N_mono (ok':=fun k_=>True) b0 (fun k_ hk_=>trivial)) (below_size (zB)));replace HB:=zA (below_step (zB) hb);(try clear hb b0))|((with_reducible refine zq 8 ?_);refine zg (some 21) Tryz.func8 #[.string a0] ?_;(with_reducible refine(impl_ParseRange.calls d0 a0 a5 f5 _ ?s1 A5.out).mono ?_);(case s1=>exact GW.below HG.out (zB));rintro e w8 ⟨d5,rfl,b0,hb⟩;refine⟨_,rfl,?_⟩;obtain⟨a7,e1⟩:=Deep.named hb;have a9:=zA (Kd.S_lower (Kd.S_new' (Deep.S_newT e1 b0) (Kd.N_lt (zN a6.out))) (below_size (zB)));replace a6:=zA (Deep.N_oldT e1 (Kd.N_told (Kd.N_old (zN a6.out) hb) (Kd.S_base b0)));replace HB:=zA (below_step (zB) hb);clear e1;(try clear hb b0)))
   (try simp only[Act.put,zT]);go_cut [32] (fun g9 wc=>∃ (kq:Nat) (e2:Bool),g9=.bool e2∧Aside0 (laws_FnExactParseRange.j1 kq a0 a4 b8 a5 e2=some r)∧Aside0 (kq≤d0)∧Aside0 (Kd.N (Kd.slice 34 k34) 70 wc w.heap.size (fun k_=>some k_≠(d5:Value).ownBlock∧¬a7 k_) b3 a4)∧Aside0 (Kd.S (Deep.sslice 34 k34) 70 wc w.heap.size (fun k_=>some k_≠(b3:Value).ownBlock∧a7 k_) d5 a5)∧Aside0 (Below w.heap.size w wc))
   case first=>
    have H:=e0.out;clear e0;replace H:=Option.bind_eq_some_iff.mp H;obtain⟨l3,f7,H⟩:=H;(try dsimp only at H);have f8:=zA f7;clear f7;replace H:=zB0 H;rcases H with ⟨rfl,H⟩|⟨rfl,H⟩
    ·have H':=zA H;clear H;obtain⟨h0,h1,h2⟩:=Kd.S_slice a9.out;subst h2;obtain⟨h3,h4,h5⟩:=Kd.N_slice a6.out;subst h5;go_wp2_with (first|((with_reducible refine zq 34 ?_);refine zg (some 26) Tryz.func34 #[.slice h0 a5.length h1,.slice h3 a4.length h4] ?_;(with_reducible refine(laws_eqCmpSS.calls d0 _ _ a5 _ _ a4 true _ ?s1 ?s2 ?s3 ?s4 f8.out).mono ?_);(case s1=>exact zC (Kd.S_reads' a9.out).2.2);(case s2=>exact(Kd.S_reads' a9.out).2.1);(case s3=>exact zC (Kd.N_reads' a6.out).2.2);(case s4=>exact(Kd.N_reads' a6.out).2.1);rintro e l4 ⟨rfl,hb⟩;refine⟨_,rfl,?_⟩;replace a6:=zA (Kd.N_below (zN a6.out) hb);replace a9:=zA (Kd.S_below (by(with_reducible repeat(first|apply Kd.S_alloc|apply Kd.S_drewN|apply Kd.S_drew));exact a9.out) hb);replace HB:=zA (below_step (zB) hb);(try clear hb)))
     go_meet
     case rel=>exact⟨_,((f5 != b8)),zS,(by first|exact H'|(subst_vars;exact H')),⟨by have:=b6.out;first|omega|exact Nat.le_refl _⟩,⟨zNt (Kd.N_mono a6.out (fun _ hk=>⟨hk.1.2,hk.2⟩))⟩,⟨by(with_reducible repeat(first|apply Kd.S_alloc|apply Kd.S_drewN|apply Kd.S_drew));exact Kd.S_mono a9.out (fun _ hk=>⟨hk.2,hk.1.2⟩)⟩,⟨zB⟩⟩
    have H':=zA H;clear H;obtain⟨h6,h7,h8⟩:=Kd.S_slice a9.out;subst h8;obtain⟨h9,i0,i1⟩:=Kd.N_slice a6.out;subst i1;go_wp2_with (first|((with_reducible refine zq 34 ?_);refine zg (some 26) Tryz.func34 #[.slice h6 a5.length h7,.slice h9 a4.length i0] ?_;(with_reducible refine(laws_eqCmpSS.calls d0 _ _ a5 _ _ a4 false _ ?s1 ?s2 ?s3 ?s4 f8.out).mono ?_);(case s1=>exact zC (Kd.S_reads' a9.out).2.2);(case s2=>exact(Kd.S_reads' a9.out).2.1);(case s3=>exact zC (Kd.N_reads' a6.out).2.2);(case s4=>exact(Kd.N_reads' a6.out).2.1);rintro e l5 ⟨rfl,hb⟩;refine⟨_,rfl,?_⟩;replace a6:=zA (Kd.N_below (zN a6.out) hb);replace a9:=zA (Kd.S_below (by(with_reducible repeat(first|apply Kd.S_alloc|apply Kd.S_drewN|apply Kd.S_drew));exact a9.out) hb);replace HB:=zA (below_step (zB) hb);(try clear hb)))
    go_meet
    case rel=>exact⟨_,(true),zS,(by first|exact H'|(subst_vars;exact H')),⟨by have:=b6.out;first|omega|exact Nat.le_refl _⟩,⟨zNt (Kd.N_mono a6.out (fun _ hk=>⟨hk.1.2,hk.2⟩))⟩,⟨by(with_reducible repeat(first|apply Kd.S_alloc|apply Kd.S_drewN|apply Kd.S_drew));exact Kd.S_mono a9.out (fun _ hk=>⟨hk.2,hk.1.2⟩)⟩,⟨zB⟩⟩
   case rest=>
    clear e0;obtain⟨kq,e2,rfl,HA,c0,a2,a1,HB⟩:=hcut;cases kq with
    | zero=>exact absurd HA.out (by simp[laws_FnExactParseRange.j1])
    | succ i2=>
     have H:=HA.out;clear HA;simp only[laws_FnExactParseRange.j1] at H;have e3:=zA H;clear H;go_upto_if 32 with (fail)
     go_cut [] (fun wc=>∃ (kq:Nat),Aside0 (laws_FnExactParseRange.j2 kq a0 a4 b8 a5=some r)∧Aside0 (kq≤i2)∧Aside0 (Kd.N (Kd.slice 34 k34) 70 wc w.heap.size (fun k_=>some k_≠(d5:Value).ownBlock∧¬a7 k_) b3 a4)∧Aside0 (Kd.S (Deep.sslice 34 k34) 70 wc w.heap.size (fun k_=>some k_≠(b3:Value).ownBlock∧a7 k_) d5 a5)∧Aside0 (Below w.heap.size w wc))
     case first=>
      have H:=e3.out;clear e3;replace H:=zB0 H;rcases H with ⟨rfl,H⟩|⟨rfl,H⟩
      ·exact absurd H (by simp)
      have H':=zA H;clear H;go_wp2;go_meet
      case rel=>exact⟨_,(by first|exact H'|(subst_vars;exact H')),⟨by have:=b6.out;have:=c0.out;first|omega|exact Nat.le_refl _⟩,⟨zN a2.out⟩,⟨by(with_reducible repeat(first|apply Kd.S_alloc|apply Kd.S_drewN|apply Kd.S_drew));exact a1.out⟩,⟨zB⟩⟩
     case rest=>
      clear e3;obtain⟨kq,HA,d1,a2,a1,HB⟩:=hcut;cases kq with
      | zero=>exact absurd HA.out (by simp[laws_FnExactParseRange.j2])
      | succ e4=>
       have H:=HA.out;clear HA;simp only[laws_FnExactParseRange.j2] at H;replace H:=Option.bind_eq_some_iff.mp H;obtain⟨⟨d2,a3⟩,f9,H⟩:=H;(try dsimp only at H);have i3:=zA f9;clear f9;replace H:=Option.bind_eq_some_iff.mp H;obtain⟨g0,g1,H⟩:=H;(try dsimp only at H);have i4:=zA g1;clear g1;have e5:=zA H;clear H;obtain⟨b1,b2,i5⟩:=Kd.S_slice a1.out;subst i5;go_upto_if 40 with (first|((with_reducible refine zq 35 ?_);refine zg (some 35) Tryz.func35 #[.slice b1 a5.length b2,.int .i64 1] ?_;(with_reducible refine(laws_markCmpSS.calls e4 (fun k_=>(some k_≠(b3:Value).ownBlock∧a7 k_)∧w.heap.size≤k_) (.slice b1 a5.length b2) a5 1 d2 a3 w _ ?s1 ?s2 i3.out).mono ?_);(case s1=>exact zW HB.out);(case s2=>exact Kd.S_mono (Kd.S_bound a1.out) (fun _ hk=>⟨hk.1,hk.2.1⟩));rintro e l6 ⟨rfl,g2,hb,hkp⟩;refine⟨_,rfl,?_⟩;replace a2:=zA (Kd.N_mono (ok':=fun k_=>some k_≠(.slice b1 a5.length b2:Value).ownBlock∧¬a7 k_) (Kd.N_keptB (a2.out) hkp (fun k_ hk_ hs_=>(fun e_=>(hk_.2) (e_.1.2)) hs_)) (fun k_ hk_=>⟨hk_.1.1,hk_.1.2⟩));replace a1:=zA (Kd.S_mono (ok':=fun k_=>(some k_≠(b3:Value).ownBlock∧a7 k_)) g2 (fun k_ hk_=>⟨hk_.1.1,hk_.1.2⟩));replace HB:=zA (hb);(try clear hb);(try clear hkp);(try clear g2))|((with_reducible refine gate_callee (f:=36) rfl ?_);refine goesL_ (some 38) rfl rfl Tryz.func36 (by kernel_rfl) rfl #[.slice b1 a3.length b2,.int .i64 1] rfl (by(try simp only[List.map_toArray,List.map_cons,List.map_nil]);first|done|(rw[show a3.length=a5.length from(Kd.S_reads' a1.out).1.symm] <;> rfl)|rfl|(simp only[List.length_drop,List.length_take];rfl)) ?_;(with_reducible refine(laws_heldCmpSS.calls e4 _ _ a3 1 g0 _ ?s1 ?s2 i4.out).mono ?_);(case s1=>exact zC (Kd.S_reads' a1.out).2.2);(case s2=>rw[show a3.length=a5.length from(Kd.S_reads' a1.out).1.symm];exact(Kd.S_reads' a1.out).2.1);rintro e l7 ⟨rfl,hb⟩;refine⟨_,rfl,?_⟩;replace a2:=zA (Kd.N_below (zN a2.out) hb);replace a1:=zA (Kd.S_below (by(with_reducible repeat(first|apply Kd.S_alloc|apply Kd.S_drewN|apply Kd.S_drew));exact a1.out) hb);replace HB:=zA (below_step (zB) hb);(try clear hb)))
       (try simp only[Act.put,zT]);go_cut [] (fun wc=>∃ (kq:Nat),Aside0 (laws_FnExactParseRange.j3 kq a0 a4 b8 a3 d2 g0=some r)∧Aside0 (kq≤e4)∧Aside0 (Kd.N (Kd.slice 34 k34) 70 wc w.heap.size (fun k_=>some k_≠((.slice b1 a5.length b2):Value).ownBlock∧¬a7 k_) b3 a4)∧Aside0 (Kd.S (Deep.sslice 34 k34) 70 wc w.heap.size (fun k_=>some k_≠(b3:Value).ownBlock∧a7 k_) (.slice b1 a5.length b2) a3)∧Aside0 (Below w.heap.size w wc))
       case first=>
        have H:=e5.out;clear e5;replace H:=zI1 H;rcases H with ⟨b9,H⟩|⟨b9,H⟩
        ·exact absurd H (by simp)
        have c6:=decide_eq_false b9;clear b9;(first|rw[c6]|(simp only[i64_w,i32_w];rw[c6])|skip);have H':=zA H;clear H;go_wp2;go_meet
        case rel=>exact⟨_,(by first|exact H'|(subst_vars;exact H')),⟨by have:=b6.out;have:=c0.out;have:=d1.out;first|omega|exact Nat.le_refl _⟩,⟨zN a2.out⟩,⟨by(with_reducible repeat(first|apply Kd.S_alloc|apply Kd.S_drewN|apply Kd.S_drew));exact a1.out⟩,⟨zB⟩⟩
       case rest=>
        clear e5;obtain⟨kq,HA,d6,a2,a1,HB⟩:=hcut;have b7:=(Kd.S_reads' a1.out).1;rw[b7] at a1;(try simp only[b7]);(try simp only[b7] at a2);cases kq with
        | zero=>exact absurd HA.out (by simp[laws_FnExactParseRange.j3])
        | succ i6=>
         have H:=HA.out;clear HA;simp only[laws_FnExactParseRange.j3] at H;have e6:=zA H;clear H;go_upto_if 43 with (fail)
         go_cut [] (fun wc=>∃ (kq:Nat),Aside0 (laws_FnExactParseRange.j4 kq a0 a4 b8 a3 d2=some r)∧Aside0 (kq≤i6)∧Aside0 (Kd.N (Kd.slice 34 k34) 70 wc w.heap.size (fun k_=>some k_≠((.slice b1 a3.length b2):Value).ownBlock∧¬a7 k_) b3 a4)∧Aside0 (Kd.S (Deep.sslice 34 k34) 70 wc w.heap.size (fun k_=>some k_≠(b3:Value).ownBlock∧a7 k_) (.slice b1 a3.length b2) a3)∧Aside0 (Below w.heap.size w wc))
         case first=>
          have H:=e6.out;clear e6;replace H:=zC0 H;obtain⟨c7,H⟩:=H;have d3:=beq_iff_eq.mpr c7;have e7:=bne_eq_false_iff_eq.mpr c7;clear c7;(first|rw[d3]|(simp only[i64_w,i32_w];rw[d3])|skip);have H':=zA H;clear H;go_wp2;go_meet
          case rel=>exact⟨_,(by first|exact H'|(subst_vars;exact H')),⟨by have:=b6.out;have:=c0.out;have:=d1.out;have:=d6.out;first|omega|exact Nat.le_refl _⟩,⟨by(try simp only[b7]);(with_reducible repeat(first|apply Kd.N_alloc|apply Kd.N_drewN|apply Kd.N_drew));exact a2.out⟩,⟨by(try simp only[b7]);(with_reducible repeat(first|apply Kd.S_alloc|apply Kd.S_drewN|apply Kd.S_drew));exact a1.out⟩,⟨zB⟩⟩
         case rest=>
          clear e6;obtain⟨kq,HA,e8,a2,a1,HB⟩:=hcut;cases kq with
          | zero=>exact absurd HA.out (by simp[laws_FnExactParseRange.j4])
          | succ d7=>
           have H:=HA.out;clear HA;simp only[laws_FnExactParseRange.j4] at H;replace H:=Option.bind_eq_some_iff.mp H;obtain⟨⟨d4,g3⟩,g4,H⟩:=H;(try dsimp only at H);have i7:=zA g4;clear g4;have e9:=zA H;clear H;go_upto_region 16 with (first|((with_reducible refine zq 8 ?_);refine zg (some 46) Tryz.func8 #[.string a0] ?_;(with_reducible refine(impl_ParseRange.calls d7 a0 d4 g3 _ ?s1 i7.out).mono ?_);(case s1=>exact GW.below HG.out (zB));rintro e l8 ⟨l9,rfl,b0,hb⟩;refine⟨_,rfl,?_⟩;obtain⟨g5,d8⟩:=Deep.named hb;have b4:=zA (Kd.S_lower (Kd.S_new' (Kd.S_new' (Deep.S_newT d8 b0) (Kd.N_lt (zN a2.out))) (Kd.S_lt (by(with_reducible repeat(first|apply Kd.S_alloc|apply Kd.S_drewN|apply Kd.S_drew));exact a1.out))) (below_size (zB)));replace a2:=zA (Deep.N_oldT d8 (Kd.N_told (Kd.N_old (zN a2.out) hb) (Kd.S_base b0)));replace a1:=zA (Deep.S_oldT d8 (Kd.S_told (Kd.S_old (by(with_reducible repeat(first|apply Kd.S_alloc|apply Kd.S_drewN|apply Kd.S_drew));exact a1.out) hb) (Kd.S_base b0)));replace HB:=zA (below_step (zB) hb);clear d8;(try clear hb b0)))
           (try simp only[Act.put,zT]);go_cut [57] (fun i8 wc=>∃ (kq:Nat) (f0:Bool),i8=.bool f0∧Aside0 (laws_FnExactParseRange.j5 kq a3 d2 f0=some r)∧Aside0 (kq≤d7)∧Aside0 (Kd.S (Deep.sslice 34 k34) 70 wc w.heap.size (fun k_=>a7 k_∧¬g5 k_) (.slice b1 a3.length b2) a3)∧Aside0 (Below w.heap.size w wc))
           case first=>
            have H:=e9.out;clear e9;replace H:=Option.bind_eq_some_iff.mp H;obtain⟨m0,g6,H⟩:=H;(try dsimp only at H);have g7:=zA g6;clear g6;replace H:=zB0 H;rcases H with ⟨rfl,H⟩|⟨rfl,H⟩
            ·have H':=zA H;clear H;obtain⟨i9,j7,j8⟩:=Kd.S_slice b4.out;subst j8;obtain⟨j9,k0,k1⟩:=Kd.N_slice a2.out;subst k1;go_wp2_with (first|((with_reducible refine zq 34 ?_);refine zg (some 51) Tryz.func34 #[.slice i9 d4.length j7,.slice j9 a4.length k0] ?_;(with_reducible refine(laws_eqCmpSS.calls d7 _ _ d4 _ _ a4 true _ ?s1 ?s2 ?s3 ?s4 g7.out).mono ?_);(case s1=>exact zC (Kd.S_reads' b4.out).2.2);(case s2=>exact(Kd.S_reads' b4.out).2.1);(case s3=>exact zC (Kd.N_reads' a2.out).2.2);(case s4=>exact(Kd.N_reads' a2.out).2.1);rintro e m1 ⟨rfl,hb⟩;refine⟨_,rfl,?_⟩;replace a2:=zA (Kd.N_below (zN a2.out) hb);replace a1:=zA (Kd.S_below (by(with_reducible repeat(first|apply Kd.S_alloc|apply Kd.S_drewN|apply Kd.S_drew));exact a1.out) hb);replace b4:=zA (Kd.S_below (by(with_reducible repeat(first|apply Kd.S_alloc|apply Kd.S_drewN|apply Kd.S_drew));exact b4.out) hb);replace HB:=zA (below_step (zB) hb);(try clear hb)))
             go_meet
             case rel=>exact⟨_,((g3 != b8)),zS,(by first|exact H'|(subst_vars;exact H')),⟨by have:=b6.out;have:=c0.out;have:=d1.out;have:=d6.out;have:=e8.out;first|omega|exact Nat.le_refl _⟩,⟨by(try simp only[b7]);(with_reducible repeat(first|apply Kd.S_alloc|apply Kd.S_drewN|apply Kd.S_drew));exact Kd.S_mono a1.out (fun _ hk=>⟨hk.1.1.2,hk.2⟩)⟩,⟨zB⟩⟩
            have H':=zA H;clear H;obtain⟨k2,k3,k4⟩:=Kd.S_slice b4.out;subst k4;obtain⟨k5,k6,k7⟩:=Kd.N_slice a2.out;subst k7;go_wp2_with (first|((with_reducible refine zq 34 ?_);refine zg (some 51) Tryz.func34 #[.slice k2 d4.length k3,.slice k5 a4.length k6] ?_;(with_reducible refine(laws_eqCmpSS.calls d7 _ _ d4 _ _ a4 false _ ?s1 ?s2 ?s3 ?s4 g7.out).mono ?_);(case s1=>exact zC (Kd.S_reads' b4.out).2.2);(case s2=>exact(Kd.S_reads' b4.out).2.1);(case s3=>exact zC (Kd.N_reads' a2.out).2.2);(case s4=>exact(Kd.N_reads' a2.out).2.1);rintro e m2 ⟨rfl,hb⟩;refine⟨_,rfl,?_⟩;replace a2:=zA (Kd.N_below (zN a2.out) hb);replace a1:=zA (Kd.S_below (by(with_reducible repeat(first|apply Kd.S_alloc|apply Kd.S_drewN|apply Kd.S_drew));exact a1.out) hb);replace b4:=zA (Kd.S_below (by(with_reducible repeat(first|apply Kd.S_alloc|apply Kd.S_drewN|apply Kd.S_drew));exact b4.out) hb);replace HB:=zA (below_step (zB) hb);(try clear hb)))
            go_meet
            case rel=>exact⟨_,(true),zS,(by first|exact H'|(subst_vars;exact H')),⟨by have:=b6.out;have:=c0.out;have:=d1.out;have:=d6.out;have:=e8.out;first|omega|exact Nat.le_refl _⟩,⟨by(try simp only[b7]);(with_reducible repeat(first|apply Kd.S_alloc|apply Kd.S_drewN|apply Kd.S_drew));exact Kd.S_mono a1.out (fun _ hk=>⟨hk.1.1.2,hk.2⟩)⟩,⟨zB⟩⟩
           case rest=>
            clear e9;obtain⟨kq,f0,rfl,HA,k8,a1,HB⟩:=hcut;cases kq with
            | zero=>exact absurd HA.out (by simp[laws_FnExactParseRange.j5])
            | succ k9=>
             have H:=HA.out;clear HA;simp only[laws_FnExactParseRange.j5] at H;have f1:=zA H;clear H;go_upto_if 57 with (fail)
             go_cut [] (fun wc=>∃ (kq:Nat),Aside0 (laws_FnExactParseRange.j6 kq a3 d2=some r)∧Aside0 (kq≤k9)∧Aside0 (Kd.S (Deep.sslice 34 k34) 70 wc w.heap.size (fun k_=>a7 k_∧¬g5 k_) (.slice b1 a3.length b2) a3)∧Aside0 (Below w.heap.size w wc))
             case first=>
              have H:=f1.out;clear f1;replace H:=zB0 H;rcases H with ⟨rfl,H⟩|⟨rfl,H⟩
              ·exact absurd H (by simp)
              have H':=zA H;clear H;go_wp2;go_meet
              case rel=>exact⟨_,(by first|exact H'|(subst_vars;exact H')),⟨by have:=b6.out;have:=c0.out;have:=d1.out;have:=d6.out;have:=e8.out;have:=k8.out;first|omega|exact Nat.le_refl _⟩,⟨by(try simp only[b7]);(with_reducible repeat(first|apply Kd.S_alloc|apply Kd.S_drewN|apply Kd.S_drew));exact a1.out⟩,⟨zB⟩⟩
             case rest=>
              clear f1;obtain⟨kq,HA,m3,a1,HB⟩:=hcut;cases kq with
              | zero=>exact absurd HA.out (by simp[laws_FnExactParseRange.j6])
              | succ l0=>
               have H:=HA.out;clear HA;simp only[laws_FnExactParseRange.j6] at H;replace H:=Option.bind_eq_some_iff.mp H;obtain⟨l1,g8,H⟩:=H;(try dsimp only at H);have l2:=zA g8;clear g8;replace H:=zI1 H;rcases H with ⟨f2,H⟩|⟨f2,H⟩
               ·exact absurd H (by simp)
               have m4:=decide_eq_false f2;clear f2;replace H:=zC0 H;obtain⟨f3,H⟩:=H;have m5:=beq_iff_eq.mpr f3;have m6:=bne_eq_false_iff_eq.mpr f3;clear f3;obtain rfl:=zm H;go_wp2_with (first|((with_reducible refine zq 36 ?_);refine zg (some 60) Tryz.func36 #[.slice b1 a3.length b2,.int .i64 1] ?_;(with_reducible refine(laws_heldCmpSS.calls l0 _ _ a3 1 l1 _ ?s1 ?s2 l2.out).mono ?_);(case s1=>exact zC (Kd.S_reads' a1.out).2.2);(case s2=>exact(Kd.S_reads' a1.out).2.1);rintro e m7 ⟨rfl,hb⟩;refine⟨_,rfl,?_⟩;replace a1:=zA (Kd.S_below (by(with_reducible repeat(first|apply Kd.S_alloc|apply Kd.S_drewN|apply Kd.S_drew));exact a1.out) hb);replace HB:=zA (below_step (zB) hb);(try clear hb)))
               go_ret;exact⟨zE,zB⟩
end Go.Proofs.YtglhniiabhknoaaGreatDoor.PGC

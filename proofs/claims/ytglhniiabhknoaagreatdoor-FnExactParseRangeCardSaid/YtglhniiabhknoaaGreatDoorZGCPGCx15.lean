/- The walks of the functions that these laws reach, and what each comes to: printed by this session's program. -/
import Derived.Test.YtglhniiabhknoaaGreatDoorZGCPGCx0
import Derived.Test.YtglhniiabhknoaaGreatDoorZGCPGCx6
import Derived.Test.YtglhniiabhknoaaGreatDoorZGCPGCx12
import Derived.Test.YtglhniiabhknoaaGreatDoorZGCSays
import Derived.Test.YtglhniiabhknoaaGreatDoorZGCRegN
import Derived.Test.YtglhniiabhknoaaGreatDoorZGCRegs
namespace Go.Proofs.YtglhniiabhknoaaGreatDoor.PGC
open Go.RowKit YtglhniiabhknoaaGreatDoorW.PrintWords YtglhniiabhknoaaGreatDoorW.PrintLast YtglhniiabhknoaaGreatDoorW.PrintMore
attribute [local go_sem high] Mine.str_gtr Mine.str_leq Mine.str_geq
attribute [local go_sem] max2_int min2_int max_two min_two max_three min_three max_four min_four   -- for this text's walks alone
set_option linter.unusedVariables false
set_option maxHeartbeats 8000000
set_option maxRecDepth 100000
set_option linter.unusedSimpArgs false
/-! ### spec_ParseRange: function 9 -/
mutual
def spec_ParseRange.l0:Nat→List (List (S34))→List ByteArray→Int→Option ((List (List (S34))) × Bool)
 | 0,_,_,_=>none
 | k+1,x4,x5,x6=>if x6<(x5.length:Int) then (spec_ParseRange.j1 k x4 x5 x6) else (if (x4.length:Int)>4 then (some ((([]:List (List (S34)))),false)) else (some (x4,true)))
def spec_ParseRange.j1:Nat→List (List (S34))→List ByteArray→Int→Option ((List (List (S34))) × Bool)
 | 0,_,_,_=>none
 | k+1,x4,x5,x6=>if 0≤x6 then (if x6<(x5.length:Int) then ((spec_l4Trim.f k (rdOf ByteArray.empty x5 x6)).bind fun a1=>((spec_Split.f k a1 32).bind fun a2=>((spec_l4List.f k a2).bind fun a0=>(if a0.2=true then ((spec_l4Good.f k a0.1).bind fun a3=>(if a3=true then (if x4.length<5864062014805 then (spec_ParseRange.l0 k (x4++[a0.1]) x5 (wrap64 (x6+1))) else (none)) else (some ((([]:List (List (S34)))),false)))) else (some ((([]:List (List (S34)))),false)))))) else (none)) else (none)
end
def spec_ParseRange.f (k:Nat) (a0:ByteArray):Option ((List (List (S34))) × Bool):=(spec_l4Sides.f k a0).bind fun a1=>(spec_ParseRange.l0 k (([]:List (List (S34)))) a1 0)
theorem spec_ParseRange.calls (k:Nat) (a0:ByteArray) (r1:List (List (S34))) (r2:Bool) (w:World) (h:spec_ParseRange.f k a0=some (r1,r2)) :
  Calls Tryz.prog 9 #[.string a0] w fun e w'=>∃ e6:Value,e=.returned (.tuple #[e6,.bool r2])∧Kd.N (Kd.slice 34 k34) 70 w' w.heap.size (fun k_=>(w.heap.size≤k_)) e6 r1∧Below w.heap.size w w':=by
 have HB:=zA (Below.refl w.heap.size w);unfold spec_ParseRange.f at h;have H:=h;clear h;obtain⟨e7,c7⟩:∃ y_:List (List (S34)),y_=(([]:List (List (S34)))):=⟨_,rfl⟩;replace H:((spec_l4Sides.f k a0).bind fun a5=>(spec_ParseRange.l0 k e7 a5 0))=some (r1,r2):=zY c7 H;have e8:=zA c7;clear c7;replace H:=Option.bind_eq_some_iff.mp H;obtain⟨a5,c3,H⟩:=H;(try dsimp only at H);have A2:=zA c3;clear c3;have H':=zA H;clear H;go_enter Tryz.func9,Tryz.ntmps9;go_wp2_with (first|((with_reducible refine gate_dst (N:=9) rfl ?_);refine zNl (Kd.slice 34 k34) 70 9 (xs:=([]:List (List (S34)))) (inner:=[]) (ok:=(fun k_=>(w.heap.size≤k_))) ((Reps.none _ _)) (fun k_ hk=>(Nat.le_trans (below_size (zB)) hk)) ?_;intro i8 w3 c5 hb hg_ hnew_;clear hg_ hnew_;(first|rw[← e8.out] at c5|(simp only[Int.reduceToNat] at c5;rw[← e8.out] at c5));have d0:=zA (Kd.N_lower c5 (below_size (zB)));replace HB:=zA (below_step (zB) hb);clear hb c5)|((with_reducible refine zq 43 ?_);refine zg (some 11) Tryz.func43 #[.string a0] ?_;(with_reducible refine(spec_l4Sides.calls k a0 a5 _ A2.out).mono ?_);rintro e w5 ⟨e9,rfl,a4,hb⟩;refine⟨_,rfl,?_⟩;replace d0:=zA (Kd.N_elder' (zN d0.out) (Kd.R_base a4) hb);have g4:=zA (Kd.R_lower (Kd.R_newM (M:=fun k_=>(w.heap.size≤k_)) a4 (below_size (zB)) (fun k_ h_=>h_)) (below_size (zB)));replace HB:=zA (below_step (zB) hb);(try clear hb a4)))
 go_loopg [4,6] k (fun kq v4 v6 w'=>∃ (b0:List (List (S34))) (a6:Int),v6=.int .i64 a6∧Aside0 (spec_ParseRange.l0 kq b0 a5 a6=some (r1,r2))∧Aside0 (kq≤k)∧Aside0 (Kd.N (Kd.slice 34 k34) 70 w' w.heap.size (fun k_=>(w.heap.size≤k_)∧some k_≠(e9:Value).ownBlock) v4 b0)∧Aside0 (Kd.R Kd.string 9 w' w.heap.size (fun k_=>(w.heap.size≤k_)) e9 a5)∧Aside0 (Below w.heap.size w w'))
 case atStart=>exact⟨(e7),(0),zS,H',⟨Nat.le_refl _⟩,⟨zN d0.out⟩,⟨zR (Kd.R_mono g4.out (fun _ hk=>hk.1))⟩,⟨zB⟩⟩
 case round=>
  clear H';obtain⟨b0,a6,rfl,HA,d1,a2,a1,HB⟩:=hrel;cases gk with
  | zero=>exact absurd HA.out (by simp[spec_ParseRange.l0])
  | succ k1=>
   have H:=HA.out;clear HA;simp only[spec_ParseRange.l0] at H;have d2:=zA H;clear H;obtain⟨d3,b1,g5⟩:=Kd.R_slice a1.out;subst g5;go_upto_if 15 with (fail)
   go_cut [] (fun wc=>∃ (kq:Nat),Aside0 (spec_ParseRange.j1 kq b0 a5 a6=some (r1,r2))∧Aside0 (kq≤k1)∧Aside0 (Kd.N (Kd.slice 34 k34) 70 wc w.heap.size (fun k_=>(w.heap.size≤k_)∧some k_≠((.slice d3 a5.length b1):Value).ownBlock) u4 b0)∧Aside0 (Kd.R Kd.string 9 wc w.heap.size (fun k_=>(w.heap.size≤k_)) (.slice d3 a5.length b1) a5)∧Aside0 (Below w.heap.size w wc))
   case first=>
    have H:=d2.out;clear d2;replace H:=zI0 H;rcases H with ⟨b9,H⟩|⟨b9,H⟩
    ·(first|rw[b9]|(simp only[i64_w,i32_w];rw[b9])|skip);have H':=zA H;clear H;go_wp2;go_meet
     case rel=>exact⟨_,(by first|exact H'|(subst_vars;exact H')),⟨by have:=d1.out;first|omega|exact Nat.le_refl _⟩,⟨zN a2.out⟩,⟨zR a1.out⟩,⟨zB⟩⟩
    (first|rw[b9]|(simp only[i64_w,i32_w];rw[b9])|skip);replace H:=zI1 H;rcases H with ⟨c9,H⟩|⟨c9,H⟩
    ·have f0:decide (4<(b0.length:Int))=true:=decide_eq_true c9;have f1:decide (4<b0.length)=true:=decide_eq_true (by omega);clear c9;obtain⟨g6,d4⟩:∃ y_:List (List (S34)),y_=(([]:List (List (S34)))):=⟨_,rfl⟩;replace H:(some (g6,false))=some (r1,r2):=zY d4 H;have f2:=zA d4;clear d4;simp only[zU] at H;obtain⟨rfl,rfl⟩:=H;obtain⟨g7,g8,g9⟩:=Kd.N_slice a2.out;subst g9;go_wp2_with (first|((with_reducible refine gate_dst (N:=43) rfl ?_);refine zNl (Kd.slice 34 k34) 70 43 (xs:=([]:List (List (S34)))) (inner:=[]) (ok:=(fun k_=>(w.heap.size≤k_)∧some k_≠(.slice g7 b0.length g8:Value).ownBlock∧some k_≠(.slice d3 a5.length b1:Value).ownBlock)) ((Reps.none _ _)) (fun k_ hk=>⟨(Nat.le_trans (below_size (zB)) hk),Kd.fresh' (Kd.N_lt (zN a2.out)) k_ hk,Kd.fresh' (Kd.R_lt (zR a1.out)) k_ hk⟩) ?_;intro i9 j0 c0 hb hg_ hnew_;clear hg_ hnew_;(first|rw[← f2.out] at c0|(simp only[Int.reduceToNat] at c0;rw[← f2.out] at c0));replace a2:=zA (Kd.N_elder' (zN a2.out) (Kd.N_base c0) hb);replace a1:=zr a1 hb;have h0:=zA (Kd.N_lower c0 (below_size (zB)));replace HB:=zA (below_step (zB) hb);clear hb c0))
     go_ret2;exact⟨_,zE,zNt (Kd.N_mono h0.out (fun _ hk=>hk.1)),zB⟩
    have f0:decide (4<(b0.length:Int))=false:=decide_eq_false c9;have f1:decide (4<b0.length)=false:=decide_eq_false (by omega);clear c9;simp only[zU] at H;obtain⟨rfl,rfl⟩:=H;obtain⟨j2,j3,h1⟩:=Kd.N_slice a2.out;subst h1;go_wp2;go_ret2;exact⟨_,zE,zNt (Kd.N_mono a2.out (fun _ hk=>hk.1)),zB⟩
   case rest=>
    clear d2;obtain⟨kq,HA,f3,a2,a1,HB⟩:=hcut;cases kq with
    | zero=>exact absurd HA.out (by simp[spec_ParseRange.j1])
    | succ a9=>
     have H:=HA.out;clear HA;simp only[spec_ParseRange.j1] at H;replace H:=zD0 H;obtain⟨j4,H⟩:=H;replace H:=zD0 H;obtain⟨j5,H⟩:=H;replace H:=Option.bind_eq_some_iff.mp H;obtain⟨b5,f4,H⟩:=H;(try dsimp only at H);have d5:=zA f4;clear f4;replace H:=Option.bind_eq_some_iff.mp H;obtain⟨a8,f5,H⟩:=H;(try dsimp only at H);have d6:=zA f5;clear f5;replace H:=Option.bind_eq_some_iff.mp H;obtain⟨⟨b6,j6⟩,f6,H⟩:=H;(try dsimp only at H);have d7:=zA f6;clear f6;replace H:=zB0 H;rcases H with ⟨rfl,H⟩|⟨rfl,H⟩
     ·replace H:=Option.bind_eq_some_iff.mp H;obtain⟨j7,f7,H⟩:=H;(try dsimp only at H);have c3:=zA f7;clear f7;replace H:=zB0 H;rcases H with ⟨rfl,H⟩|⟨rfl,H⟩
      ·replace H:=zC0 H;obtain⟨f8,H⟩:=H;have h2:=zA f8;clear f8;obtain⟨f9,d8⟩:∃ y_:List (List (S34)),y_=(b0++[b6]):=⟨_,rfl⟩;replace H:(spec_ParseRange.l0 a9 f9 a5 (wrap64 (a6+1)))=some (r1,r2):=zY d8 H;have h3:=zA d8;clear d8;have H':=zA H;clear H;have b2:0≤(a6:Int):=zD;have b3:a6<(a5.length:Int):=zD;obtain⟨b4,c6,g0⟩:=Kd.at_string (Kd.R_reads' a1.out).2.2 a6 b2 b3;cases c6;replace b2:=eq_true b2;replace b3:=eq_true b3;go_wp2_with (first|((with_reducible refine zq 46 ?_);refine zg (some 23) Tryz.func46 #[.string (rdOf ByteArray.empty a5 a6)] ?_;(with_reducible refine(spec_l4Trim.calls a9 (rdOf ByteArray.empty a5 a6) b5 _ d5.out).mono ?_);rintro e w' ⟨rfl,⟨nd,rfl⟩⟩;refine⟨_,rfl,?_⟩)|((with_reducible refine zq 45 ?_);refine zg (some 24) Tryz.func45 #[.string b5,.int .u8 32] ?_;(with_reducible refine(spec_Split.calls a9 b5 32 a8 _ d6.out).mono ?_);rintro e j8 ⟨g1,rfl,a4,hb⟩;refine⟨_,rfl,?_⟩;replace a2:=zA (Kd.N_elder' (zN a2.out) (Kd.R_base a4) hb);have a3:=zA (Kd.R_lower (Kd.R_new' (Kd.R_newM (M:=fun k_=>(w.heap.size≤k_)) a4 (below_size (zB)) (fun k_ h_=>h_)) (Kd.R_lt (zR a1.out))) (below_size (zB)));replace a1:=zA (Kd.R_elder' (zR a1.out) (Kd.R_base a4) hb);replace HB:=zA (below_step (zB) hb);(try clear hb a4);obtain⟨c1,c2,h4⟩:=Kd.R_slice a3.out;subst h4)|((with_reducible refine zq 44 ?_);refine zg (some 25) Tryz.func44 #[.slice c1 a8.length c2] ?_;(with_reducible refine(spec_l4List.calls a9 _ _ a8 b6 true _ ?s1 ?s2 d7.out).mono ?_);(case s1=>exact zC (Kd.R_reads' a3.out).2.2);(case s2=>exact(Kd.R_reads' a3.out).2.1);rintro e j9 ⟨d9,rfl,a4,hb⟩;refine⟨_,rfl,?_⟩;have a7:=zA (Kd.N_lower (Kd.N_mono (ok':=fun k_=>(w.heap.size≤k_)∧some k_≠(u4:Value).ownBlock∧some k_≠(.slice (some b4) a5.length b1:Value).ownBlock∧some k_≠(.slice c1 a8.length c2:Value).ownBlock) a4 (fun k_ hk_=>⟨(Nat.le_trans (below_size (zB)) hk_),(Kd.fresh' (Kd.N_lt (zN a2.out)) k_ hk_),(Kd.fresh' (Kd.R_lt (zR a1.out)) k_ hk_),(Kd.fresh' (Kd.R_lt (zR a3.out)) k_ hk_)⟩)) (below_size (zB)));replace a2:=zA (Kd.N_elder' (zN a2.out) (Kd.N_base a4) hb);replace a1:=zr a1 hb;replace a3:=zr a3 hb;replace HB:=zA (below_step (zB) hb);(try clear hb a4);obtain⟨h5,h6,h7⟩:=Kd.N_slice a7.out;subst h7)|(go_at_call 47;(with_reducible refine(spec_l4Good.calls a9 _ _ b6 true _ ?s1 ?s2 c3.out).mono ?_);(case s1=>exact zC (Kd.N_reads' a7.out).2.2);(case s2=>exact(Kd.N_reads' a7.out).2.1);rintro e k0 ⟨rfl,hb⟩;replace a2:=zA (Kd.N_below (zN a2.out) hb);replace a1:=zr a1 hb;replace a3:=zr a3 hb;replace a7:=zA (Kd.N_below (zN a7.out) hb);replace HB:=zA (below_step (zB) hb);(try clear hb))|((with_reducible refine gate_builtin (b:=.append) (xs:=#[.tmp 36,.tmp 38]) rfl ?_);at_builtin;refine Kd.N_append (Kd.slice 34 k34) (w0:=w) w.heap.size rfl (.tmp 36) (.tmp 38) 25 70 (.slice none 0 0) 24 rfl Tryz.underlying25 info70 rfl (by decide) (by omega) u4 b0 b6 [.slice h5 b6.length h6] (fun k_=>(w.heap.size≤k_)∧some k_≠(.slice (some b4) a5.length b1:Value).ownBlock∧some k_≠(.slice c1 a8.length c2:Value).ownBlock) (fun k_=>((fun k_=>(w.heap.size≤k_)∧some k_≠(.slice (some b4) a5.length b1:Value).ownBlock∧some k_≠(.slice c1 a8.length c2:Value).ownBlock)) k_∧some k_≠(u4:Value).ownBlock) rfl rfl ?aP (fun _ hk=>hk) ?aF ?aO ?aB ?aS ?aL ?_;(case aP=>exact(Kd.FK_slice_mk (Kd.N_reads' (Kd.N_mono (ok':=(fun k_=>((fun k_=>(w.heap.size≤k_)∧some k_≠(.slice (some b4) a5.length b1:Value).ownBlock∧some k_≠(.slice c1 a8.length c2:Value).ownBlock)) k_∧some k_≠(u4:Value).ownBlock)) (a7.out) (fun k_ hk=>⟨⟨hk.1,⟨hk.2.2.1,hk.2.2.2⟩⟩,hk.2.1⟩))).2.1 (Kd.N_F (Kd.N_mono (ok':=(fun k_=>((fun k_=>(w.heap.size≤k_)∧some k_≠(.slice (some b4) a5.length b1:Value).ownBlock∧some k_≠(.slice c1 a8.length c2:Value).ownBlock)) k_∧some k_≠(u4:Value).ownBlock)) (a7.out) (fun k_ hk=>⟨⟨hk.1,⟨hk.2.2.1,hk.2.2.2⟩⟩,hk.2.1⟩)))));(case aB=>exact(zB));(case aF=>exact(fun k_ hk=>⟨(Nat.le_trans (below_size (zB)) hk),Kd.fresh' (Kd.R_lt (zR a1.out)) k_ hk,Kd.fresh' (Kd.R_lt (zR a3.out)) k_ hk⟩));(case aO=>exact(zNt (Kd.N_mono a2.out (fun _ hk=>⟨hk.1.1.1,⟨hk.1.1.2,hk.1.2⟩⟩))));(case aS=>exact(below_size (zB)));(case aL=>have:=h2.out;omega);intro k2 k3 ho hb hg hat;rw[← h3.out] at ho;replace a1:=zA (Kd.R_over' (zR a1.out) (Kd.N_typed (zN a2.out)) (by decide) hg);replace a3:=zA (Kd.R_over' (zR a3.out) (Kd.N_typed (zN a2.out)) (by decide) hg);replace HB:=zA (hb);have h8:=zA (ho);clear a2 a7;clear ho hb hg hat))
       go_roundg a9
       case measure=>have:=d1.out;have:=f3.out;omega
       case rel=>exact⟨(f9),(wrap64 (a6+1)),zS,H',⟨by have:=d1.out;have:=f3.out;omega⟩,⟨zNt (Kd.N_mono h8.out (fun _ hk=>⟨hk.1,hk.2.1⟩))⟩,⟨zR (Kd.R_mono a1.out (fun _ hk=>hk.1))⟩,⟨zB⟩⟩
      obtain⟨h9,e0⟩:∃ y_:List (List (S34)),y_=(([]:List (List (S34)))):=⟨_,rfl⟩;replace H:(some (h9,false))=some (r1,r2):=zY e0 H;have g2:=zA e0;clear e0;simp only[zU] at H;obtain⟨rfl,rfl⟩:=H;have b2:0≤(a6:Int):=zD;have b3:a6<(a5.length:Int):=zD;obtain⟨b4,c6,g0⟩:=Kd.at_string (Kd.R_reads' a1.out).2.2 a6 b2 b3;cases c6;replace b2:=eq_true b2;replace b3:=eq_true b3;go_wp2_with (first|((with_reducible refine zq 46 ?_);refine zg (some 23) Tryz.func46 #[.string (rdOf ByteArray.empty a5 a6)] ?_;(with_reducible refine(spec_l4Trim.calls a9 (rdOf ByteArray.empty a5 a6) b5 _ d5.out).mono ?_);rintro e w' ⟨rfl,⟨nd,rfl⟩⟩;refine⟨_,rfl,?_⟩)|((with_reducible refine zq 45 ?_);refine zg (some 24) Tryz.func45 #[.string b5,.int .u8 32] ?_;(with_reducible refine(spec_Split.calls a9 b5 32 a8 _ d6.out).mono ?_);rintro e k4 ⟨g1,rfl,a4,hb⟩;refine⟨_,rfl,?_⟩;replace a2:=zA (Kd.N_elder' (zN a2.out) (Kd.R_base a4) hb);have a3:=zA (Kd.R_lower (Kd.R_new' (Kd.R_newM (M:=fun k_=>(w.heap.size≤k_)) a4 (below_size (zB)) (fun k_ h_=>h_)) (Kd.R_lt (zR a1.out))) (below_size (zB)));replace a1:=zA (Kd.R_elder' (zR a1.out) (Kd.R_base a4) hb);replace HB:=zA (below_step (zB) hb);(try clear hb a4);obtain⟨e1,e2,i0⟩:=Kd.R_slice a3.out;subst i0)|((with_reducible refine zq 44 ?_);refine zg (some 25) Tryz.func44 #[.slice e1 a8.length e2] ?_;(with_reducible refine(spec_l4List.calls a9 _ _ a8 b6 true _ ?s1 ?s2 d7.out).mono ?_);(case s1=>exact zC (Kd.R_reads' a3.out).2.2);(case s2=>exact(Kd.R_reads' a3.out).2.1);rintro e k5 ⟨d9,rfl,a4,hb⟩;refine⟨_,rfl,?_⟩;have a7:=zA (Kd.N_lower (Kd.N_mono (ok':=fun k_=>(w.heap.size≤k_)∧some k_≠(u4:Value).ownBlock∧some k_≠(.slice (some b4) a5.length b1:Value).ownBlock∧some k_≠(.slice e1 a8.length e2:Value).ownBlock) a4 (fun k_ hk_=>⟨(Nat.le_trans (below_size (zB)) hk_),(Kd.fresh' (Kd.N_lt (zN a2.out)) k_ hk_),(Kd.fresh' (Kd.R_lt (zR a1.out)) k_ hk_),(Kd.fresh' (Kd.R_lt (zR a3.out)) k_ hk_)⟩)) (below_size (zB)));replace a2:=zA (Kd.N_elder' (zN a2.out) (Kd.N_base a4) hb);replace a1:=zr a1 hb;replace a3:=zr a3 hb;replace HB:=zA (below_step (zB) hb);(try clear hb a4);obtain⟨i1,i2,i3⟩:=Kd.N_slice a7.out;subst i3)|(go_at_call 47;(with_reducible refine(spec_l4Good.calls a9 _ _ b6 false _ ?s1 ?s2 c3.out).mono ?_);(case s1=>exact zC (Kd.N_reads' a7.out).2.2);(case s2=>exact(Kd.N_reads' a7.out).2.1);rintro e k6 ⟨rfl,hb⟩;replace a2:=zA (Kd.N_below (zN a2.out) hb);replace a1:=zr a1 hb;replace a3:=zr a3 hb;replace a7:=zA (Kd.N_below (zN a7.out) hb);replace HB:=zA (below_step (zB) hb);(try clear hb))|((with_reducible refine gate_dst (N:=35) rfl ?_);refine zNl (Kd.slice 34 k34) 70 35 (xs:=([]:List (List (S34)))) (inner:=[]) (ok:=(fun k_=>(w.heap.size≤k_)∧some k_≠(u4:Value).ownBlock∧some k_≠(.slice (some b4) a5.length b1:Value).ownBlock∧some k_≠(.slice e1 a8.length e2:Value).ownBlock∧some k_≠(.slice i1 b6.length i2:Value).ownBlock)) ((Reps.none _ _)) (fun k_ hk=>⟨(Nat.le_trans (below_size (zB)) hk),Kd.fresh' (Kd.N_lt (zN a2.out)) k_ hk,Kd.fresh' (Kd.R_lt (zR a1.out)) k_ hk,Kd.fresh' (Kd.R_lt (zR a3.out)) k_ hk,Kd.fresh' (Kd.N_lt (zN a7.out)) k_ hk⟩) ?_;intro k7 k8 b7 hb hg_ hnew_;clear hg_ hnew_;(first|rw[← g2.out] at b7|(simp only[Int.reduceToNat] at b7;rw[← g2.out] at b7));replace a2:=zA (Kd.N_elder' (zN a2.out) (Kd.N_base b7) hb);replace a1:=zr a1 hb;replace a3:=zr a3 hb;replace a7:=zA (Kd.N_elder' (zN a7.out) (Kd.N_base b7) hb);have i4:=zA (Kd.N_lower b7 (below_size (zB)));replace HB:=zA (below_step (zB) hb);clear hb b7))
      go_ret2;exact⟨_,zE,zNt (Kd.N_mono i4.out (fun _ hk=>hk.1)),zB⟩
     obtain⟨i5,e3⟩:∃ y_:List (List (S34)),y_=(([]:List (List (S34)))):=⟨_,rfl⟩;replace H:(some (i5,false))=some (r1,r2):=zY e3 H;have g3:=zA e3;clear e3;simp only[zU] at H;obtain⟨rfl,rfl⟩:=H;have b2:0≤(a6:Int):=zD;have b3:a6<(a5.length:Int):=zD;obtain⟨b4,c6,g0⟩:=Kd.at_string (Kd.R_reads' a1.out).2.2 a6 b2 b3;cases c6;replace b2:=eq_true b2;replace b3:=eq_true b3;go_wp2_with (first|((with_reducible refine zq 46 ?_);refine zg (some 23) Tryz.func46 #[.string (rdOf ByteArray.empty a5 a6)] ?_;(with_reducible refine(spec_l4Trim.calls a9 (rdOf ByteArray.empty a5 a6) b5 _ d5.out).mono ?_);rintro e w' ⟨rfl,⟨nd,rfl⟩⟩;refine⟨_,rfl,?_⟩)|((with_reducible refine zq 45 ?_);refine zg (some 24) Tryz.func45 #[.string b5,.int .u8 32] ?_;(with_reducible refine(spec_Split.calls a9 b5 32 a8 _ d6.out).mono ?_);rintro e k9 ⟨g1,rfl,a4,hb⟩;refine⟨_,rfl,?_⟩;replace a2:=zA (Kd.N_elder' (zN a2.out) (Kd.R_base a4) hb);have a3:=zA (Kd.R_lower (Kd.R_new' (Kd.R_newM (M:=fun k_=>(w.heap.size≤k_)) a4 (below_size (zB)) (fun k_ h_=>h_)) (Kd.R_lt (zR a1.out))) (below_size (zB)));replace a1:=zA (Kd.R_elder' (zR a1.out) (Kd.R_base a4) hb);replace HB:=zA (below_step (zB) hb);(try clear hb a4);obtain⟨e4,e5,i6⟩:=Kd.R_slice a3.out;subst i6)|((with_reducible refine zq 44 ?_);refine zg (some 25) Tryz.func44 #[.slice e4 a8.length e5] ?_;(with_reducible refine(spec_l4List.calls a9 _ _ a8 b6 false _ ?s1 ?s2 d7.out).mono ?_);(case s1=>exact zC (Kd.R_reads' a3.out).2.2);(case s2=>exact(Kd.R_reads' a3.out).2.1);rintro e l1 ⟨d9,rfl,a4,hb⟩;refine⟨_,rfl,?_⟩;have a7:=zA (Kd.N_lower (Kd.N_mono (ok':=fun k_=>(w.heap.size≤k_)∧some k_≠(u4:Value).ownBlock∧some k_≠(.slice (some b4) a5.length b1:Value).ownBlock∧some k_≠(.slice e4 a8.length e5:Value).ownBlock) a4 (fun k_ hk_=>⟨(Nat.le_trans (below_size (zB)) hk_),(Kd.fresh' (Kd.N_lt (zN a2.out)) k_ hk_),(Kd.fresh' (Kd.R_lt (zR a1.out)) k_ hk_),(Kd.fresh' (Kd.R_lt (zR a3.out)) k_ hk_)⟩)) (below_size (zB)));replace a2:=zA (Kd.N_elder' (zN a2.out) (Kd.N_base a4) hb);replace a1:=zr a1 hb;replace a3:=zr a3 hb;replace HB:=zA (below_step (zB) hb);(try clear hb a4))|((with_reducible refine gate_dst (N:=35) rfl ?_);refine zNl (Kd.slice 34 k34) 70 35 (xs:=([]:List (List (S34)))) (inner:=[]) (ok:=(fun k_=>(w.heap.size≤k_)∧some k_≠(u4:Value).ownBlock∧some k_≠(.slice (some b4) a5.length b1:Value).ownBlock∧some k_≠(.slice e4 a8.length e5:Value).ownBlock∧some k_≠(d9:Value).ownBlock)) ((Reps.none _ _)) (fun k_ hk=>⟨(Nat.le_trans (below_size (zB)) hk),Kd.fresh' (Kd.N_lt (zN a2.out)) k_ hk,Kd.fresh' (Kd.R_lt (zR a1.out)) k_ hk,Kd.fresh' (Kd.R_lt (zR a3.out)) k_ hk,Kd.fresh' (Kd.N_lt (zN a7.out)) k_ hk⟩) ?_;intro l2 l3 b8 hb hg_ hnew_;clear hg_ hnew_;(first|rw[← g3.out] at b8|(simp only[Int.reduceToNat] at b8;rw[← g3.out] at b8));replace a2:=zA (Kd.N_elder' (zN a2.out) (Kd.N_base b8) hb);replace a1:=zr a1 hb;replace a3:=zr a3 hb;replace a7:=zA (Kd.N_elder' (zN a7.out) (Kd.N_base b8) hb);have i7:=zA (Kd.N_lower b8 (below_size (zB)));replace HB:=zA (below_step (zB) hb);clear hb b8))
     go_ret2;exact⟨_,zE,zNt (Kd.N_mono i7.out (fun _ hk=>hk.1)),zB⟩
/-! ### laws_eqStringS: function 180 -/
mutual
def laws_eqStringS.j0:Nat→List ByteArray→List ByteArray→Option (Bool)
 | 0,_,_=>none
 | k+1,x0,x1=>laws_eqStringS.l0 k x0 x1 0
def laws_eqStringS.l0:Nat→List ByteArray→List ByteArray→Int→Option (Bool)
 | 0,_,_,_=>none
 | k+1,x0,x1,x5=>if x5<(x0.length:Int) then (if 0≤x5 then (if x5<(x1.length:Int) then (if (rdOf ByteArray.empty x0 x5).toList=(rdOf ByteArray.empty x1 x5).toList then (laws_eqStringS.l0 k x0 x1 (wrap64 (x5+1))) else (some false)) else (none)) else (none)) else (some true)
end
def laws_eqStringS.f (k:Nat) (l0 l1:List ByteArray):Option (Bool):=if (l0.length:Int)=(l1.length:Int) then (laws_eqStringS.j0 k l0 l1) else (some false)
theorem laws_eqStringS.calls (k:Nat) (A0:Option Addr) (c0:Nat) (l0:List ByteArray) (A1:Option Addr) (c1:Nat) (l1:List ByteArray) (r:Bool) (w:World) (b1:Kd.C Kd.string w A0 l0.length l0) (b2:l0.length≤c0) (b3:Kd.C Kd.string w A1 l1.length l1) (b4:l1.length≤c1) (h:laws_eqStringS.f k l0 l1=some r) :
  Calls Tryz.prog 180 #[.slice A0 l0.length c0,.slice A1 l1.length c1] w fun e w'=>e=.returned (.bool r)∧Drawn0 w w':=by
 have b5:=zA b1;have d2:=zA b2;clear b1 b2;have b6:=zA b3;have d3:=zA b4;clear b3 b4;unfold laws_eqStringS.f at h;have H:=h;clear h;have a6:=zA H;clear H;go_enter Tryz.func180,Tryz.ntmps180;go_upto_if 10 with (fail)
 repeat(go_quiet (fail);go_upto_if 10 with (fail))
 go_cut [] (fun wc=>∃ (kq:Nat),Aside0 (laws_eqStringS.j0 kq l0 l1=some r)∧Aside0 (kq≤k)∧Drawn0 w wc)
 case first=>
  have H:=a6.out;clear a6;replace H:=zI1 H;rcases H with ⟨c4,H⟩|⟨c4,H⟩
  ·have a1:=beq_iff_eq.mpr c4;have a7:=bne_eq_false_iff_eq.mpr c4;have a8:(l0.length == l1.length)=true:=by first|simpa using c4|(simp at c4 ⊢;omega)
   clear c4;(first|rw[a1]|(simp only[i64_w,i32_w];rw[a1])|skip);have H':=zA H;clear H;go_wp2;repeat(go_quiet (fail);try go_wp2)
   go_meet
   case rel=>exact⟨_,(by first|exact H'|(subst_vars;exact H')),⟨by first|omega|exact Nat.le_refl _⟩,zv0⟩
  have a1:=beq_eq_false_iff_ne.mpr c4;have a7:=bne_iff_ne.mpr c4;have a8:(l0.length == l1.length)=false:=by first|simpa using c4|(simp at c4 ⊢;omega)
  (first|rw[a1]|(simp only[i64_w,i32_w];rw[a1])|skip);obtain rfl:=zm H;go_wp2;repeat(go_quiet (fail);try go_wp2)
  go_ret;exact⟨by first|rfl|(simp;done)|(simp[*];done)|(simp;rw[Bool.eq_iff_iff];simp;done),zv0⟩
 case rest=>
  clear a6;(try clear c1);obtain⟨kq,HA,b7,⟨d4,rfl⟩⟩:=hcut;cases kq with
  | zero=>exact absurd HA.out (by simp[laws_eqStringS.j0])
  | succ b8=>
   have H:=HA.out;clear HA;simp only[laws_eqStringS.j0] at H;have H':=zA H;clear H;go_wp2;repeat(go_quiet (fail);try go_wp2)
   go_loopg [5] b8 (fun kq v5 w'=>∃ (a0:Int),v5=.int .i64 a0∧Aside0 (laws_eqStringS.l0 kq l0 l1 a0=some r)∧Aside0 (kq≤b8)∧Drawn0 w w')
   case atStart=>exact⟨(0),zS,H',⟨Nat.le_refl _⟩,zv0⟩
   case round=>
    clear H';obtain⟨a0,rfl,HA,b9,⟨m2,rfl⟩⟩:=hrel;cases gk with
    | zero=>exact absurd HA.out (by simp[laws_eqStringS.l0])
    | succ k2=>
     have H:=HA.out;clear HA;simp only[laws_eqStringS.l0] at H;replace H:=zI0 H;rcases H with ⟨c3,H⟩|⟨c3,H⟩
     ·replace H:=zD0 H;obtain⟨d5,H⟩:=H;replace H:=zD0 H;obtain⟨d6,H⟩:=H;replace H:=zI1 H;rcases H with ⟨c8,H⟩|⟨c8,H⟩
      ·have c5:=beq_iff_eq.mpr c8;have c6:=bne_eq_false_iff_eq.mpr c8;clear c8;have H':=zA H;clear H;have a2:0≤(a0:Int):=zD;have a3:a0<(l0.length:Int):=zD;obtain⟨c7,a9,c9⟩:=Kd.at_string b5.out a0 a2 a3;cases a9;replace a2:=eq_true a2;replace a3:=eq_true a3;have a4:0≤(a0:Int):=zD;have a5:a0<(l1.length:Int):=zD;obtain⟨d0,b0,d1⟩:=Kd.at_string b6.out a0 a4 a5;cases b0;replace a4:=eq_true a4;replace a5:=eq_true a5;go_wp2;repeat(go_quiet (fail);try go_wp2)
       go_roundg k2
       case measure=>have:=b7.out;have:=b9.out;omega
       case rel=>exact⟨(wrap64 (a0+1)),zS,H',⟨by have:=b7.out;have:=b9.out;omega⟩,zv0⟩
      have c5:=beq_eq_false_iff_ne.mpr c8;have c6:=bne_iff_ne.mpr c8;obtain rfl:=zm H;have a2:0≤(a0:Int):=zD;have a3:a0<(l0.length:Int):=zD;obtain⟨c7,a9,c9⟩:=Kd.at_string b5.out a0 a2 a3;cases a9;replace a2:=eq_true a2;replace a3:=eq_true a3;have a4:0≤(a0:Int):=zD;have a5:a0<(l1.length:Int):=zD;obtain⟨d0,b0,d1⟩:=Kd.at_string b6.out a0 a4 a5;cases b0;replace a4:=eq_true a4;replace a5:=eq_true a5;go_wp2;repeat(go_quiet (fail);try go_wp2)
      go_ret;exact⟨by first|rfl|(simp;done)|(simp[*];done)|(simp;rw[Bool.eq_iff_iff];simp;done),zv0⟩
     obtain rfl:=zm H;go_wp2;repeat(go_quiet (fail);try go_wp2)
     go_ret;exact⟨by first|rfl|(simp;done)|(simp[*];done)|(simp;rw[Bool.eq_iff_iff];simp;done),zv0⟩
/-! ### laws_eqVer: function 156 -/
mutual
def laws_eqVer.j0:Nat→Int→Int→Int→List ByteArray→Int→Int→Int→List ByteArray→Option (Bool)
 | 0,_,_,_,_,_,_,_,_=>none
 | k+1,a6,a0,a1,a2,a7,a3,a4,a5=>if a0=a3 then (laws_eqVer.j1 k a6 a0 a1 a2 a7 a3 a4 a5) else (some false)
def laws_eqVer.j1:Nat→Int→Int→Int→List ByteArray→Int→Int→Int→List ByteArray→Option (Bool)
 | 0,_,_,_,_,_,_,_,_=>none
 | k+1,a6,a0,a1,a2,a7,a3,a4,a5=>if a1=a4 then ((laws_eqStringS.f k a2 a5).bind fun a8=>(if a8=true then (some true) else (some false))) else (some false)
end
def laws_eqVer.f (k:Nat) (a0 a2 a3:Int) (a4:List ByteArray) (a1 a5 a6:Int) (a7:List ByteArray):Option (Bool):=if a0=a1 then (laws_eqVer.j0 k a0 a2 a3 a4 a1 a5 a6 a7) else (some false)
theorem laws_eqVer.calls (k:Nat) (a4 a5 a6:Int) (a7:Option Addr) (a8:Nat) (a0:List ByteArray) (a9 b0 b1:Int) (b2:Option Addr) (b3:Nat) (a1:List ByteArray) (r:Bool) (w:World) (c4:Kd.C Kd.string w a7 a0.length a0) (c5:a0.length≤a8) (c7:Kd.C Kd.string w b2 a1.length a1) (c8:a1.length≤b3) (h:laws_eqVer.f k a4 a5 a6 a0 a9 b0 b1 a1=some r) :
  Calls Tryz.prog 156 #[.agg #[.int .i64 a4,.int .i64 a5,.int .i64 a6,.slice a7 a0.length a8],.agg #[.int .i64 a9,.int .i64 b0,.int .i64 b1,.slice b2 a1.length b3]] w fun e w'=>e=.returned (.bool r)∧Below w.heap.size w w':=by
 have h6:=Tryz.underlying30;have d0:=zA c4;have d1:=zA c5;clear c4 c5;have d2:=zA c7;have d3:=zA c8;clear c7 c8;have HB:=zA (Below.refl w.heap.size w);unfold laws_eqVer.f at h;have H:=h;clear h;have c0:=zA H;clear H;go_enter Tryz.func156,Tryz.ntmps156;go_upto_if 9 with (first|((with_reducible refine zd 2 ?_);refine ze 2 30 #[.int .i64 a4,.int .i64 a5,.int .i64 a6,.slice a7 a0.length a8] ?_;intro d4 hg w4 hbox hb;have a2:=zA (hbox);have h7:=zi HB hg;have h8:=zi HB hg;replace HB:=zA (below_step (zB) hb);clear hb hbox hg)|((with_reducible refine zd 3 ?_);refine ze 3 30 #[.int .i64 a9,.int .i64 b0,.int .i64 b1,.slice b2 a1.length b3] ?_;intro d5 hg w5 hbox hb;have a3:=zA (hbox);have h9:=zi HB hg;have i0:=zi HB hg;replace HB:=zh HB hb;have b8:=zA (zL hg (zK a2.out));have b9:=zA (zJ hg (zK a2.out));replace a2:=zb a2 hb;clear hb hbox hg;have i1:=b8.out;have i2:=b9.out;obtain⟨d6,d7,d8,d9,e0,e1,e2,e3⟩:=ze4 a2.out;obtain⟨e4,e5,e6,e7,e8,e9,f0,f1⟩:=ze4 a3.out))
 (try simp only[Act.put,zT]);go_cut [] (fun wc=>∃ (kq:Nat),Aside0 (laws_eqVer.j0 kq a4 a5 a6 a0 a9 b0 b1 a1=some r)∧Aside0 (kq≤k)∧Aside0 (wc.heap[d4]?=some (.cells #[.int .i64 a4,.int .i64 a5,.int .i64 a6,(.slice a7 a0.length a8)] 30 (0,0)))∧Aside0 (wc.heap[d5]?=some (.cells #[.int .i64 a9,.int .i64 b0,.int .i64 b1,(.slice b2 a1.length b3)] 30 (0,0)))∧Aside0 (Below w.heap.size w wc))
 case first=>
  have H:=c0.out;clear c0;replace H:=zI1 H;rcases H with ⟨c9,H⟩|⟨c9,H⟩
  ·have b4:=beq_iff_eq.mpr c9;have c2:=bne_eq_false_iff_eq.mpr c9;clear c9;(first|rw[b4]|(simp only[i64_w,i32_w];rw[b4])|skip);have H':=zA H;clear H;go_wp2;go_meet
   case rel=>exact⟨_,(by first|exact H'|(subst_vars;exact H')),⟨by first|omega|exact Nat.le_refl _⟩,⟨zK a2.out⟩,⟨zK a3.out⟩,⟨zW HB.out⟩⟩
  have b4:=beq_eq_false_iff_ne.mpr c9;have c2:=bne_iff_ne.mpr c9;(first|rw[b4]|(simp only[i64_w,i32_w];rw[b4])|skip);obtain rfl:=zm H;go_wp2;go_ret;exact⟨zE,zW HB.out⟩
 case rest=>
  clear c0;(try clear d6 d7 d8 d9 e0 e1 e2 e3);(try clear e4 e5 e6 e7 e8 e9 f0 f1);obtain⟨kq,HA,f6,a2,a3,HB⟩:=hcut;cases kq with
  | zero=>exact absurd HA.out (by simp[laws_eqVer.j0])
  | succ f7=>
   have H:=HA.out;clear HA;simp only[laws_eqVer.j0] at H;have c3:=zA H;clear H;have i3:=b8.out;have i4:=b9.out;obtain⟨f8,f9,g0,g1,g2,g3,g4,g5⟩:=ze4 a2.out;obtain⟨g6,g7,g8,g9,h0,h1,h2,h3⟩:=ze4 a3.out;go_upto_if 14 with (fail)
   go_cut [] (fun wc=>∃ (kq:Nat),Aside0 (laws_eqVer.j1 kq a4 a5 a6 a0 a9 b0 b1 a1=some r)∧Aside0 (kq≤f7)∧Aside0 (wc.heap[d4]?=some (.cells #[.int .i64 a4,.int .i64 a5,.int .i64 a6,(.slice a7 a0.length a8)] 30 (0,0)))∧Aside0 (wc.heap[d5]?=some (.cells #[.int .i64 a9,.int .i64 b0,.int .i64 b1,(.slice b2 a1.length b3)] 30 (0,0)))∧Aside0 (Below w.heap.size w wc))
   case first=>
    have H:=c3.out;clear c3;replace H:=zI1 H;rcases H with ⟨b5,H⟩|⟨b5,H⟩
    ·have b6:=beq_iff_eq.mpr b5;have f2:=bne_eq_false_iff_eq.mpr b5;clear b5;(first|rw[b6]|(simp only[i64_w,i32_w];rw[b6])|skip);have H':=zA H;clear H;go_wp2;go_meet
     case rel=>exact⟨_,(by first|exact H'|(subst_vars;exact H')),⟨by have:=f6.out;first|omega|exact Nat.le_refl _⟩,⟨zK a2.out⟩,⟨zK a3.out⟩,⟨zW HB.out⟩⟩
    have b6:=beq_eq_false_iff_ne.mpr b5;have f2:=bne_iff_ne.mpr b5;(first|rw[b6]|(simp only[i64_w,i32_w];rw[b6])|skip);obtain rfl:=zm H;go_wp2;go_ret;exact⟨zE,zW HB.out⟩
   case rest=>
    clear c3;(try clear f8 f9 g0 g1 g2 g3 g4 g5);(try clear g6 g7 g8 g9 h0 h1 h2 h3);obtain⟨kq,HA,i5,a2,a3,HB⟩:=hcut;cases kq with
    | zero=>exact absurd HA.out (by simp[laws_eqVer.j1])
    | succ f3=>
     have H:=HA.out;clear HA;simp only[laws_eqVer.j1] at H;replace H:=zI1 H;rcases H with ⟨b7,H⟩|⟨b7,H⟩
     ·have h4:=beq_iff_eq.mpr b7;have h5:=bne_eq_false_iff_eq.mpr b7;clear b7;replace H:=Option.bind_eq_some_iff.mp H;obtain⟨i6,f4,H⟩:=H;(try dsimp only at H);have f5:=zA f4;clear f4;replace H:=zB0 H;rcases H with ⟨rfl,H⟩|⟨rfl,H⟩
      ·obtain rfl:=zm H;have i7:=b8.out;have i8:=b9.out;obtain⟨i9,j2,j3,j4,j5,j6,j7,j8⟩:=ze4 a2.out;obtain⟨j9,k0,k1,k2,k3,k4,k5,k6⟩:=ze4 a3.out;go_wp2_with (first|((with_reducible refine zq 180 ?_);refine zg (some 24) Tryz.func180 #[.slice a7 a0.length a8,.slice b2 a1.length b3] ?_;(with_reducible refine(laws_eqStringS.calls f3 _ _ a0 _ _ a1 true _ ?s1 ?s2 ?s3 ?s4 f5.out).mono ?_);(case s1=>exact zC (Kd.C_below d0.out HB.out));(case s2=>exact d1.out);(case s3=>exact zC (Kd.C_below d2.out HB.out));(case s4=>exact d3.out);rintro e w' ⟨rfl,⟨nd,rfl⟩⟩;refine⟨_,rfl,?_⟩))
       go_ret;exact⟨zE,zW HB.out⟩
      obtain rfl:=zm H;have k7:=b8.out;have k8:=b9.out;obtain⟨k9,l0,l1,l2,l3,l4,l5,l6⟩:=ze4 a2.out;obtain⟨l7,l8,l9,m0,m1,m2,m3,m4⟩:=ze4 a3.out;go_wp2_with (first|((with_reducible refine zq 180 ?_);refine zg (some 24) Tryz.func180 #[.slice a7 a0.length a8,.slice b2 a1.length b3] ?_;(with_reducible refine(laws_eqStringS.calls f3 _ _ a0 _ _ a1 false _ ?s1 ?s2 ?s3 ?s4 f5.out).mono ?_);(case s1=>exact zC (Kd.C_below d0.out HB.out));(case s2=>exact d1.out);(case s3=>exact zC (Kd.C_below d2.out HB.out));(case s4=>exact d3.out);rintro e w' ⟨rfl,⟨nd,rfl⟩⟩;refine⟨_,rfl,?_⟩))
      go_ret;exact⟨zE,zW HB.out⟩
     have h4:=beq_eq_false_iff_ne.mpr b7;have h5:=bne_iff_ne.mpr b7;obtain rfl:=zm H;have m5:=b8.out;have m6:=b9.out;obtain⟨m7,m8,m9,n0,n1,n2,n3,n4⟩:=ze4 a2.out;obtain⟨n5,n6,n7,n8,n9,o0,o1,o2⟩:=ze4 a3.out;go_wp2;go_ret;exact⟨zE,zW HB.out⟩
/-! ### laws_eqCmp: function 121 -/
def laws_eqCmp.f (k:Nat) (a0 a1 a2 a3:Int) (a4:List ByteArray) (a5 a6 a7 a8:Int) (a9:List ByteArray):Option (Bool):=if a0=a5 then ((laws_eqVer.f k a1 a2 a3 a4 a6 a7 a8 a9).bind fun b0=>(if b0=true then (some true) else (some false))) else (some false)
theorem laws_eqCmp.calls (k:Nat) (b6 a3 a4 a5:Int) (a9:Option Addr) (b0:Nat) (a0:List ByteArray) (b7 a6 a7 a8:Int) (b1:Option Addr) (b2:Nat) (a1:List ByteArray) (r:Bool) (w:World) (b8:Kd.C Kd.string w a9 a0.length a0) (b9:a0.length≤b0) (c0:Kd.C Kd.string w b1 a1.length a1) (c1:a1.length≤b2) (h:laws_eqCmp.f k b6 a3 a4 a5 a0 b7 a6 a7 a8 a1=some r) :
  Calls Tryz.prog 121 #[.agg #[.int .i64 b6,.int .i64 a3,.int .i64 a4,.int .i64 a5,.slice a9 a0.length b0],.agg #[.int .i64 b7,.int .i64 a6,.int .i64 a7,.int .i64 a8,.slice b1 a1.length b2]] w fun e w'=>e=.returned (.bool r)∧Below w.heap.size w w':=by
 have d0:=Tryz.underlying34;have d1:=Tryz.underlying30;have c2:=zA b8;have c4:=zA b9;clear b8 b9;have c5:=zA c0;have c6:=zA c1;clear c0 c1;have HB:=zA (Below.refl w.heap.size w);unfold laws_eqCmp.f at h;have H:=h;clear h;go_enter Tryz.func121,Tryz.ntmps121;go_upto_if 9 with (first|((with_reducible refine zd 2 ?_);refine ze 2 34 #[.int .i64 b6,.int .i64 a3,.int .i64 a4,.int .i64 a5,.slice a9 a0.length b0] ?_;intro d2 hg w6 hbox hb;have a2:=zA (hbox);have d3:=zi HB hg;have d4:=zi HB hg;replace HB:=zA (below_step (zB) hb);clear hb hbox hg)|((with_reducible refine zd 3 ?_);refine ze 3 34 #[.int .i64 b7,.int .i64 a6,.int .i64 a7,.int .i64 a8,.slice b1 a1.length b2] ?_;intro d5 hg w7 hbox hb;have b3:=zA (hbox);have d6:=zi HB hg;have d7:=zi HB hg;replace HB:=zh HB hb;have c8:=zA (zL hg (zK a2.out));have c9:=zA (zJ hg (zK a2.out));replace a2:=zb a2 hb;clear hb hbox hg;have d8:=c8.out;have d9:=c9.out;obtain⟨e0,e1,e2,e3,e4,e5,e6,e7,e8,e9⟩:=ze5 a2.out;obtain⟨f0,f1,f2,f3,f4,f5,f6,f7,f8,f9⟩:=ze5 b3.out))
 (try simp only[Act.put,zT]);replace H:=zI1 H;rcases H with ⟨c3,H⟩|⟨c3,H⟩
 ·have b4:=beq_iff_eq.mpr c3;have b5:=bne_eq_false_iff_eq.mpr c3;clear c3;replace H:=Option.bind_eq_some_iff.mp H;obtain⟨g0,c7,H⟩:=H;(try dsimp only at H);have A4:=zA c7;clear c7;replace H:=zB0 H;rcases H with ⟨rfl,H⟩|⟨rfl,H⟩
  ·obtain rfl:=zm H;(try simp only[b4,b5]);go_wp2_with (first|((with_reducible refine zq 156 ?_);refine zg (some 14) Tryz.func156 #[.agg #[.int .i64 a3,.int .i64 a4,.int .i64 a5,.slice a9 a0.length b0],.agg #[.int .i64 a6,.int .i64 a7,.int .i64 a8,.slice b1 a1.length b2]] ?_;(with_reducible refine(laws_eqVer.calls k a3 a4 a5 _ _ a0 a6 a7 a8 _ _ a1 true _ ?s1 ?s2 ?s3 ?s4 A4.out).mono ?_);(case s1=>exact zC (Kd.C_below c2.out HB.out));(case s2=>exact c4.out);(case s3=>exact zC (Kd.C_below c5.out HB.out));(case s4=>exact c6.out);rintro e g1 ⟨rfl,hb⟩;refine⟨_,rfl,?_⟩;replace a2:=zb a2 hb;replace b3:=zb b3 hb;replace HB:=zh HB hb;(try clear hb)))
   go_ret;exact⟨zE,zW HB.out⟩
  obtain rfl:=zm H;(try simp only[b4,b5]);go_wp2_with (first|((with_reducible refine zq 156 ?_);refine zg (some 14) Tryz.func156 #[.agg #[.int .i64 a3,.int .i64 a4,.int .i64 a5,.slice a9 a0.length b0],.agg #[.int .i64 a6,.int .i64 a7,.int .i64 a8,.slice b1 a1.length b2]] ?_;(with_reducible refine(laws_eqVer.calls k a3 a4 a5 _ _ a0 a6 a7 a8 _ _ a1 false _ ?s1 ?s2 ?s3 ?s4 A4.out).mono ?_);(case s1=>exact zC (Kd.C_below c2.out HB.out));(case s2=>exact c4.out);(case s3=>exact zC (Kd.C_below c5.out HB.out));(case s4=>exact c6.out);rintro e g2 ⟨rfl,hb⟩;refine⟨_,rfl,?_⟩;replace a2:=zb a2 hb;replace b3:=zb b3 hb;replace HB:=zh HB hb;(try clear hb)))
  go_ret;exact⟨zE,zW HB.out⟩
 have b4:=beq_eq_false_iff_ne.mpr c3;have b5:=bne_iff_ne.mpr c3;obtain rfl:=zm H;(try simp only[b4,b5]);go_wp2;go_ret;exact⟨zE,zW HB.out⟩
/-! ### laws_eqCmpS: function 80 -/
mutual
def laws_eqCmpS.j0:Nat→List (S34)→List (S34)→Option (Bool)
 | 0,_,_=>none
 | k+1,x0,x1=>laws_eqCmpS.l0 k x0 x1 0
def laws_eqCmpS.l0:Nat→List (S34)→List (S34)→Int→Option (Bool)
 | 0,_,_,_=>none
 | k+1,x0,x1,x5=>if x5<(x0.length:Int) then (if 0≤x5 then (if x5<(x1.length:Int) then ((laws_eqCmp.f k ((rd_T34 x0 x5).f0) ((rd_T34 x0 x5).f1.f0) ((rd_T34 x0 x5).f1.f1) ((rd_T34 x0 x5).f1.f2) ((rd_T34 x0 x5).f1.f3) ((rd_T34 x1 x5).f0) ((rd_T34 x1 x5).f1.f0) ((rd_T34 x1 x5).f1.f1) ((rd_T34 x1 x5).f1.f2) ((rd_T34 x1 x5).f1.f3)).bind fun a0=>(if a0=true then (laws_eqCmpS.l0 k x0 x1 (wrap64 (x5+1))) else (some false))) else (none)) else (none)) else (some true)
end
def laws_eqCmpS.f (k:Nat) (l0:List (S34)) (l1:List (S34)):Option (Bool):=if (l0.length:Int)=(l1.length:Int) then (laws_eqCmpS.j0 k l0 l1) else (some false)
def laws_eqCmpS.T6:Bool × List (List Nat × List Nat):=(true,[([],[]),([],[]),([0,1],[0,1]),([2],[2]),([],[]),([],[]),([4,5],[4,5]),([6],[6]),([3,7],[3,7]),([8],[8])])
def laws_eqCmpS.B6:List Nat:=[0,0,3,7,0,0,48,112,255,511]
theorem laws_eqCmpS.tab6:rtab .any (opsOf Tryz.f80 6)=laws_eqCmpS.T6:=by kernel_rfl
theorem laws_eqCmpS.bits6:waitsOk laws_eqCmpS.T6.2 laws_eqCmpS.B6=true:=by kernel_rfl
theorem laws_eqCmpS.calls (k:Nat) (A0:Option Addr) (c0:Nat) (l0:List (S34)) (A1:Option Addr) (c1:Nat) (l1:List (S34)) (r:Bool) (w:World) (d8:Kd.C k34 w A0 l0.length l0) (d9:l0.length≤c0) (e0:Kd.C k34 w A1 l1.length l1) (e1:l1.length≤c1) (h:laws_eqCmpS.f k l0 l1=some r) :
  Calls Tryz.prog 80 #[.slice A0 l0.length c0,.slice A1 l1.length c1] w fun e w'=>e=.returned (.bool r)∧Below w.heap.size w w':=by
 have g3:=Tryz.underlying34;have e2:=zA d8;have g4:=zA d9;clear d8 d9;have e3:=zA e0;have g5:=zA e1;clear e0 e1;have HB:=zA (Below.refl w.heap.size w);unfold laws_eqCmpS.f at h;have H:=h;clear h;have d1:=zA H;clear H;go_enter Tryz.func80,Tryz.ntmps80;go_upto_if 10 with (fail)
 go_cut [] (fun wc=>∃ (kq:Nat),Aside0 (laws_eqCmpS.j0 kq l0 l1=some r)∧Aside0 (kq≤k)∧Aside0 (Below w.heap.size w wc))
 case first=>
  have H:=d1.out;clear d1;replace H:=zI1 H;rcases H with ⟨c4,H⟩|⟨c4,H⟩
  ·have b3:=beq_iff_eq.mpr c4;have d2:=bne_eq_false_iff_eq.mpr c4;have d3:(l0.length == l1.length)=true:=by first|simpa using c4|(simp at c4 ⊢;omega)
   clear c4;(first|rw[b3]|(simp only[i64_w,i32_w];rw[b3])|skip);have H':=zA H;clear H;go_wp2;go_meet
   case rel=>exact⟨_,(by first|exact H'|(subst_vars;exact H')),⟨by first|omega|exact Nat.le_refl _⟩,⟨zB⟩⟩
  have b3:=beq_eq_false_iff_ne.mpr c4;have d2:=bne_iff_ne.mpr c4;have d3:(l0.length == l1.length)=false:=by first|simpa using c4|(simp at c4 ⊢;omega)
  (first|rw[b3]|(simp only[i64_w,i32_w];rw[b3])|skip);obtain rfl:=zm H;go_wp2;go_ret;exact⟨zE,zB⟩
 case rest=>
  clear d1;(try clear c1);obtain⟨kq,HA,e4,HB⟩:=hcut;cases kq with
  | zero=>exact absurd HA.out (by simp[laws_eqCmpS.j0])
  | succ e5=>
   have H:=HA.out;clear HA;simp only[laws_eqCmpS.j0] at H;have H':=zA H;clear H;go_wp2;go_loopg [5] e5 (fun kq v5 w'=>∃ (a0:Int),v5=.int .i64 a0∧Aside0 (laws_eqCmpS.l0 kq l0 l1 a0=some r)∧Aside0 (kq≤e5)∧Aside0 (Below w.heap.size w w'))
   case atStart=>exact⟨(0),zS,H',⟨Nat.le_refl _⟩,⟨zB⟩⟩
   case round=>
    clear H';obtain⟨a0,rfl,HA,e6,HB⟩:=hrel;cases gk with
    | zero=>exact absurd HA.out (by simp[laws_eqCmpS.l0])
    | succ k2=>
     have H:=HA.out;clear HA;simp only[laws_eqCmpS.l0] at H;replace H:=zI0 H;rcases H with ⟨e8,H⟩|⟨e8,H⟩
     ·replace H:=zD0 H;obtain⟨g6,H⟩:=H;replace H:=zD0 H;obtain⟨g7,H⟩:=H;replace H:=Option.bind_eq_some_iff.mp H;obtain⟨g8,e7,H⟩:=H;(try dsimp only at H);have A8:=zA e7;clear e7;replace H:=zB0 H;rcases H with ⟨rfl,H⟩|⟨rfl,H⟩
      ·have H':=zA H;clear H;(try go_wp2);replace HB:=zA (below_drew1 HB.out);have b4:0≤(a0:Int):=zD;have b5:a0<(l0.length:Int):=zD;obtain⟨a1,b8,b9,d4,a3,a4,a5,a6,a7,c2,c3⟩:=at_T34 e2.out a0 b4 b5;have e9:=a7;have f4:=a6;have f5:=a5;have f6:=a4;have f7:=a3;cases d4;replace a3:=zx HB a3;replace a4:=zx HB a4;replace a5:=zx HB a5;replace a6:=zx HB a6;replace a7:=zx HB a7;have c5:=zA c3;have d5:=zA c2;clear c3 c2;replace b4:=eq_true b4;replace b5:=eq_true b5;have b6:0≤(a0:Int):=zD;have b7:a0<(l1.length:Int):=zD;obtain⟨a2,c6,c7,d6,a8,a9,b0,b1,b2,c8,c9⟩:=at_T34 e3.out a0 b6 b7;have f8:=b2;have f9:=b1;have g0:=b0;have g1:=a9;have g2:=a8;cases d6;replace a8:=zx HB a8;replace a9:=zx HB a9;replace b0:=zx HB b0;replace b1:=zx HB b1;replace b2:=zx HB b2;have d0:=zA c9;have d7:=zA c8;clear c9 c8;replace b6:=eq_true b6;replace b7:=eq_true b7;refine start_ (n:=10) (S:=fun w'=>w'.cell? (a1.add ((a0).toNat*5))=some (.int .i64 ((rd_T34 l0 a0).f0))∧w'.cell? ⟨(a1.add ((a0).toNat*5)).block,(a1.add ((a0).toNat*5)).off+1,none⟩=some (.int .i64 ((rd_T34 l0 a0).f1.f0))∧w'.cell? ⟨(a1.add ((a0).toNat*5)).block,(a1.add ((a0).toNat*5)).off+2,none⟩=some (.int .i64 ((rd_T34 l0 a0).f1.f1))∧w'.cell? ⟨(a1.add ((a0).toNat*5)).block,(a1.add ((a0).toNat*5)).off+3,none⟩=some (.int .i64 ((rd_T34 l0 a0).f1.f2))∧w'.cell? ⟨(a1.add ((a0).toNat*5)).block,(a1.add ((a0).toNat*5)).off+4,none⟩=some (.slice b8 ((rd_T34 l0 a0).f1.f3).length b9)∧w'.cell? (a2.add ((a0).toNat*5))=some (.int .i64 ((rd_T34 l1 a0).f0))∧w'.cell? ⟨(a2.add ((a0).toNat*5)).block,(a2.add ((a0).toNat*5)).off+1,none⟩=some (.int .i64 ((rd_T34 l1 a0).f1.f0))∧w'.cell? ⟨(a2.add ((a0).toNat*5)).block,(a2.add ((a0).toNat*5)).off+2,none⟩=some (.int .i64 ((rd_T34 l1 a0).f1.f1))∧w'.cell? ⟨(a2.add ((a0).toNat*5)).block,(a2.add ((a0).toNat*5)).off+3,none⟩=some (.int .i64 ((rd_T34 l1 a0).f1.f2))∧w'.cell? ⟨(a2.add ((a0).toNat*5)).block,(a2.add ((a0).toNat*5)).off+4,none⟩=some (.slice c6 ((rd_T34 l1 a0).f1.f3).length c7)) (ds:=[]) (Array.replicate 10 false) (by kernel_rfl) rfl rfl zO fun hHeld=>?_;refine with_tabW laws_eqCmpS.tab6 laws_eqCmpS.bits6 (fun HT_ HW_=>?_);generalize wr.drew=g9 at HB c5 d0 a3 a4 a5 a6 a7 a8 a9 b0 b1 b2 hHeld ⊢;refine zp 0 17 ?_;refine zp 1 18 ?_;refine zp 2 19 ?_;refine zp 4 21 ?_;refine zp 5 22 ?_;refine zp 6 23 ?_;refine zt 3 20 ?_;refine zt 7 24 ?_;refine zo 8 (some 25) fun K hK=>?_;refine goes_ Tryz.func121 (by kernel_rfl) rfl #[.agg #[.int .i64 ((rd_T34 l0 a0).f0),.int .i64 ((rd_T34 l0 a0).f1.f0),.int .i64 ((rd_T34 l0 a0).f1.f1),.int .i64 ((rd_T34 l0 a0).f1.f2),.slice b8 ((rd_T34 l0 a0).f1.f3).length b9],.agg #[.int .i64 ((rd_T34 l1 a0).f0),.int .i64 ((rd_T34 l1 a0).f1.f0),.int .i64 ((rd_T34 l1 a0).f1.f1),.int .i64 ((rd_T34 l1 a0).f1.f2),.slice c6 ((rd_T34 l1 a0).f1.f3).length c7]] (by rfl) rfl rfl zM ?_;(with_reducible refine(laws_eqCmp.calls k2 ((rd_T34 l0 a0).f0) ((rd_T34 l0 a0).f1.f0) ((rd_T34 l0 a0).f1.f1) ((rd_T34 l0 a0).f1.f2) _ _ ((rd_T34 l0 a0).f1.f3) ((rd_T34 l1 a0).f0) ((rd_T34 l1 a0).f1.f0) ((rd_T34 l1 a0).f1.f1) ((rd_T34 l1 a0).f1.f2) _ _ ((rd_T34 l1 a0).f1.f3) true _ ?s1 ?s2 ?s3 ?s4 A8.out).mono ?_);(case s1=>exact zC (Kd.C_below c5.out HB.out));(case s2=>exact d5.out);(case s3=>exact zC (Kd.C_below d0.out HB.out));(case s4=>exact d7.out);rintro e h0 ⟨rfl,hb⟩;refine⟨_,rfl,?_⟩;replace HB:=zA (below_step (zB) hb);(try clear hb);refine hK.out _ _ zO fun hHeld=>?_;clear hK K;refine zn ?_;refine zp 9 26 ?_;refine done_ (done_of HT_.out (by kernel_rfl)) ?_;(try go_wp2);go_roundg k2
       case measure=>have:=e4.out;have:=e6.out;omega
       case rel=>exact⟨(wrap64 (a0+1)),zS,H',⟨by have:=e4.out;have:=e6.out;omega⟩,⟨zB⟩⟩
      obtain rfl:=zm H;(try go_wp2);replace HB:=zA (below_drew1 HB.out);have b4:0≤(a0:Int):=zD;have b5:a0<(l0.length:Int):=zD;obtain⟨a1,b8,b9,d4,a3,a4,a5,a6,a7,c2,c3⟩:=at_T34 e2.out a0 b4 b5;have e9:=a7;have f4:=a6;have f5:=a5;have f6:=a4;have f7:=a3;cases d4;replace a3:=zx HB a3;replace a4:=zx HB a4;replace a5:=zx HB a5;replace a6:=zx HB a6;replace a7:=zx HB a7;have c5:=zA c3;have d5:=zA c2;clear c3 c2;replace b4:=eq_true b4;replace b5:=eq_true b5;have b6:0≤(a0:Int):=zD;have b7:a0<(l1.length:Int):=zD;obtain⟨a2,c6,c7,d6,a8,a9,b0,b1,b2,c8,c9⟩:=at_T34 e3.out a0 b6 b7;have f8:=b2;have f9:=b1;have g0:=b0;have g1:=a9;have g2:=a8;cases d6;replace a8:=zx HB a8;replace a9:=zx HB a9;replace b0:=zx HB b0;replace b1:=zx HB b1;replace b2:=zx HB b2;have d0:=zA c9;have d7:=zA c8;clear c9 c8;replace b6:=eq_true b6;replace b7:=eq_true b7;refine start_ (n:=10) (S:=fun w'=>w'.cell? (a1.add ((a0).toNat*5))=some (.int .i64 ((rd_T34 l0 a0).f0))∧w'.cell? ⟨(a1.add ((a0).toNat*5)).block,(a1.add ((a0).toNat*5)).off+1,none⟩=some (.int .i64 ((rd_T34 l0 a0).f1.f0))∧w'.cell? ⟨(a1.add ((a0).toNat*5)).block,(a1.add ((a0).toNat*5)).off+2,none⟩=some (.int .i64 ((rd_T34 l0 a0).f1.f1))∧w'.cell? ⟨(a1.add ((a0).toNat*5)).block,(a1.add ((a0).toNat*5)).off+3,none⟩=some (.int .i64 ((rd_T34 l0 a0).f1.f2))∧w'.cell? ⟨(a1.add ((a0).toNat*5)).block,(a1.add ((a0).toNat*5)).off+4,none⟩=some (.slice b8 ((rd_T34 l0 a0).f1.f3).length b9)∧w'.cell? (a2.add ((a0).toNat*5))=some (.int .i64 ((rd_T34 l1 a0).f0))∧w'.cell? ⟨(a2.add ((a0).toNat*5)).block,(a2.add ((a0).toNat*5)).off+1,none⟩=some (.int .i64 ((rd_T34 l1 a0).f1.f0))∧w'.cell? ⟨(a2.add ((a0).toNat*5)).block,(a2.add ((a0).toNat*5)).off+2,none⟩=some (.int .i64 ((rd_T34 l1 a0).f1.f1))∧w'.cell? ⟨(a2.add ((a0).toNat*5)).block,(a2.add ((a0).toNat*5)).off+3,none⟩=some (.int .i64 ((rd_T34 l1 a0).f1.f2))∧w'.cell? ⟨(a2.add ((a0).toNat*5)).block,(a2.add ((a0).toNat*5)).off+4,none⟩=some (.slice c6 ((rd_T34 l1 a0).f1.f3).length c7)) (ds:=[]) (Array.replicate 10 false) (by kernel_rfl) rfl rfl zO fun hHeld=>?_;refine with_tabW laws_eqCmpS.tab6 laws_eqCmpS.bits6 (fun HT_ HW_=>?_);generalize wr.drew=h1 at HB c5 d0 a3 a4 a5 a6 a7 a8 a9 b0 b1 b2 hHeld ⊢;refine zp 0 17 ?_;refine zp 1 18 ?_;refine zp 2 19 ?_;refine zp 4 21 ?_;refine zp 5 22 ?_;refine zp 6 23 ?_;refine zt 3 20 ?_;refine zt 7 24 ?_;refine zo 8 (some 25) fun K hK=>?_;refine goes_ Tryz.func121 (by kernel_rfl) rfl #[.agg #[.int .i64 ((rd_T34 l0 a0).f0),.int .i64 ((rd_T34 l0 a0).f1.f0),.int .i64 ((rd_T34 l0 a0).f1.f1),.int .i64 ((rd_T34 l0 a0).f1.f2),.slice b8 ((rd_T34 l0 a0).f1.f3).length b9],.agg #[.int .i64 ((rd_T34 l1 a0).f0),.int .i64 ((rd_T34 l1 a0).f1.f0),.int .i64 ((rd_T34 l1 a0).f1.f1),.int .i64 ((rd_T34 l1 a0).f1.f2),.slice c6 ((rd_T34 l1 a0).f1.f3).length c7]] (by rfl) rfl rfl zM ?_;(with_reducible refine(laws_eqCmp.calls k2 ((rd_T34 l0 a0).f0) ((rd_T34 l0 a0).f1.f0) ((rd_T34 l0 a0).f1.f1) ((rd_T34 l0 a0).f1.f2) _ _ ((rd_T34 l0 a0).f1.f3) ((rd_T34 l1 a0).f0) ((rd_T34 l1 a0).f1.f0) ((rd_T34 l1 a0).f1.f1) ((rd_T34 l1 a0).f1.f2) _ _ ((rd_T34 l1 a0).f1.f3) false _ ?s1 ?s2 ?s3 ?s4 A8.out).mono ?_);(case s1=>exact zC (Kd.C_below c5.out HB.out));(case s2=>exact d5.out);(case s3=>exact zC (Kd.C_below d0.out HB.out));(case s4=>exact d7.out);rintro e h2 ⟨rfl,hb⟩;refine⟨_,rfl,?_⟩;replace HB:=zA (below_step (zB) hb);(try clear hb);refine hK.out _ _ zO fun hHeld=>?_;clear hK K;refine zn ?_;refine zp 9 26 ?_;refine done_ (done_of HT_.out (by kernel_rfl)) ?_;(try go_wp2);go_ret;exact⟨zE,zB⟩
     obtain rfl:=zm H;go_wp2;go_ret;exact⟨zE,zB⟩
/-! ### laws_eqCmpSS: function 34 -/
mutual
def laws_eqCmpSS.j0:Nat→List (List (S34))→List (List (S34))→Option (Bool)
 | 0,_,_=>none
 | k+1,x0,x1=>laws_eqCmpSS.l0 k x0 x1 0
def laws_eqCmpSS.l0:Nat→List (List (S34))→List (List (S34))→Int→Option (Bool)
 | 0,_,_,_=>none
 | k+1,x0,x1,x5=>if x5<(x0.length:Int) then (if 0≤x5 then (if x5<(x1.length:Int) then ((laws_eqCmpS.f k (rd_L5 x0 x5) (rd_L5 x1 x5)).bind fun a0=>(if a0=true then (laws_eqCmpSS.l0 k x0 x1 (wrap64 (x5+1))) else (some false))) else (none)) else (none)) else (some true)
end
def laws_eqCmpSS.f (k:Nat) (l0:List (List (S34))) (l1:List (List (S34))):Option (Bool):=if (l0.length:Int)=(l1.length:Int) then (laws_eqCmpSS.j0 k l0 l1) else (some false)
def laws_eqCmpSS.T6:Bool × List (List Nat × List Nat):=(true,[([],[]),([],[]),([0,1],[0,1]),([2],[2]),([],[]),([],[]),([4,5],[4,5]),([6],[6]),([3,7],[3,7]),([8],[8])])
def laws_eqCmpSS.B6:List Nat:=[0,0,3,7,0,0,48,112,255,511]
theorem laws_eqCmpSS.tab6:rtab .any (opsOf Tryz.f34 6)=laws_eqCmpSS.T6:=by kernel_rfl
theorem laws_eqCmpSS.bits6:waitsOk laws_eqCmpSS.T6.2 laws_eqCmpSS.B6=true:=by kernel_rfl
theorem laws_eqCmpSS.calls (k:Nat) (A0:Option Addr) (c0:Nat) (l0:List (List (S34))) (A1:Option Addr) (c1:Nat) (l1:List (List (S34))) (r:Bool) (w:World) (d1:Kd.C (Kd.slice 34 k34) w A0 l0.length l0) (d2:l0.length≤c0) (d3:Kd.C (Kd.slice 34 k34) w A1 l1.length l1) (d4:l1.length≤c1) (h:laws_eqCmpSS.f k l0 l1=some r) :
  Calls Tryz.prog 34 #[.slice A0 l0.length c0,.slice A1 l1.length c1] w fun e w'=>e=.returned (.bool r)∧Below w.heap.size w w':=by
 have d5:=zA d1;have e4:=zA d2;clear d1 d2;have d6:=zA d3;have e5:=zA d4;clear d3 d4;have HB:=zA (Below.refl w.heap.size w);unfold laws_eqCmpSS.f at h;have H:=h;clear h;have b8:=zA H;clear H;go_enter Tryz.func34,Tryz.ntmps34;go_upto_if 10 with (fail)
 go_cut [] (fun wc=>∃ (kq:Nat),Aside0 (laws_eqCmpSS.j0 kq l0 l1=some r)∧Aside0 (kq≤k)∧Aside0 (Below w.heap.size w wc))
 case first=>
  have H:=b8.out;clear b8;replace H:=zI1 H;rcases H with ⟨c4,H⟩|⟨c4,H⟩
  ·have a3:=beq_iff_eq.mpr c4;have b9:=bne_eq_false_iff_eq.mpr c4;have c2:(l0.length == l1.length)=true:=by first|simpa using c4|(simp at c4 ⊢;omega)
   clear c4;(first|rw[a3]|(simp only[i64_w,i32_w];rw[a3])|skip);have H':=zA H;clear H;go_wp2;go_meet
   case rel=>exact⟨_,(by first|exact H'|(subst_vars;exact H')),⟨by first|omega|exact Nat.le_refl _⟩,⟨zB⟩⟩
  have a3:=beq_eq_false_iff_ne.mpr c4;have b9:=bne_iff_ne.mpr c4;have c2:(l0.length == l1.length)=false:=by first|simpa using c4|(simp at c4 ⊢;omega)
  (first|rw[a3]|(simp only[i64_w,i32_w];rw[a3])|skip);obtain rfl:=zm H;go_wp2;go_ret;exact⟨zE,zB⟩
 case rest=>
  clear b8;(try clear c1);obtain⟨kq,HA,d7,HB⟩:=hcut;cases kq with
  | zero=>exact absurd HA.out (by simp[laws_eqCmpSS.j0])
  | succ d8=>
   have H:=HA.out;clear HA;simp only[laws_eqCmpSS.j0] at H;have H':=zA H;clear H;go_wp2;go_loopg [5] d8 (fun kq v5 w'=>∃ (a0:Int),v5=.int .i64 a0∧Aside0 (laws_eqCmpSS.l0 kq l0 l1 a0=some r)∧Aside0 (kq≤d8)∧Aside0 (Below w.heap.size w w'))
   case atStart=>exact⟨(0),zS,H',⟨Nat.le_refl _⟩,⟨zB⟩⟩
   case round=>
    clear H';obtain⟨a0,rfl,HA,d9,HB⟩:=hrel;cases gk with
    | zero=>exact absurd HA.out (by simp[laws_eqCmpSS.l0])
    | succ k2=>
     have H:=HA.out;clear HA;simp only[laws_eqCmpSS.l0] at H;replace H:=zI0 H;rcases H with ⟨e1,H⟩|⟨e1,H⟩
     ·replace H:=zD0 H;obtain⟨e6,H⟩:=H;replace H:=zD0 H;obtain⟨e7,H⟩:=H;replace H:=Option.bind_eq_some_iff.mp H;obtain⟨e8,e0,H⟩:=H;(try dsimp only at H);have A8:=zA e0;clear e0;replace H:=zB0 H;rcases H with ⟨rfl,H⟩|⟨rfl,H⟩
      ·have H':=zA H;clear H;(try go_wp2);replace HB:=zA (below_drew1 HB.out);have a4:0≤(a0:Int):=zD;have a5:a0<(l0.length:Int):=zD;obtain⟨c5,a8,a9,c6,a1,b0,b1⟩:=at_L5 d5.out a0 a4 a5;have e2:=a1;cases c6;replace a1:=zx HB a1;have b2:=zA b1;have c7:=zA b0;clear b1 b0;replace a4:=eq_true a4;replace a5:=eq_true a5;have a6:0≤(a0:Int):=zD;have a7:a0<(l1.length:Int):=zD;obtain⟨c8,b3,b4,c9,a2,b5,b6⟩:=at_L5 d6.out a0 a6 a7;have e3:=a2;cases c9;replace a2:=zx HB a2;have b7:=zA b6;have d0:=zA b5;clear b6 b5;replace a6:=eq_true a6;replace a7:=eq_true a7;refine start_ (n:=10) (S:=fun w'=>w'.cell? (c5.add (a0).toNat)=some (.slice a8 (rd_L5 l0 a0).length a9)∧w'.cell? (c8.add (a0).toNat)=some (.slice b3 (rd_L5 l1 a0).length b4)) (ds:=[]) (Array.replicate 10 false) (by kernel_rfl) rfl rfl zO fun hHeld=>?_;refine with_tabW laws_eqCmpSS.tab6 laws_eqCmpSS.bits6 (fun HT_ HW_=>?_);generalize wr.drew=e9 at HB b2 b7 a1 a2 hHeld ⊢;refine zp 0 17 ?_;refine zp 1 18 ?_;refine zp 2 19 ?_;refine zp 4 21 ?_;refine zp 5 22 ?_;refine zp 6 23 ?_;refine zt 3 20 ?_;refine zt 7 24 ?_;refine zo 8 (some 25) fun K hK=>?_;refine goes_ Tryz.func80 (by kernel_rfl) rfl #[.slice a8 (rd_L5 l0 a0).length a9,.slice b3 (rd_L5 l1 a0).length b4] (by rfl) rfl rfl zM ?_;(with_reducible refine(laws_eqCmpS.calls k2 _ _ (rd_L5 l0 a0) _ _ (rd_L5 l1 a0) true _ ?s1 ?s2 ?s3 ?s4 A8.out).mono ?_);(case s1=>exact zC (Kd.C_below b2.out HB.out));(case s2=>exact c7.out);(case s3=>exact zC (Kd.C_below b7.out HB.out));(case s4=>exact d0.out);rintro e f0 ⟨rfl,hb⟩;refine⟨_,rfl,?_⟩;replace HB:=zA (below_step (zB) hb);(try clear hb);refine hK.out _ _ zO fun hHeld=>?_;clear hK K;refine zn ?_;refine zp 9 26 ?_;refine done_ (done_of HT_.out (by kernel_rfl)) ?_;(try go_wp2);go_roundg k2
       case measure=>have:=d7.out;have:=d9.out;omega
       case rel=>exact⟨(wrap64 (a0+1)),zS,H',⟨by have:=d7.out;have:=d9.out;omega⟩,⟨zB⟩⟩
      obtain rfl:=zm H;(try go_wp2);replace HB:=zA (below_drew1 HB.out);have a4:0≤(a0:Int):=zD;have a5:a0<(l0.length:Int):=zD;obtain⟨c5,a8,a9,c6,a1,b0,b1⟩:=at_L5 d5.out a0 a4 a5;have e2:=a1;cases c6;replace a1:=zx HB a1;have b2:=zA b1;have c7:=zA b0;clear b1 b0;replace a4:=eq_true a4;replace a5:=eq_true a5;have a6:0≤(a0:Int):=zD;have a7:a0<(l1.length:Int):=zD;obtain⟨c8,b3,b4,c9,a2,b5,b6⟩:=at_L5 d6.out a0 a6 a7;have e3:=a2;cases c9;replace a2:=zx HB a2;have b7:=zA b6;have d0:=zA b5;clear b6 b5;replace a6:=eq_true a6;replace a7:=eq_true a7;refine start_ (n:=10) (S:=fun w'=>w'.cell? (c5.add (a0).toNat)=some (.slice a8 (rd_L5 l0 a0).length a9)∧w'.cell? (c8.add (a0).toNat)=some (.slice b3 (rd_L5 l1 a0).length b4)) (ds:=[]) (Array.replicate 10 false) (by kernel_rfl) rfl rfl zO fun hHeld=>?_;refine with_tabW laws_eqCmpSS.tab6 laws_eqCmpSS.bits6 (fun HT_ HW_=>?_);generalize wr.drew=f1 at HB b2 b7 a1 a2 hHeld ⊢;refine zp 0 17 ?_;refine zp 1 18 ?_;refine zp 2 19 ?_;refine zp 4 21 ?_;refine zp 5 22 ?_;refine zp 6 23 ?_;refine zt 3 20 ?_;refine zt 7 24 ?_;refine zo 8 (some 25) fun K hK=>?_;refine goes_ Tryz.func80 (by kernel_rfl) rfl #[.slice a8 (rd_L5 l0 a0).length a9,.slice b3 (rd_L5 l1 a0).length b4] (by rfl) rfl rfl zM ?_;(with_reducible refine(laws_eqCmpS.calls k2 _ _ (rd_L5 l0 a0) _ _ (rd_L5 l1 a0) false _ ?s1 ?s2 ?s3 ?s4 A8.out).mono ?_);(case s1=>exact zC (Kd.C_below b2.out HB.out));(case s2=>exact c7.out);(case s3=>exact zC (Kd.C_below b7.out HB.out));(case s4=>exact d0.out);rintro e f2 ⟨rfl,hb⟩;refine⟨_,rfl,?_⟩;replace HB:=zA (below_step (zB) hb);(try clear hb);refine hK.out _ _ zO fun hHeld=>?_;clear hK K;refine zn ?_;refine zp 9 26 ?_;refine done_ (done_of HT_.out (by kernel_rfl)) ?_;(try go_wp2);go_ret;exact⟨zE,zB⟩
     obtain rfl:=zm H;go_wp2;go_ret;exact⟨zE,zB⟩
/-! ### laws_markText: function 157 -/
mutual
def laws_markText.j0:Nat→Int→Option (ByteArray)
 | 0,_=>none
 | k+1,x0=>laws_markText.l0 k x0 (⟨#[]⟩:ByteArray)
def laws_markText.l0:Nat→Int→ByteArray→Option (ByteArray)
 | 0,_,_=>none
 | k+1,x0,x3=>if x0>0 then ((some (([(wrap64 (48+(Int.tmod x0 10))) % 256]:List Int):List Int)).bind fun a0=>(if (strOfNums a0).size+x3.size≤9223372036854775807 then (laws_markText.l0 k (wrap64 (Int.tdiv x0 10)) ((strOfNums a0)++x3)) else (none))) else (if 1+x3.size≤9223372036854775807 then (some ((⟨#[109]⟩:ByteArray)++x3)) else (none))
end
def laws_markText.f (k:Nat) (a0:Int):Option (ByteArray):=if a0≤0 then (some (⟨#[109,48]⟩:ByteArray)) else (laws_markText.j0 k a0)
theorem laws_markText.calls (k:Nat) (a0:Int) (r:ByteArray) (w:World) (h:laws_markText.f k a0=some r) :
  Calls Tryz.prog 157 #[.int .i64 a0] w fun e w'=>e=.returned (.string r)∧Below w.heap.size w w':=by
 have HB:=zA (Below.refl w.heap.size w);unfold laws_markText.f at h;have H:=h;clear h;have a6:=zA H;clear H;go_enter Tryz.func157,Tryz.ntmps157;go_upto_if 5 with (fail)
 go_cut [] (fun wc=>∃ (kq:Nat),Aside0 (laws_markText.j0 kq a0=some r)∧Aside0 (kq≤k)∧Aside0 (Below w.heap.size w wc))
 case first=>
  have H:=a6.out;clear a6;replace H:=zI0 H;rcases H with ⟨a3,H⟩|⟨a3,H⟩
  ·(first|rw[a3]|(simp only[i64_w,i32_w];rw[a3])|skip);obtain rfl:=zm H;go_wp2;go_ret;exact⟨zE,zB⟩
  (first|rw[a3]|(simp only[i64_w,i32_w];rw[a3])|skip);have H':=zA H;clear H;go_wp2;go_meet
  case rel=>exact⟨_,(by first|exact H'|(subst_vars;exact H')),⟨by first|omega|exact Nat.le_refl _⟩,⟨zB⟩⟩
 case rest=>
  clear a6;obtain⟨kq,HA,a8,HB⟩:=hcut;cases kq with
  | zero=>exact absurd HA.out (by simp[laws_markText.j0])
  | succ a9=>
   have H:=HA.out;clear HA;simp only[laws_markText.j0] at H;have H':=zA H;clear H;go_wp2;go_loopg [0,3] a9 (fun kq v0 v3 w'=>∃ (a1:Int) (a2:ByteArray),v0=.int .i64 a1∧v3=.string a2∧Aside0 (laws_markText.l0 kq a1 a2=some r)∧Aside0 (kq≤a9)∧Aside0 (Below w.heap.size w w'))
   case atStart=>exact⟨(a0),((⟨#[]⟩:ByteArray)),zS,zS,H',⟨Nat.le_refl _⟩,⟨zB⟩⟩
   case round=>
    clear H';obtain⟨a1,a2,rfl,rfl,HA,b0,HB⟩:=hrel;cases gk with
    | zero=>exact absurd HA.out (by simp[laws_markText.l0])
    | succ k2=>
     have H:=HA.out;clear HA;simp only[laws_markText.l0] at H;replace H:=zI1 H;rcases H with ⟨c4,H⟩|⟨c4,H⟩
     ·have b2:decide (0<a1)=true:=decide_eq_true c4;clear c4;obtain⟨a5,a7⟩:∃ y_:List Int,y_=(([(wrap64 (48+(Int.tmod a1 10))) % 256]:List Int)):=⟨_,rfl⟩;replace H:(if (strOfNums a5).size+a2.size≤9223372036854775807 then (laws_markText.l0 k2 (wrap64 (Int.tdiv a1 10)) ((strOfNums a5)++a2)) else (none))=some r:=zY a7 H;have b1:=zA a7;clear a7;replace H:=zC0 H;obtain⟨c5,H⟩:=H;have b4:=eq_true c5;have b5:=decide_eq_true c5;(try have b6:(9223372036854775807<(strOfNums a5).size+a2.size)=False:=eq_false (Nat.not_lt.2 c5));have H':=zA H;clear H;go_wp2_with (first|((with_reducible refine gate_dst (N:=12) rfl ?_);refine Kd.R_lit (Kd.int .u8) _ 5 ?hg (N:=12) ?hd (xs:=([(wrap64 (48+(Int.tmod a1 10))) % 256]:List Int)) (inner:=[.int .u8 ((wrap64 (48+(Int.tmod a1 10))) % 256)]) (ok:=fun _=>True) ?hr ?hp (fun _ hk=>hk) trivial (Below.refl _ _) (Nat.le_refl _) (by simp) ?_;(case hd=>rfl);(case hg=>rfl);(case hr=>first|(go_simp;done)|(go_simp;rfl));(case hp=>exact(Reps.one (show Kd.M (Kd.int .u8) _ _ _ ((wrap64 (48+(Int.tmod a1 10))) % 256) [.int .u8 ((wrap64 (48+(Int.tmod a1 10))) % 256)] from rfl) (Reps.none _ _)));intro b7 w6 a4 hb hg_ hnew_;clear hg_ hnew_;(first|rw[← b1.out] at a4|(simp only[Int.reduceToNat] at a4;rw[← b1.out] at a4));have b3:=zA (Kd.R_lower a4 (below_size (zB)));replace HB:=zA (below_step (zB) hb);clear hb a4;have b8:=own_string (P:=Tryz.prog) Tryz.underlying22 Tryz.underlying5 Tryz.underlying9 (Kd.own_of_R b3.out)))
      go_roundg k2
      case measure=>have:=a8.out;have:=b0.out;omega
      case rel=>exact⟨(wrap64 (Int.tdiv a1 10)),((strOfNums a5)++a2),zS,zS,H',⟨by have:=a8.out;have:=b0.out;omega⟩,⟨zB⟩⟩
     have b2:decide (0<a1)=false:=decide_eq_false c4;clear c4;replace H:=zC0 H;obtain⟨c9,H⟩:=H;have b9:=eq_true c9;have c0:=decide_eq_true c9;(try have c2:(9223372036854775807<1+a2.size)=False:=eq_false (Nat.not_lt.2 c9));obtain rfl:=zm H;go_wp2;go_ret;exact⟨zE,zB⟩
/-! ### laws_markStringS: function 122 -/
def laws_markStringS.l0:Nat→List ByteArray→Int→Int→Option (Int × List ByteArray)
 | 0,_,_,_=>none
 | k+1,x0,x1,x5=>if x5<(x0.length:Int) then ((laws_markText.f k x1).bind fun a0=>(if 0≤x5 then (laws_markStringS.l0 k (x0.set (x5:Int).toNat a0) (wrap64 (x1+1)) (wrap64 (x5+1))) else (none))) else (some (x1,x0))
def laws_markStringS.f (k:Nat) (l0:List ByteArray) (a1:Int):Option (Int × List ByteArray):=laws_markStringS.l0 k l0 a1 0
theorem laws_markStringS.calls (k:Nat) (a3:Nat→Prop) (a6:Value) (l0:List ByteArray) (a1 r1:Int) (r2:List ByteArray) (w0 w:World) (hB:Below w0.heap.size w0 w) (b8:Kd.R Kd.string 9 w w0.heap.size a3 a6 l0) (h:laws_markStringS.f k l0 a1=some (r1,r2)) :
  Calls Tryz.prog 122 #[a6,.int .i64 a1] w fun e w'=>e=.returned (.int .i64 r1)∧Kd.R Kd.string 9 w' w0.heap.size (fun k_=>(a3 k_∨w.heap.size≤k_)) a6 r2∧Below w0.heap.size w0 w'∧Kept w w' (fun k_=>a3 k_):=by
 have b9:=zA (show Kd.R Kd.string 9 w w0.heap.size (fun k_=>(a3 k_∨w.heap.size≤k_)) a6 l0 from Kd.R_mono b8 (fun k_ hk=>(.inl hk)));have HK:=zA (Kept.refl w (fun k_=>a3 k_));have c8:=zA hB.size;have HB:=zA hB;clear hB;unfold laws_markStringS.f at h;have H:=h;clear h;have H':=zA H;clear H;go_enter Tryz.func122,Tryz.ntmps122;go_wp2;go_loopg [1,5] k (fun kq v1 v5 w'=>∃ (a5:List ByteArray) (a4:Int) (a2:Int),v1=.int .i64 a4∧v5=.int .i64 a2∧Aside0 (laws_markStringS.l0 kq a5 a4 a2=some (r1,r2))∧Aside0 (kq≤k)∧Aside0 (Kd.R Kd.string 9 w' w0.heap.size (fun k_=>(a3 k_∨w.heap.size≤k_)) a6 a5)∧Aside0 (Kept w w' (fun k_=>a3 k_))∧Aside0 (Below w0.heap.size w0 w'))
 case atStart=>exact⟨(l0),(a1),(0),zS,zS,H',⟨Nat.le_refl _⟩,⟨zR b9.out⟩,⟨by repeat(first|(with_reducible first|exact HK.out|apply Kept.alloc|apply Kept.drewN|apply Kept.drew)|exact HK.out)⟩,⟨zB⟩⟩
 case round=>
  clear H';obtain⟨a5,a4,a2,rfl,rfl,HA,b3,a0,HK,HB⟩:=hrel;cases gk with
  | zero=>exact absurd HA.out (by simp[laws_markStringS.l0])
  | succ k1=>
   have H:=HA.out;clear HA;simp only[laws_markStringS.l0] at H;replace H:=zI0 H;rcases H with ⟨c0,H⟩|⟨c0,H⟩
   ·replace H:=Option.bind_eq_some_iff.mp H;obtain⟨a8,b4,H⟩:=H;(try dsimp only at H);have A4:=zA b4;clear b4;replace H:=zD0 H;obtain⟨c9,H⟩:=H;obtain⟨a9,b0⟩:∃ y_:List ByteArray,y_=(a5.set (a2:Int).toNat a8):=⟨_,rfl⟩;replace H:(laws_markStringS.l0 k1 a9 (wrap64 (a4+1)) (wrap64 (a2+1)))=some (r1,r2):=zY b0 H;have c2:=zA b0;clear b0;have H':=zA H;clear H;obtain⟨d0,c3,c4⟩:=Kd.R_slice a0.out;subst c4;go_wp2_with (first|((with_reducible refine zq 157 ?_);refine zg (some 15) Tryz.func157 #[.int .i64 a4] ?_;(with_reducible refine(laws_markText.calls k1 a4 a8 _ A4.out).mono ?_);rintro e w8 ⟨rfl,hb⟩;refine⟨_,rfl,?_⟩;replace a0:=zr a0 hb;replace HK:=zA (Kept.below (S:=(fun k_=>a3 k_)) (by repeat(first|(with_reducible first|exact HK.out|apply Kept.alloc|apply Kept.drewN|apply Kept.drew)|exact HK.out)) hb);replace HB:=zA (below_step (zB) hb);(try clear hb);have p6:0≤(a2:Int):=zD;have q6:(a2:Int)<((a5.length:Int):Int):=zD;obtain⟨a7,d1,b5,b6,c5,d2,b7⟩:=Kd.R_form a0.out (by omega);(first|cases b5|(injection b5 with ea_ en_ ec_;(first|subst ea_|(injection ea_ with ea_;subst ea_));subst ec_;clear en_));have c6:=zA b6;have d3:=zA b7;clear b6 c5 b7;have d4:=zA (show (a3 a7∨w.heap.size≤a7) from(a0.out.1 _ rfl));obtain⟨d5,d6⟩:=Kd.R_celln (⟨#[]⟩:ByteArray) a0.out (a2:Int) p6 q6;replace p6:=eq_true p6;replace q6:=eq_true q6;obtain⟨d7,d8⟩:=Kd.R_celln (⟨#[]⟩:ByteArray) a0.out (a2:Int) (zD) (zD);have b1:=Kd.R_putg a0.out (a2:Int) a8)|((with_reducible refine gate_store (t:=9) (p:=16) rfl ?_);refine store_event (t:=9) (p:=16) (v:=?vo_w10) (w1:=(w8.setCell ⟨a7,(a2:Int).toNat,none⟩ (.string a8))) ?hg ?ho ?hn ?hr ?_;(case ho=>rfl);(case hg=>rfl);(case hn=>rfl);(case hr=>first|(go_simp;done)|(go_simp;rfl));intro b2 hw;have hg:w8.grownBy b2 (some a7):=(by rw[hw];exact b1.2);have hp_:Kd.R Kd.string 9 b2 w0.heap.size (fun k_=>(a3 k_∨w.heap.size≤k_)) (.slice (some ⟨a7,0,none⟩) a5.length c3) a9:=(by rw[hw,c2.out];exact b1.1);clear b1;replace HB:=zA ((by rw[hw];exact below_set (HB.out) c6.out:Below w0.heap.size w0 b2));replace HK:=zA (Kept.of_grown (S:=(fun k_=>a3 k_)) hg (by repeat(first|(with_reducible first|exact HK.out|apply Kept.alloc|apply Kept.drewN|apply Kept.drew)|exact HK.out)) (fun k_ e_=>(a0.out.1 k_ e_)));replace a0:=zA (hp_);clear hg hw hp_))
    go_roundg k1
    case measure=>have:=b3.out;omega
    case rel=>exact⟨(a9),(wrap64 (a4+1)),(wrap64 (a2+1)),zS,zS,H',⟨by have:=b3.out;omega⟩,⟨zR a0.out⟩,⟨by repeat(first|(with_reducible first|exact HK.out|apply Kept.alloc|apply Kept.drewN|apply Kept.drew)|exact HK.out)⟩,⟨zB⟩⟩
   simp only[zU] at H;obtain⟨rfl,rfl⟩:=H;obtain⟨d9,e0,c7⟩:=Kd.R_slice a0.out;subst c7;go_wp2;go_ret;exact⟨zE,zR a0.out,zB,by repeat(first|(with_reducible first|exact HK.out|apply Kept.alloc|apply Kept.drewN|apply Kept.drew)|exact HK.out)⟩
/-! ### laws_markCmpS: function 81 -/
def laws_markCmpS.el (k:Nat) (x:S34) (n:Int):Option (Int × S34):=(laws_markStringS.f k x.f1.f3 (wrap64 ((wrap64 ((wrap64 ((wrap64 (n+1))+1))+1))+1))).bind fun(z_:Int × _)=>(fun p4n p4l=>some (p4n,(⟨n,⟨(wrap64 (n+1)),(wrap64 ((wrap64 (n+1))+1)),(wrap64 ((wrap64 ((wrap64 (n+1))+1))+1)),p4l⟩⟩:S34))) z_.1 z_.2
def laws_markCmpS.l (k:Nat):List S34→Int→Option (Int × List S34)
 | [],n=>some (n,[])
 | x :: r,n=>(laws_markCmpS.el k x n).bind fun p=>(laws_markCmpS.l k r p.1).bind fun q=>some (q.1,p.2 :: q.2)
def laws_markCmpS.f (k:Nat) (l0:List S34) (a1:Int):Option (Int × List S34):=laws_markCmpS.l k l0 a1
theorem laws_markCmpS.calls (k:Nat) (a5:Nat→Prop) (b0:Value) (l0:List S34) (a1 r1:Int) (r2:List S34) (w0 w:World) (hB:Below w0.heap.size w0 w) (a6:Kd.S k34 34 w w0.heap.size a5 b0 l0) (h:laws_markCmpS.f k l0 a1=some (r1,r2)) :
  Calls Tryz.prog 81 #[b0,.int .i64 a1] w fun e w'=>e=.returned (.int .i64 r1)∧Kd.S k34 34 w' w0.heap.size a5 b0 r2∧Below w0.heap.size w0 w'∧Kept w w' a5:=by
 have hu_:=Tryz.underlying70;obtain⟨A,c,rfl⟩:=Kd.S_slice a6;have HMAX:=zA (show l0.length≤9223372036854775807 from(Kd.S_reads' a6).2.2.2.1);have HO:=zA a6;have HK:=zA (Kept.refl w a5);have HB:=zA hB;clear hB a6;have H':=zA (show laws_markCmpS.l k l0 a1=some (r1,r2) from h);clear h;go_enter Tryz.func81,Tryz.ntmps81;go_wp2;go_loopg [1,5] l0.length (fun gg v1 v5 w'=>∃ (kk:Nat) (x1 x5:Int) (done rest:List S34) (tl:List S34),v1=.int .i64 x1∧v5=.int .i64 x5∧x5=(kk:Int)∧l0.length-kk≤gg∧done.length=kk∧Aside0 (kk+rest.length=l0.length)∧Aside0 (laws_markCmpS.l k rest x1=some (r1,tl))∧Aside0 (r2=done++tl)∧Aside0 (Kd.S k34 34 w' w0.heap.size a5 (.slice A l0.length c) (done++rest))∧Aside0 (Kept w w' a5)∧Aside0 (Below w0.heap.size w0 w'))
 case atStart=>exact⟨0,a1,0,[],l0,r2,rfl,rfl,rfl,by omega,rfl,⟨by omega⟩,H',⟨rfl⟩,⟨by(with_reducible repeat(first|apply Kd.S_alloc|apply Kd.S_drewN|apply Kd.S_drew));exact HO.out⟩,⟨by(repeat(first|(with_reducible first|exact HK.out|apply Kept.alloc|apply Kept.drewN|apply Kept.drew)|exact HK.out))⟩,⟨by(exact zW HB.out)⟩⟩
 case round=>
  clear HO HK HB H';obtain⟨kk,x1,x5,done,rest,tl,rfl,rfl,b3,hg,hdl,hrl,HA,b4,HO,HK,HB⟩:=hrel;cases rest with
  | nil=>
   have hlt:¬(x5<(l0.length:Int)):=by have:=hrl.out;simp at this;omega
   have H:=HA.out;simp only[laws_markCmpS.l,Option.some.injEq,Prod.mk.injEq] at H;obtain⟨rfl,rfl⟩:=H;have b6:=b4.out;subst b6;simp only[List.append_nil] at HO ⊢;have HOO:=HO;clear HO b3 hg hdl;have HO:=HOO;go_wp2;go_ret;exact⟨rfl,by(with_reducible repeat(first|apply Kd.S_alloc|apply Kd.S_drewN|apply Kd.S_drew));exact HO.out,by(exact zW HB.out),by(repeat(first|(with_reducible first|exact HK.out|apply Kept.alloc|apply Kept.drewN|apply Kept.drew)|exact HK.out))⟩
  | cons x rest=>
   have hltz:x5<(l0.length:Int):=by have:=hrl.out;simp at this;omega
   have h0z:0≤x5:=by omega
   have H:=HA.out;unfold laws_markCmpS.l at H;replace H:=Option.bind_eq_some_iff.mp H;obtain⟨⟨n1,x'⟩,hel,H⟩:=H;replace H:=Option.bind_eq_some_iff.mp H;obtain⟨⟨n2,b5⟩,hl,H⟩:=H;simp only[zU] at H;obtain⟨rfl,rfl⟩:=H;unfold laws_markCmpS.el at hel;replace hel:=Option.bind_eq_some_iff.mp hel;obtain⟨⟨p4n,p4l⟩,h_p4,hel⟩:=hel;have A_p4:=zA (show laws_markStringS.f k x.f1.f3 (wrap64 ((wrap64 ((wrap64 ((wrap64 (x1+1))+1))+1))+1))=some (p4n,p4l) from h_p4);clear h_p4;replace hel:some (p4n,(⟨x1,⟨(wrap64 (x1+1)),(wrap64 ((wrap64 (x1+1))+1)),(wrap64 ((wrap64 ((wrap64 (x1+1))+1))+1)),p4l⟩⟩:S34))=some (n1,x'):=hel;simp only[Option.some.injEq,Prod.mk.injEq] at hel;obtain⟨rfl,rfl⟩:=hel;have AL:=zA (show laws_markCmpS.l k rest p4n=some (n2,b5) from hl);clear hl HA;have hlen:(done++x :: rest).length=l0.length:=by have:=hrl.out;simp at this;rw[List.length_append,List.length_cons];omega
   obtain⟨g,cap,eA,gb,-,-⟩:=Kd.S_form HO.out (by omega);injection eA with eA1 eA2 eA3;subst eA1;subst eA3;have b1:=zA (show x5=(done.length:Int) by omega);have HDL:=zA hdl;have HGG:=zA hg;have GB:=zA gb;clear eA2 hlen b3 hdl hg gb;obtain⟨oki,ce,hcl,hM,hcc,hfr,hoki,hH⟩:=Kd.S_elem HO.out z34 x5 h0z hltz;rw[Deep.get_next b1.out] at hM;obtain⟨v4,rfl,g4⟩:=k34_openM hM;obtain⟨A4,c4,rfl⟩:=Kd.R_slice g4;have H4:=zA g4;have HH:=zA hH;have HOK:=zA hoki;clear HO hM hcl hcc hfr g4 hH hoki;obtain⟨hcc,hfr⟩:=Deep.H_cells HH.out h0z hltz;have hx_:wr.cell? ⟨g,x5.toNat*5,none⟩=some (.int .i64 x.f0):=hcc 0 _ rfl;have hf_:wr.frozen? ⟨g,x5.toNat*5,none⟩=false:=hfr 0;clear hcc hfr;have h0b:=eq_true h0z;have hltb:=eq_true hltz
   go_wp2_with (first
    | ((with_reducible refine gate_store (t:=3) (p:=16) rfl ?_);refine store_event (t:=3) (p:=16) (v:=?voy1_) (w1:=(wr.setCell ⟨g,x5.toNat*5,none⟩ (.int .i64 x1))) ?hg ?ho ?hn ?hr ?_;(case ho=>rfl);(case hg=>rfl);(case hn=>rfl);(case hr=>first|(go_simp;done)|(go_simp;rfl));intro a7 hw;have hp:=Deep.H_put HH.out h0z hltz 0 (by decide) rfl rfl (u:=.int .i64 x1) hw;clear hx_ hf_;have a0:=zA hp.1;have a2:=zA (Kd.R_grown H4.out hp.2 (fun k_ hk e_=>(HOK.out k_ hk).2 (Option.some.inj e_)));have a3:=zA (Kept.of_grown (S:=a5) hp.2 HK.out (fun k_ e_=>.inl (Option.some.inj e_ ▸ (Deep.H_own HH.out).1)));have a4:=zA (show Below w0.heap.size w0 a7 from by rw[hw];exact below_set HB.out GB.out);clear HH H4 HK HB hp hw;have HH:=a0;have HK:=a3;have HB:=a4;clear a0 a3 a4;have H4:=a2;clear a2;obtain⟨hcc,hfr⟩:=Deep.H_cells HH.out h0z hltz;have hx_:a7.cell? ⟨g,x5.toNat*5+1,none⟩=some (.int .i64 x.f1.f0):=hcc 1 _ rfl;have hf_:a7.frozen? ⟨g,x5.toNat*5+1,none⟩=false:=hfr 1;clear hcc hfr)
    | ((with_reducible refine gate_store (t:=3) (p:=24) rfl ?_);refine store_event (t:=3) (p:=24) (v:=?voy2_) (w1:=(a7.setCell ⟨g,x5.toNat*5+1,none⟩ (.int .i64 (wrap64 (x1+1))))) ?hg ?ho ?hn ?hr ?_;(case ho=>rfl);(case hg=>rfl);(case hn=>rfl);(case hr=>first|(go_simp;done)|(go_simp;rfl));intro a8 hw;have hp:=Deep.H_put HH.out h0z hltz 1 (by decide) rfl rfl (u:=.int .i64 (wrap64 (x1+1))) hw;clear hx_ hf_;have a0:=zA hp.1;have a2:=zA (Kd.R_grown H4.out hp.2 (fun k_ hk e_=>(HOK.out k_ hk).2 (Option.some.inj e_)));have a3:=zA (Kept.of_grown (S:=a5) hp.2 HK.out (fun k_ e_=>.inl (Option.some.inj e_ ▸ (Deep.H_own HH.out).1)));have a4:=zA (show Below w0.heap.size w0 a8 from by rw[hw];exact below_set HB.out GB.out);clear HH H4 HK HB hp hw;have HH:=a0;have HK:=a3;have HB:=a4;clear a0 a3 a4;have H4:=a2;clear a2;obtain⟨hcc,hfr⟩:=Deep.H_cells HH.out h0z hltz;have hx_:a8.cell? ⟨g,x5.toNat*5+1+1,none⟩=some (.int .i64 x.f1.f1):=hcc 2 _ rfl;have hf_:a8.frozen? ⟨g,x5.toNat*5+1+1,none⟩=false:=hfr 2;clear hcc hfr)
    | ((with_reducible refine gate_store (t:=3) (p:=32) rfl ?_);refine store_event (t:=3) (p:=32) (v:=?voy3_) (w1:=(a8.setCell ⟨g,x5.toNat*5+1+1,none⟩ (.int .i64 (wrap64 ((wrap64 (x1+1))+1))))) ?hg ?ho ?hn ?hr ?_;(case ho=>rfl);(case hg=>rfl);(case hn=>rfl);(case hr=>first|(go_simp;done)|(go_simp;rfl));intro a9 hw;have hp:=Deep.H_put HH.out h0z hltz 2 (by decide) rfl rfl (u:=.int .i64 (wrap64 ((wrap64 (x1+1))+1))) hw;clear hx_ hf_;have a0:=zA hp.1;have a2:=zA (Kd.R_grown H4.out hp.2 (fun k_ hk e_=>(HOK.out k_ hk).2 (Option.some.inj e_)));have a3:=zA (Kept.of_grown (S:=a5) hp.2 HK.out (fun k_ e_=>.inl (Option.some.inj e_ ▸ (Deep.H_own HH.out).1)));have a4:=zA (show Below w0.heap.size w0 a9 from by rw[hw];exact below_set HB.out GB.out);clear HH H4 HK HB hp hw;have HH:=a0;have HK:=a3;have HB:=a4;clear a0 a3 a4;have H4:=a2;clear a2;obtain⟨hcc,hfr⟩:=Deep.H_cells HH.out h0z hltz;have hx_:a9.cell? ⟨g,x5.toNat*5+1+2,none⟩=some (.int .i64 x.f1.f2):=hcc 3 _ rfl;have hf_:a9.frozen? ⟨g,x5.toNat*5+1+2,none⟩=false:=hfr 3;clear hcc hfr)
    | ((with_reducible refine gate_store (t:=3) (p:=40) rfl ?_);refine store_event (t:=3) (p:=40) (v:=?voy4_) (w1:=(a9.setCell ⟨g,x5.toNat*5+1+2,none⟩ (.int .i64 (wrap64 ((wrap64 ((wrap64 (x1+1))+1))+1))))) ?hg ?ho ?hn ?hr ?_;(case ho=>rfl);(case hg=>rfl);(case hn=>rfl);(case hr=>first|(go_simp;done)|(go_simp;rfl));intro b2 hw;have hp:=Deep.H_put HH.out h0z hltz 3 (by decide) rfl rfl (u:=.int .i64 (wrap64 ((wrap64 ((wrap64 (x1+1))+1))+1))) hw;clear hx_ hf_;have a0:=zA hp.1;have a2:=zA (Kd.R_grown H4.out hp.2 (fun k_ hk e_=>(HOK.out k_ hk).2 (Option.some.inj e_)));have a3:=zA (Kept.of_grown (S:=a5) hp.2 HK.out (fun k_ e_=>.inl (Option.some.inj e_ ▸ (Deep.H_own HH.out).1)));have a4:=zA (show Below w0.heap.size w0 b2 from by rw[hw];exact below_set HB.out GB.out);clear HH H4 HK HB hp hw;have HH:=a0;have HK:=a3;have HB:=a4;clear a0 a3 a4;have H4:=a2;clear a2;obtain⟨hcc,hfr⟩:=Deep.H_cells HH.out h0z hltz;have hx_:b2.cell? ⟨g,x5.toNat*5+1+3,none⟩=some (.slice A4 x.f1.f3.length c4):=hcc 4 _ rfl;have hf_:b2.frozen? ⟨g,x5.toNat*5+1+3,none⟩=false:=hfr 4;clear hcc hfr)
    | ((with_reducible refine gate_callee (f:=122) rfl ?_);refine goesL_ (some 50) rfl rfl Tryz.func122 (by kernel_rfl) rfl #[.slice A4 x.f1.f3.length c4,.int .i64 (wrap64 ((wrap64 ((wrap64 ((wrap64 (x1+1))+1))+1))+1))] rfl (by(try simp only[List.map_toArray,List.map_cons,List.map_nil]);first|done|rfl) ?_;(with_reducible refine(laws_markStringS.calls k (fun k_=>some k_=(.slice A4 x.f1.f3.length c4:Value).ownBlock) (.slice A4 x.f1.f3.length c4) _ (wrap64 ((wrap64 ((wrap64 ((wrap64 (x1+1))+1))+1))+1)) p4n p4l w0 _ (by(exact zW HB.out)) (Deep.R_flat rfl H4.out) A_p4.out).mono ?_);rintro e b7 ⟨rfl,ho,hb,hkp⟩;refine⟨_,rfl,?_⟩;have hsub:∀ k_,some k_=(.slice A4 x.f1.f3.length c4:Value).ownBlock→oki k_:=fun k_ hk=>H4.out.1 k_ hk.symm;replace HH:=zA (Deep.H_call HH.out hkp hsub);replace H4:=zA (Deep.R_back (Q:=oki) rfl ho (fun k_ hk=>hsub k_ hk.symm));replace HK:=zA (Kept.then_ HK.out hkp (fun k_ hk=>.inl (HOK.out k_ (hsub k_ hk)).1));replace HB:=zA hb;clear ho hb hkp hsub hx_ hf_;skip))
   have hS:=Kd.H_back HH.out (x':=(⟨x1,⟨(wrap64 (x1+1)),(wrap64 ((wrap64 (x1+1))+1)),(wrap64 ((wrap64 ((wrap64 (x1+1))+1))+1)),p4l⟩⟩:S34)) (k34_mkM _ _ _ _ H4.out) (fun _ hk=>hk);rw[Deep.set_next b1.out] at hS;have HS:=zA hS;clear hS;go_roundg (l0.length-(kk+1))
   case measure=>have:=HGG.out;have:=hrl.out;rw[List.length_cons] at this;omega
   case rel=>exact⟨kk+1,_,wrap64 (x5+1),done++[_],rest,b5,rfl,rfl,by have:=b1.out;have:=HDL.out;have:=HMAX.out;unfold wrap64;omega,Nat.le_refl _,by rw[List.length_append,HDL.out];rfl,⟨by have:=hrl.out;rw[List.length_cons] at this;omega⟩,AL,⟨by rw[b4.out,List.append_assoc];rfl⟩,HS,HK,HB⟩
/-! ### laws_markCmpSS: function 35 -/
def laws_markCmpSS.el (k:Nat) (x:(List S34)) (n:Int):Option (Int × (List S34)):=laws_markCmpS.f k x n
def laws_markCmpSS.l (k:Nat):List (List S34)→Int→Option (Int × List (List S34))
 | [],n=>some (n,[])
 | x :: r,n=>(laws_markCmpSS.el k x n).bind fun p=>(laws_markCmpSS.l k r p.1).bind fun q=>some (q.1,p.2 :: q.2)
def laws_markCmpSS.f (k:Nat) (l0:List (List S34)) (a1:Int):Option (Int × List (List S34)):=laws_markCmpSS.l k l0 a1
theorem laws_markCmpSS.calls (k:Nat) (a0:Nat→Prop) (a3:Value) (l0:List (List S34)) (a1 r1:Int) (r2:List (List S34)) (w0 w:World) (hB:Below w0.heap.size w0 w) (a2:Kd.S (Deep.sslice 34 k34) 70 w w0.heap.size a0 a3 l0) (h:laws_markCmpSS.f k l0 a1=some (r1,r2)) :
  Calls Tryz.prog 35 #[a3,.int .i64 a1] w fun e w'=>e=.returned (.int .i64 r1)∧Kd.S (Deep.sslice 34 k34) 70 w' w0.heap.size a0 a3 r2∧Below w0.heap.size w0 w'∧Kept w w' a0:=by
 have hu_:=Tryz.underlying25;obtain⟨A,c,rfl⟩:=Kd.S_slice a2;have HMAX:=zA (show l0.length≤9223372036854775807 from(Kd.S_reads' a2).2.2.2.1);have HO:=zA a2;have HK:=zA (Kept.refl w a0);have HB:=zA hB;clear hB a2;have H':=zA (show laws_markCmpSS.l k l0 a1=some (r1,r2) from h);clear h;go_enter Tryz.func35,Tryz.ntmps35;go_wp2;go_loopg [1,5] l0.length (fun gg v1 v5 w'=>∃ (kk:Nat) (x1 x5:Int) (done rest:List (List S34)) (tl:List (List S34)),v1=.int .i64 x1∧v5=.int .i64 x5∧x5=(kk:Int)∧l0.length-kk≤gg∧done.length=kk∧Aside0 (kk+rest.length=l0.length)∧Aside0 (laws_markCmpSS.l k rest x1=some (r1,tl))∧Aside0 (r2=done++tl)∧Aside0 (Kd.S (Deep.sslice 34 k34) 70 w' w0.heap.size a0 (.slice A l0.length c) (done++rest))∧Aside0 (Kept w w' a0)∧Aside0 (Below w0.heap.size w0 w'))
 case atStart=>exact⟨0,a1,0,[],l0,r2,rfl,rfl,rfl,by omega,rfl,⟨by omega⟩,H',⟨rfl⟩,⟨by(with_reducible repeat(first|apply Kd.S_alloc|apply Kd.S_drewN|apply Kd.S_drew));exact HO.out⟩,⟨by(repeat(first|(with_reducible first|exact HK.out|apply Kept.alloc|apply Kept.drewN|apply Kept.drew)|exact HK.out))⟩,⟨by(exact zW HB.out)⟩⟩
 case round=>
  clear HO HK HB H';obtain⟨kk,x1,x5,done,rest,tl,rfl,rfl,a5,hg,hdl,hrl,HA,a6,HO,HK,HB⟩:=hrel;cases rest with
  | nil=>
   have hlt:¬(x5<(l0.length:Int)):=by have:=hrl.out;simp at this;omega
   have H:=HA.out;simp only[laws_markCmpSS.l,Option.some.injEq,Prod.mk.injEq] at H;obtain⟨rfl,rfl⟩:=H;have a8:=a6.out;subst a8;simp only[List.append_nil] at HO ⊢;have HOO:=HO;clear HO a5 hg hdl;have HO:=HOO;go_wp2;go_ret;exact⟨rfl,by(with_reducible repeat(first|apply Kd.S_alloc|apply Kd.S_drewN|apply Kd.S_drew));exact HO.out,by(exact zW HB.out),by(repeat(first|(with_reducible first|exact HK.out|apply Kept.alloc|apply Kept.drewN|apply Kept.drew)|exact HK.out))⟩
  | cons x rest=>
   have hltz:x5<(l0.length:Int):=by have:=hrl.out;simp at this;omega
   have h0z:0≤x5:=by omega
   have H:=HA.out;unfold laws_markCmpSS.l at H;replace H:=Option.bind_eq_some_iff.mp H;obtain⟨⟨n1,x'⟩,hel,H⟩:=H;replace H:=Option.bind_eq_some_iff.mp H;obtain⟨⟨n2,a7⟩,hl,H⟩:=H;simp only[zU] at H;obtain⟨rfl,rfl⟩:=H;unfold laws_markCmpSS.el at hel;skip;have A_p:=zA hel;clear hel;have AL:=zA (show laws_markCmpSS.l k rest n1=some (n2,a7) from hl);clear hl HA;have hlen:(done++x :: rest).length=l0.length:=by have:=hrl.out;simp at this;rw[List.length_append,List.length_cons];omega
   obtain⟨g,cap,eA,gb,-,-⟩:=Kd.S_form HO.out (by omega);injection eA with eA1 eA2 eA3;subst eA1;subst eA3;have a4:=zA (show x5=(done.length:Int) by omega);have HDL:=zA hdl;have HGG:=zA hg;have GB:=zA gb;clear eA2 hlen a5 hdl hg gb;obtain⟨oki,ce,hcl,hM,hcc,hfr,hoki,hH⟩:=Kd.S_elem HO.out ([]:(List S34)) x5 h0z hltz;rw[Deep.get_next a4.out] at hM;obtain⟨v0,rfl,g0⟩:=hM;obtain⟨A0,c0,rfl⟩:=Kd.S_slice g0;have H0:=zA g0;have HH:=zA hH;have HOK:=zA hoki;have hx_:wr.cell? ⟨g,x5.toNat*1,none⟩=some (.slice A0 x.length c0):=hcc 0 _ rfl;have hf_:wr.frozen? ⟨g,x5.toNat*1,none⟩=false:=hfr 0
   have a9:wr.cell? ⟨g,x5.toNat,none⟩=some (.slice A0 x.length c0):=by rw[Nat.mul_one] at hx_;exact hx_
   have b0:wr.frozen? ⟨g,x5.toNat,none⟩=false:=by rw[Nat.mul_one] at hf_;exact hf_
   clear HO hcl hcc hfr g0 hH hoki;have h0b:=eq_true h0z;have hltb:=eq_true hltz
   go_wp2_with (first
    | ((with_reducible refine gate_callee (f:=81) rfl ?_);refine goesL_ (some 17) rfl rfl Tryz.func81 (by kernel_rfl) rfl #[.slice A0 x.length c0,.int .i64 x1] rfl (by(try simp only[List.map_toArray,List.map_cons,List.map_nil]);first|done|rfl) ?_;(with_reducible refine(laws_markCmpS.calls k oki (.slice A0 x.length c0) x x1 n1 x' w0 _ (by(exact zW HB.out)) H0.out A_p.out).mono ?_);rintro e b1 ⟨rfl,ho,hb,hkp⟩;refine⟨_,rfl,?_⟩;replace HH:=zA (Deep.H_call HH.out hkp (fun _ hk=>hk));replace H0:=zA ho;replace HK:=zA (Kept.then_ HK.out hkp (fun k_ hk=>.inl (HOK.out k_ hk).1));replace HB:=zA hb;clear ho hb hkp hx_ hf_ a9 b0))
   have hS:=Kd.H_back HH.out (x':=x') ⟨_,rfl,H0.out⟩ (fun _ hk=>hk);rw[Deep.set_next a4.out] at hS;have HS:=zA hS;clear hS;go_roundg (l0.length-(kk+1))
   case measure=>have:=HGG.out;have:=hrl.out;rw[List.length_cons] at this;omega
   case rel=>exact⟨kk+1,_,wrap64 (x5+1),done++[_],rest,a7,rfl,rfl,by have:=a4.out;have:=HDL.out;have:=HMAX.out;unfold wrap64;omega,Nat.le_refl _,by rw[List.length_append,HDL.out];rfl,⟨by have:=hrl.out;rw[List.length_cons] at this;omega⟩,AL,⟨by rw[a6.out,List.append_assoc];rfl⟩,HS,HK,HB⟩
/-! ### laws_heldStringS: function 123 -/
def laws_heldStringS.l0:Nat→List ByteArray→Int→Int→Option (Int)
 | 0,_,_,_=>none
 | k+1,x0,x1,x5=>if x5<(x0.length:Int) then (if 0≤x5 then ((laws_markText.f k x1).bind fun a0=>(if (rdOf ByteArray.empty x0 x5).toList=a0.toList then (laws_heldStringS.l0 k x0 (wrap64 (x1+1)) (wrap64 (x5+1))) else (some (-1)))) else (none)) else (some x1)
def laws_heldStringS.f (k:Nat) (l0:List ByteArray) (a1:Int):Option (Int):=laws_heldStringS.l0 k l0 a1 0
theorem laws_heldStringS.calls (k:Nat) (A0:Option Addr) (c0:Nat) (l0:List ByteArray) (a1 r:Int) (w:World) (a9:Kd.C Kd.string w A0 l0.length l0) (b0:l0.length≤c0) (h:laws_heldStringS.f k l0 a1=some r) :
  Calls Tryz.prog 123 #[.slice A0 l0.length c0,.int .i64 a1] w fun e w'=>e=.returned (.int .i64 r)∧Below w.heap.size w w':=by
 have b1:=zA a9;have b8:=zA b0;clear a9 b0;have HB:=zA (Below.refl w.heap.size w);unfold laws_heldStringS.f at h;have H:=h;clear h;have H':=zA H;clear H;go_enter Tryz.func123,Tryz.ntmps123;go_wp2;go_loopg [1,5] k (fun kq v1 v5 w'=>∃ (a4:Int) (a0:Int),v1=.int .i64 a4∧v5=.int .i64 a0∧Aside0 (laws_heldStringS.l0 kq l0 a4 a0=some r)∧Aside0 (kq≤k)∧Aside0 (Below w.heap.size w w'))
 case atStart=>exact⟨(a1),(0),zS,zS,H',⟨Nat.le_refl _⟩,⟨zB⟩⟩
 case round=>
  clear H';obtain⟨a4,a0,rfl,rfl,HA,b2,HB⟩:=hrel;cases gk with
  | zero=>exact absurd HA.out (by simp[laws_heldStringS.l0])
  | succ k1=>
   have H:=HA.out;clear HA;simp only[laws_heldStringS.l0] at H;replace H:=zI0 H;rcases H with ⟨b5,H⟩|⟨b5,H⟩
   ·replace H:=zD0 H;obtain⟨b9,H⟩:=H;replace H:=Option.bind_eq_some_iff.mp H;obtain⟨b3,b4,H⟩:=H;(try dsimp only at H);have A5:=zA b4;clear b4;replace H:=zI1 H;rcases H with ⟨c6,H⟩|⟨c6,H⟩
    ·have b6:=beq_iff_eq.mpr c6;have b7:=bne_eq_false_iff_eq.mpr c6;clear c6;have H':=zA H;clear H;(try go_wp2);replace HB:=zA (below_drew1 HB.out);have a5:0≤(a0:Int):=zD;have a6:a0<(l0.length:Int):=zD;obtain⟨a7,a8,a2⟩:=Kd.at_string b1.out a0 a5 a6;have a3:=a2;cases a8;replace a2:=zx HB a2;replace a5:=eq_true a5;replace a6:=eq_true a6;refine start_ (n:=7) (S:=fun w'=>w'.cell? (a7.add (a0).toNat)=some (.string (rdOf ByteArray.empty l0 a0))) (ds:=[]) (Array.replicate 7 false) (by kernel_rfl) rfl rfl (((HB.out.cell (World.block_lt_of_cell? w _ a3)).trans a3)) (fun hHeld=>?_);generalize wr.drew=w7 at HB a2 hHeld ⊢;refine zp 0 12 ?_;refine zp 1 13 ?_;refine zp 2 14 ?_;refine zp 4 16 ?_;refine take_ (i:=3) (N:=some 15) (v:=?_) (a':=?_) #[true,true,true,true,true,false,false] rfl rfl (by kernel_rfl) (fun _ _ _ h=>h) (Or.inl ⟨by rfl,?_⟩) hHeld ?_ ?_;rotate_left
     ·intro w' s0;go_simp;(with_reducible rfl)
     rotate_left
     ·simp only[Act.put,zT,i64_w,i32_w];rfl
     refine zo 5 (some 17) fun K hK=>?_;refine goes_ Tryz.func157 (by kernel_rfl) rfl #[.int .i64 a4] (by rfl) rfl rfl zM ?_;(with_reducible refine(laws_markText.calls k1 a4 b3 _ A5.out).mono ?_);rintro e w8 ⟨rfl,hb⟩;refine⟨_,rfl,?_⟩;replace HB:=zA (below_step (zB) hb);(try clear hb);refine hK.out _ _ (((HB.out.cell (World.block_lt_of_cell? w _ a3)).trans a3)) (fun hHeld=>?_);clear hK K;refine zn ?_;refine zp 6 18 ?_;refine done_ (by kernel_rfl) ?_;(try go_wp2);go_roundg k1
     case measure=>have:=b2.out;omega
     case rel=>exact⟨(wrap64 (a4+1)),(wrap64 (a0+1)),zS,zS,H',⟨by have:=b2.out;omega⟩,⟨zB⟩⟩
    have b6:=beq_eq_false_iff_ne.mpr c6;have b7:=bne_iff_ne.mpr c6;obtain rfl:=zm H;(try go_wp2);replace HB:=zA (below_drew1 HB.out);have a5:0≤(a0:Int):=zD;have a6:a0<(l0.length:Int):=zD;obtain⟨a7,a8,a2⟩:=Kd.at_string b1.out a0 a5 a6;have a3:=a2;cases a8;replace a2:=zx HB a2;replace a5:=eq_true a5;replace a6:=eq_true a6;refine start_ (n:=7) (S:=fun w'=>w'.cell? (a7.add (a0).toNat)=some (.string (rdOf ByteArray.empty l0 a0))) (ds:=[]) (Array.replicate 7 false) (by kernel_rfl) rfl rfl (((HB.out.cell (World.block_lt_of_cell? w _ a3)).trans a3)) (fun hHeld=>?_);generalize wr.drew=w9 at HB a2 hHeld ⊢;refine zp 0 12 ?_;refine zp 1 13 ?_;refine zp 2 14 ?_;refine zp 4 16 ?_;refine take_ (i:=3) (N:=some 15) (v:=?_) (a':=?_) #[true,true,true,true,true,false,false] rfl rfl (by kernel_rfl) (fun _ _ _ h=>h) (Or.inl ⟨by rfl,?_⟩) hHeld ?_ ?_;rotate_left
    ·intro w' s0;go_simp;(with_reducible rfl)
    rotate_left
    ·simp only[Act.put,zT,i64_w,i32_w];rfl
    refine zo 5 (some 17) fun K hK=>?_;refine goes_ Tryz.func157 (by kernel_rfl) rfl #[.int .i64 a4] (by rfl) rfl rfl zM ?_;(with_reducible refine(laws_markText.calls k1 a4 b3 _ A5.out).mono ?_);rintro e c2 ⟨rfl,hb⟩;refine⟨_,rfl,?_⟩;replace HB:=zA (below_step (zB) hb);(try clear hb);refine hK.out _ _ (((HB.out.cell (World.block_lt_of_cell? w _ a3)).trans a3)) (fun hHeld=>?_);clear hK K;refine zn ?_;refine zp 6 18 ?_;refine done_ (by kernel_rfl) ?_;(try go_wp2);go_ret;exact⟨zE,zB⟩
   obtain rfl:=zm H;go_wp2;go_ret;exact⟨zE,zB⟩
/-! ### laws_heldCmpS: function 82 -/
mutual
def laws_heldCmpS.l0:Nat→List (S34)→Int→Int→Option (Int)
 | 0,_,_,_=>none
 | k+1,x0,x1,x5=>if x5<(x0.length:Int) then (laws_heldCmpS.j1 k x0 x1 x5) else (some x1)
def laws_heldCmpS.j1:Nat→List (S34)→Int→Int→Option (Int)
 | 0,_,_,_=>none
 | k+1,x0,x1,x5=>if 0≤x5 then (if x5<(x0.length:Int) then (if ((rd_T34 x0 x5).f0)=x1 then (laws_heldCmpS.j2 k x0 x1 x5) else (some (-1))) else (none)) else (none)
def laws_heldCmpS.j2:Nat→List (S34)→Int→Int→Option (Int)
 | 0,_,_,_=>none
 | k+1,x0,x1,x5=>if 0≤x5 then (if x5<(x0.length:Int) then (if ((rd_T34 x0 x5).f1.f0)=(wrap64 (x1+1)) then (laws_heldCmpS.j3 k x0 (wrap64 (x1+1)) x5) else (some (-1))) else (none)) else (none)
def laws_heldCmpS.j3:Nat→List (S34)→Int→Int→Option (Int)
 | 0,_,_,_=>none
 | k+1,x0,x1,x5=>if 0≤x5 then (if x5<(x0.length:Int) then (if ((rd_T34 x0 x5).f1.f1)=(wrap64 (x1+1)) then (laws_heldCmpS.j4 k x0 (wrap64 (x1+1)) x5) else (some (-1))) else (none)) else (none)
def laws_heldCmpS.j4:Nat→List (S34)→Int→Int→Option (Int)
 | 0,_,_,_=>none
 | k+1,x0,x1,x5=>if 0≤x5 then (if x5<(x0.length:Int) then (if ((rd_T34 x0 x5).f1.f2)=(wrap64 (x1+1)) then ((laws_heldStringS.f k ((rd_T34 x0 x5).f1.f3) (wrap64 ((wrap64 (x1+1))+1))).bind fun a0=>(if a0<0 then (some (-1)) else (laws_heldCmpS.l0 k x0 a0 (wrap64 (x5+1))))) else (some (-1))) else (none)) else (none)
end
def laws_heldCmpS.f (k:Nat) (l0:List (S34)) (a1:Int):Option (Int):=laws_heldCmpS.l0 k l0 a1 0
theorem laws_heldCmpS.calls (k:Nat) (A0:Option Addr) (c0:Nat) (l0:List (S34)) (a1 r:Int) (w:World) (i2:Kd.C k34 w A0 l0.length l0) (i3:l0.length≤c0) (h:laws_heldCmpS.f k l0 a1=some r) :
  Calls Tryz.prog 82 #[.slice A0 l0.length c0,.int .i64 a1] w fun e w'=>e=.returned (.int .i64 r)∧Below w.heap.size w w':=by
 have a7:=zA i2;have l9:=zA i3;clear i2 i3;have HB:=zA (Below.refl w.heap.size w);unfold laws_heldCmpS.f at h;have H:=h;clear h;have H':=zA H;clear H;go_enter Tryz.func82,Tryz.ntmps82;go_wp2;go_loopg [1,5] k (fun kq v1 v5 w'=>∃ (a2:Int) (a0:Int),v1=.int .i64 a2∧v5=.int .i64 a0∧Aside0 (laws_heldCmpS.l0 kq l0 a2 a0=some r)∧Aside0 (kq≤k)∧Aside0 (Below w.heap.size w w'))
 case atStart=>exact⟨(a1),(0),zS,zS,H',⟨Nat.le_refl _⟩,⟨zB⟩⟩
 case round=>
  clear H';obtain⟨a2,a0,rfl,rfl,HA,c7,HB⟩:=hrel;cases gk with
  | zero=>exact absurd HA.out (by simp[laws_heldCmpS.l0])
  | succ k1=>
   have H:=HA.out;clear HA;simp only[laws_heldCmpS.l0] at H;have g3:=zA H;clear H;go_upto_if 9 with (fail)
   go_cut [] (fun wc=>∃ (kq:Nat),Aside0 (laws_heldCmpS.j1 kq l0 a2 a0=some r)∧Aside0 (kq≤k1)∧Aside0 (Below w.heap.size w wc))
   case first=>
    have H:=g3.out;clear g3;replace H:=zI0 H;rcases H with ⟨a6,H⟩|⟨a6,H⟩
    ·(first|rw[a6]|(simp only[i64_w,i32_w];rw[a6])|skip);have H':=zA H;clear H;go_wp2;go_meet
     case rel=>exact⟨_,(by first|exact H'|(subst_vars;exact H')),⟨by have:=c7.out;first|omega|exact Nat.le_refl _⟩,⟨zB⟩⟩
    (first|rw[a6]|(simp only[i64_w,i32_w];rw[a6])|skip);obtain rfl:=zm H;go_wp2;go_ret;exact⟨zE,zB⟩
   case rest=>
    clear g3;obtain⟨kq,HA,d4,HB⟩:=hcut;cases kq with
    | zero=>exact absurd HA.out (by simp[laws_heldCmpS.j1])
    | succ k3=>
     have H:=HA.out;clear HA;simp only[laws_heldCmpS.j1] at H;replace H:=zD0 H;obtain⟨g4,H⟩:=H;replace H:=zD0 H;obtain⟨g5,H⟩:=H;have g6:=zA H;clear H;have d0:0≤(a0:Int):=zD;have d1:a0<(l0.length:Int):=zD;obtain⟨b6,m0,m1,k4,d5,d6,d7,d8,d9,i4,i5⟩:=at_T34 a7.out a0 d0 d1;cases k4;replace d5:=zx HB d5;replace d6:=zx HB d6;replace d7:=zx HB d7;replace d8:=zx HB d8;replace d9:=zx HB d9;have m2:=zA i5;have m3:=zA i4;clear i5 i4;replace d0:=eq_true d0;replace d1:=eq_true d1;go_upto_if 18 with (fail)
     go_cut [] (fun wc=>∃ (kq:Nat),Aside0 (laws_heldCmpS.j2 kq l0 a2 a0=some r)∧Aside0 (kq≤k3)∧Aside0 (Below w.heap.size w wc))
     case first=>
      have H:=g6.out;clear g6;replace H:=zI1 H;rcases H with ⟨c8,H⟩|⟨c8,H⟩
      ·have a8:=beq_iff_eq.mpr c8;have f0:=bne_eq_false_iff_eq.mpr c8;clear c8;(first|rw[a8]|(simp only[i64_w,i32_w];rw[a8])|skip);have H':=zA H;clear H;go_wp2;go_meet
       case rel=>exact⟨_,(by first|exact H'|(subst_vars;exact H')),⟨by have:=c7.out;have:=d4.out;first|omega|exact Nat.le_refl _⟩,⟨zB⟩⟩
      have a8:=beq_eq_false_iff_ne.mpr c8;have f0:=bne_iff_ne.mpr c8;(first|rw[a8]|(simp only[i64_w,i32_w];rw[a8])|skip);obtain rfl:=zm H;go_wp2;go_ret;exact⟨zE,zB⟩
     case rest=>
      clear g6;(try clear g4);(try clear g5);(try clear d5);(try clear d6);(try clear d7);(try clear d8);(try clear d9);(try clear d0);(try clear d1);obtain⟨kq,HA,f2,HB⟩:=hcut;cases kq with
      | zero=>exact absurd HA.out (by simp[laws_heldCmpS.j2])
      | succ k5=>
       have H:=HA.out;clear HA;simp only[laws_heldCmpS.j2] at H;replace H:=zD0 H;obtain⟨i6,H⟩:=H;replace H:=zD0 H;obtain⟨i7,H⟩:=H;have g7:=zA H;clear H;have e0:0≤(a0:Int):=zD;have e1:a0<(l0.length:Int):=zD;obtain⟨k6,m4,m5,k7,f4,f5,f6,f7,f8,i8,i9⟩:=at_T34 a7.out a0 e0 e1;obtain rfl:b6=k6:=(by injection k7);replace f4:=zx HB f4;replace f5:=zx HB f5;replace f6:=zx HB f6;replace f7:=zx HB f7;replace f8:=zx HB f8;have m6:=zA i9;have m7:=zA i8;clear i9 i8;replace e0:=eq_true e0;replace e1:=eq_true e1;go_upto_if 28 with (fail)
       go_cut [] (fun wc=>∃ (kq:Nat),Aside0 (laws_heldCmpS.j3 kq l0 (wrap64 (a2+1)) a0=some r)∧Aside0 (kq≤k5)∧Aside0 (Below w.heap.size w wc))
       case first=>
        have H:=g7.out;clear g7;replace H:=zI1 H;rcases H with ⟨a9,H⟩|⟨a9,H⟩
        ·have b7:=beq_iff_eq.mpr a9;have g8:=bne_eq_false_iff_eq.mpr a9;clear a9;(first|rw[b7]|(simp only[i64_w,i32_w];rw[b7])|skip);have H':=zA H;clear H;go_wp2;go_meet
         case rel=>exact⟨_,(by first|exact H'|(subst_vars;exact H')),⟨by have:=c7.out;have:=d4.out;have:=f2.out;first|omega|exact Nat.le_refl _⟩,⟨zB⟩⟩
        have b7:=beq_eq_false_iff_ne.mpr a9;have g8:=bne_iff_ne.mpr a9;(first|rw[b7]|(simp only[i64_w,i32_w];rw[b7])|skip);obtain rfl:=zm H;go_wp2;go_ret;exact⟨zE,zB⟩
       case rest=>
        clear g7;(try clear i6);(try clear i7);(try clear f4);(try clear f5);(try clear f6);(try clear f7);(try clear f8);(try clear e0);(try clear e1);obtain⟨kq,HA,g9,HB⟩:=hcut;cases kq with
        | zero=>exact absurd HA.out (by simp[laws_heldCmpS.j3])
        | succ k8=>
         have H:=HA.out;clear HA;simp only[laws_heldCmpS.j3] at H;replace H:=zD0 H;obtain⟨k9,H⟩:=H;replace H:=zD0 H;obtain⟨l1,H⟩:=H;have h0:=zA H;clear H;have f9:0≤(a0:Int):=zD;have g0:a0<(l0.length:Int):=zD;obtain⟨l2,m8,m9,l3,h1,h2,h3,h4,h5,j0,j5⟩:=at_T34 a7.out a0 f9 g0;obtain rfl:b6=l2:=(by injection l3);replace h1:=zx HB h1;replace h2:=zx HB h2;replace h3:=zx HB h3;replace h4:=zx HB h4;replace h5:=zx HB h5;have n0:=zA j5;have n1:=zA j0;clear j5 j0;replace f9:=eq_true f9;replace g0:=eq_true g0;go_upto_if 38 with (fail)
         go_cut [] (fun wc=>∃ (kq:Nat),Aside0 (laws_heldCmpS.j4 kq l0 (wrap64 ((wrap64 (a2+1))+1)) a0=some r)∧Aside0 (kq≤k8)∧Aside0 (Below w.heap.size w wc))
         case first=>
          have H:=h0.out;clear h0;replace H:=zI1 H;rcases H with ⟨b8,H⟩|⟨b8,H⟩
          ·have d2:=beq_iff_eq.mpr b8;have j6:=bne_eq_false_iff_eq.mpr b8;clear b8;(first|rw[d2]|(simp only[i64_w,i32_w];rw[d2])|skip);have H':=zA H;clear H;go_wp2;go_meet
           case rel=>exact⟨_,(by first|exact H'|(subst_vars;exact H')),⟨by have:=c7.out;have:=d4.out;have:=f2.out;have:=g9.out;first|omega|exact Nat.le_refl _⟩,⟨zB⟩⟩
          have d2:=beq_eq_false_iff_ne.mpr b8;have j6:=bne_iff_ne.mpr b8;(first|rw[d2]|(simp only[i64_w,i32_w];rw[d2])|skip);obtain rfl:=zm H;go_wp2;go_ret;exact⟨zE,zB⟩
         case rest=>
          clear h0;(try clear k9);(try clear l1);(try clear h1);(try clear h2);(try clear h3);(try clear h4);(try clear h5);(try clear f9);(try clear g0);obtain⟨kq,HA,j7,HB⟩:=hcut;cases kq with
          | zero=>exact absurd HA.out (by simp[laws_heldCmpS.j4])
          | succ h6=>
           have H:=HA.out;clear HA;simp only[laws_heldCmpS.j4] at H;replace H:=zD0 H;obtain⟨n2,H⟩:=H;replace H:=zD0 H;obtain⟨n3,H⟩:=H;replace H:=zI1 H;rcases H with ⟨d3,H⟩|⟨d3,H⟩
           ·have l4:=beq_iff_eq.mpr d3;have l5:=bne_eq_false_iff_eq.mpr d3;clear d3;replace H:=Option.bind_eq_some_iff.mp H;obtain⟨h7,j8,H⟩:=H;(try dsimp only at H);have j9:=zA j8;clear j8;replace H:=zI0 H;rcases H with ⟨l6,H⟩|⟨l6,H⟩
            ·obtain rfl:=zm H;have a3:0≤(a0:Int):=zD;have a4:a0<(l0.length:Int):=zD;obtain⟨e2,g1,g2,e3,b0,b1,b2,b3,a5,b4,b5⟩:=at_T34 a7.out a0 a3 a4;obtain rfl:b6=e2:=(by injection e3);replace b0:=zx HB b0;replace b1:=zx HB b1;replace b2:=zx HB b2;replace b3:=zx HB b3;replace a5:=zx HB a5;have k0:=zA b5;have k2:=zA b4;clear b5 b4;replace a3:=eq_true a3;replace a4:=eq_true a4;have b9:0≤(a0:Int):=zD;have c2:a0<(l0.length:Int):=zD;obtain⟨h8,l7,l8,h9,e4,e5,e6,e7,c3,e8,e9⟩:=at_T34 a7.out a0 b9 c2;obtain rfl:b6=h8:=(by injection h9);replace e4:=zx HB e4;replace e5:=zx HB e5;replace e6:=zx HB e6;replace e7:=zx HB e7;replace c3:=zx HB c3;have i0:=zA e9;have i1:=zA e8;clear e9 e8;replace b9:=eq_true b9;replace c2:=eq_true c2;have ea_:=Option.some.inj (a5.symm.trans c3);injection ea_ with ea_ en_ ec_;subst ea_;subst ec_;clear en_
             go_wp2_with (first|((with_reducible refine zq 123 ?_);refine zg (some 58) Tryz.func123 #[.slice g1 ((rd_T34 l0 a0).f1.f3).length g2,.int .i64 (wrap64 ((wrap64 ((wrap64 ((wrap64 (a2+1))+1))+1))+1))] ?_;(with_reducible refine(laws_heldStringS.calls h6 _ _ ((rd_T34 l0 a0).f1.f3) (wrap64 ((wrap64 ((wrap64 ((wrap64 (a2+1))+1))+1))+1)) h7 _ ?s1 ?s2 j9.out).mono ?_);(case s1=>exact zC (Kd.C_below i0.out HB.out));(case s2=>exact i1.out);rintro e n4 ⟨rfl,hb⟩;refine⟨_,rfl,?_⟩;replace HB:=zA (below_step (zB) hb);(try clear hb)))
             go_ret;exact⟨zE,zB⟩
            have H':=zA H;clear H;have a3:0≤(a0:Int):=zD;have a4:a0<(l0.length:Int):=zD;obtain⟨e2,g1,g2,e3,b0,b1,b2,b3,a5,b4,b5⟩:=at_T34 a7.out a0 a3 a4;obtain rfl:b6=e2:=(by injection e3);replace b0:=zx HB b0;replace b1:=zx HB b1;replace b2:=zx HB b2;replace b3:=zx HB b3;replace a5:=zx HB a5;have k0:=zA b5;have k2:=zA b4;clear b5 b4;replace a3:=eq_true a3;replace a4:=eq_true a4;have b9:0≤(a0:Int):=zD;have c2:a0<(l0.length:Int):=zD;obtain⟨h8,l7,l8,h9,e4,e5,e6,e7,c3,e8,e9⟩:=at_T34 a7.out a0 b9 c2;obtain rfl:b6=h8:=(by injection h9);replace e4:=zx HB e4;replace e5:=zx HB e5;replace e6:=zx HB e6;replace e7:=zx HB e7;replace c3:=zx HB c3;have i0:=zA e9;have i1:=zA e8;clear e9 e8;replace b9:=eq_true b9;replace c2:=eq_true c2;have ea_:=Option.some.inj (a5.symm.trans c3);injection ea_ with ea_ en_ ec_;subst ea_;subst ec_;clear en_
            go_wp2_with (first|((with_reducible refine zq 123 ?_);refine zg (some 58) Tryz.func123 #[.slice g1 ((rd_T34 l0 a0).f1.f3).length g2,.int .i64 (wrap64 ((wrap64 ((wrap64 ((wrap64 (a2+1))+1))+1))+1))] ?_;(with_reducible refine(laws_heldStringS.calls h6 _ _ ((rd_T34 l0 a0).f1.f3) (wrap64 ((wrap64 ((wrap64 ((wrap64 (a2+1))+1))+1))+1)) h7 _ ?s1 ?s2 j9.out).mono ?_);(case s1=>exact zC (Kd.C_below i0.out HB.out));(case s2=>exact i1.out);rintro e n5 ⟨rfl,hb⟩;refine⟨_,rfl,?_⟩;replace HB:=zA (below_step (zB) hb);(try clear hb)))
            go_roundg h6
            case measure=>have:=c7.out;have:=d4.out;have:=f2.out;have:=g9.out;have:=j7.out;omega
            case rel=>exact⟨(h7),(wrap64 (a0+1)),zS,zS,H',⟨by have:=c7.out;have:=d4.out;have:=f2.out;have:=g9.out;have:=j7.out;omega⟩,⟨zB⟩⟩
           have l4:=beq_eq_false_iff_ne.mpr d3;have l5:=bne_iff_ne.mpr d3;obtain rfl:=zm H;have a3:0≤(a0:Int):=zD;have a4:a0<(l0.length:Int):=zD;obtain⟨e2,g1,g2,e3,b0,b1,b2,b3,a5,b4,b5⟩:=at_T34 a7.out a0 a3 a4;obtain rfl:b6=e2:=(by injection e3);replace b0:=zx HB b0;replace b1:=zx HB b1;replace b2:=zx HB b2;replace b3:=zx HB b3;replace a5:=zx HB a5;have k0:=zA b5;have k2:=zA b4;clear b5 b4;replace a3:=eq_true a3;replace a4:=eq_true a4;go_wp2;go_ret;exact⟨zE,zB⟩
/-! ### laws_heldCmpSS: function 36 -/
def laws_heldCmpSS.l0:Nat→List (List (S34))→Int→Int→Option (Int)
 | 0,_,_,_=>none
 | k+1,x0,x1,x5=>if x5<(x0.length:Int) then (if 0≤x5 then ((laws_heldCmpS.f k (rd_L5 x0 x5) x1).bind fun a0=>(if a0<0 then (some (-1)) else (laws_heldCmpSS.l0 k x0 a0 (wrap64 (x5+1))))) else (none)) else (some x1)
def laws_heldCmpSS.f (k:Nat) (l0:List (List (S34))) (a1:Int):Option (Int):=laws_heldCmpSS.l0 k l0 a1 0
theorem laws_heldCmpSS.calls (k:Nat) (A0:Option Addr) (c0:Nat) (l0:List (List (S34))) (a1 r:Int) (w:World) (b4:Kd.C (Kd.slice 34 k34) w A0 l0.length l0) (b5:l0.length≤c0) (h:laws_heldCmpSS.f k l0 a1=some r) :
  Calls Tryz.prog 36 #[.slice A0 l0.length c0,.int .i64 a1] w fun e w'=>e=.returned (.int .i64 r)∧Below w.heap.size w w':=by
 have b6:=zA b4;have c3:=zA b5;clear b4 b5;have HB:=zA (Below.refl w.heap.size w);unfold laws_heldCmpSS.f at h;have H:=h;clear h;have H':=zA H;clear H;go_enter Tryz.func36,Tryz.ntmps36;go_wp2;go_loopg [1,5] k (fun kq v1 v5 w'=>∃ (a2:Int) (a0:Int),v1=.int .i64 a2∧v5=.int .i64 a0∧Aside0 (laws_heldCmpSS.l0 kq l0 a2 a0=some r)∧Aside0 (kq≤k)∧Aside0 (Below w.heap.size w w'))
 case atStart=>exact⟨(a1),(0),zS,zS,H',⟨Nat.le_refl _⟩,⟨zB⟩⟩
 case round=>
  clear H';obtain⟨a2,a0,rfl,rfl,HA,b7,HB⟩:=hrel;cases gk with
  | zero=>exact absurd HA.out (by simp[laws_heldCmpSS.l0])
  | succ k1=>
   have H:=HA.out;clear HA;simp only[laws_heldCmpSS.l0] at H;replace H:=zI0 H;rcases H with ⟨b9,H⟩|⟨b9,H⟩
   ·replace H:=zD0 H;obtain⟨c4,H⟩:=H;replace H:=Option.bind_eq_some_iff.mp H;obtain⟨a8,b8,H⟩:=H;(try dsimp only at H);have A5:=zA b8;clear b8;replace H:=zI0 H;rcases H with ⟨c1,H⟩|⟨c1,H⟩
    ·obtain rfl:=zm H;have a3:0≤(a0:Int):=zD;have a4:a0<(l0.length:Int):=zD;obtain⟨c2,a9,b0,b1,a5,a6,a7⟩:=at_L5 b6.out a0 a3 a4;cases b1;replace a5:=zx HB a5;have b2:=zA a7;have b3:=zA a6;clear a7 a6;replace a3:=eq_true a3;replace a4:=eq_true a4;go_wp2_with (first|((with_reducible refine zq 82 ?_);refine zg (some 17) Tryz.func82 #[.slice a9 (rd_L5 l0 a0).length b0,.int .i64 a2] ?_;(with_reducible refine(laws_heldCmpS.calls k1 _ _ (rd_L5 l0 a0) a2 a8 _ ?s1 ?s2 A5.out).mono ?_);(case s1=>exact zC (Kd.C_below b2.out HB.out));(case s2=>exact b3.out);rintro e w7 ⟨rfl,hb⟩;refine⟨_,rfl,?_⟩;replace HB:=zA (below_step (zB) hb);(try clear hb)))
     go_ret;exact⟨zE,zB⟩
    have H':=zA H;clear H;have a3:0≤(a0:Int):=zD;have a4:a0<(l0.length:Int):=zD;obtain⟨c2,a9,b0,b1,a5,a6,a7⟩:=at_L5 b6.out a0 a3 a4;cases b1;replace a5:=zx HB a5;have b2:=zA a7;have b3:=zA a6;clear a7 a6;replace a3:=eq_true a3;replace a4:=eq_true a4;go_wp2_with (first|((with_reducible refine zq 82 ?_);refine zg (some 17) Tryz.func82 #[.slice a9 (rd_L5 l0 a0).length b0,.int .i64 a2] ?_;(with_reducible refine(laws_heldCmpS.calls k1 _ _ (rd_L5 l0 a0) a2 a8 _ ?s1 ?s2 A5.out).mono ?_);(case s1=>exact zC (Kd.C_below b2.out HB.out));(case s2=>exact b3.out);rintro e w8 ⟨rfl,hb⟩;refine⟨_,rfl,?_⟩;replace HB:=zA (below_step (zB) hb);(try clear hb)))
    go_roundg k1
    case measure=>have:=b7.out;omega
    case rel=>exact⟨(a8),(wrap64 (a0+1)),zS,zS,H',⟨by have:=b7.out;omega⟩,⟨zB⟩⟩
   obtain rfl:=zm H;go_wp2;go_ret;exact⟨zE,zB⟩
end Go.Proofs.YtglhniiabhknoaaGreatDoor.PGC

import Derived.Test.YtglhniiabhknoaaProg
import Derived.Below
import Derived.Deep.Draws
import Derived.Deep.AppendLies
import Derived.Maps.AppendAt
import Derived.OwnWalk
import Derived.Laws.BytesArg
import Derived.Laws.MakeOwn
import Derived.Laws.OwnMore
import Derived.Deep.OwnRows
import Derived.Tactics
import Derived.Lib.ConvBytes
import Derived.Laws.Slices
import Derived.WalkKit
import Derived.KernelRfl
import Derived.RowKit3
import Derived.Deep.LoopGhost
import Derived.Deep.QuietTactic
import Derived.BigQuiet
import Derived.WideLaws
import Derived.Deep.DeepCutAuto
import Derived.Deep.CutBlock
import Derived.Deep.RegionHeld3
import Derived.Laws.Rows
import Derived.Lib.AppendStr
import Derived.ArgAppend
import Derived.Laws.IdiomCopy
import Derived.OrdersHeld
import Derived.Laws.BitsLemmas
import Derived.RowKit
import Derived.WalkSpells
import Derived.Test.YtglhniiabhknoaaZGCMine
import Derived.Test.YtglhniiabhknoaaZGCDeep
import Derived.Test.YtglhniiabhknoaaZGCHold
import Derived.Test.YtglhniiabhknoaaZGCAux
import Derived.Test.YtglhniiabhknoaaZGCLib
import Derived.Test.YtglhniiabhknoaaZGCWWords
import Derived.Test.YtglhniiabhknoaaZGCWLast
import Derived.Test.YtglhniiabhknoaaZGCWTab
import Derived.Test.YtglhniiabhknoaaZGCWApart
import Derived.Test.YtglhniiabhknoaaZGCWFoot
import Derived.Test.YtglhniiabhknoaaZGCWKept
import Derived.Test.YtglhniiabhknoaaZGCWShare
import Derived.Test.YtglhniiabhknoaaZGCWN
import Derived.Laws.StructEq
import Derived.Test.YtglhniiabhknoaaZGCWRepsOne
import Derived.Test.YtglhniiabhknoaaZGCWInvWords
import Derived.Test.YtglhniiabhknoaaZGCWMore
import Derived.Test.YtglhniiabhknoaaZGCSays
namespace Go.Proofs.Ytglhniiabhknoaa.PGC
open Go.RowKit YtglhniiabhknoaaW.PrintWords YtglhniiabhknoaaW.PrintLast YtglhniiabhknoaaW.PrintMore
attribute [local go_sem high] Mine.str_gtr Mine.str_leq Mine.str_geq
attribute [local go_sem] max2_int min2_int max_two min_two max_three min_three max_four min_four
set_option linter.unusedVariables false
set_option maxHeartbeats 8000000
set_option maxRecDepth 100000
set_option linter.unusedSimpArgs false
def errW:Option Int→Value
 | none=>.nilIface
 | some c=>.iface 0 (.int .i64 c)
theorem errW_none:errW none=.nilIface:=rfl
theorem errW_some (c:Int):errW (some c)=.iface 0 (.int .i64 c):=rfl
theorem info9:(Try.prog.info? 9).map (fun i=>(i.zero,i.size,i.bytes))=some (some (.string ⟨#[]⟩),1,16):=by kernel_rfl
theorem info29:(Try.prog.info? 29).map (fun i=>(i.zero,i.size,i.bytes))=some (some (.agg #[(.int .i64 0),(.int .i64 0),(.string ⟨#[]⟩),(.slice none 0 0),(.slice none 0 0)]),5,80):=by kernel_rfl
theorem info71:(Try.prog.info? 71).map (fun i=>(i.zero,i.size,i.bytes))=some (some (.agg #[(.string ⟨#[]⟩),(.string ⟨#[]⟩)]),2,32):=by kernel_rfl
theorem info74:(Try.prog.info? 74).map (fun i=>(i.zero,i.size,i.bytes))=some (some (.agg #[(.string ⟨#[]⟩),(.slice none 0 0)]),2,40):=by kernel_rfl
/-! #### struct type 29, nested in itself -/
structure S29 where
 f0:Int
 f1:Int
 f2:ByteArray
 f3:(List S29)
 f4:(List ByteArray)
def z29:S29:=⟨(0:Int),(0:Int),(⟨#[]⟩:ByteArray),([]:List S29),([]:List ByteArray)⟩
def F29 (d:Kd S29):Kd S29:=Kd.iso (Kd.pair (Kd.int .i64) (Kd.pair (Kd.int .i64) (Kd.pair Kd.string (Deep.spair (Deep.sslice 29 d) (Kd.slice 9 Kd.string))))) (fun x:S29=>(x.f0,x.f1,x.f2,x.f3,x.f4))
theorem mono29:Kd.Mono F29:=Kd.mono_iso _ (Kd.mono_pair (Kd.mono_const _) (Kd.mono_pair (Kd.mono_const _) (Kd.mono_pair (Kd.mono_const _) (Deep.mono_spair (Deep.mono_sslice 29 Kd.mono_id) (Kd.mono_const _)))))
theorem sub29:Kd.Sub F29 [9,29]:=Kd.sub_iso _ (Kd.sub_pair (Kd.sub_const _ (by decide)) (Kd.sub_pair (Kd.sub_const _ (by decide)) (Kd.sub_pair (Kd.sub_const _ (by decide)) (Deep.sub_spair (Deep.sub_sslice 29 (by decide) Kd.sub_id) (Kd.sub_const _ (by decide))))))
theorem sz29:∀ n,(Kd.upto F29 5 [9,29] n).sz=5:=Kd.upto_sz (fun _=>rfl)
def k29:Kd S29:=Kd.fix F29 5 [9,29] sz29 (Kd.upto_E sub29)
theorem k29_open {w:World} {x:S29} {cs:List Value} (h:k29.K w x cs):∃ A3 c3 A4 c4,cs=[.int .i64 x.f0,.int .i64 x.f1,.string x.f2,.slice A3 x.f3.length c3,.slice A4 x.f4.length c4]∧x.f3.length≤c3∧k29.C w A3 x.f3.length x.f3∧x.f4.length≤c4∧Kd.string.C w A4 x.f4.length x.f4:=by
 obtain⟨n,h⟩:=h
 cases n with
 | zero=>exact h.elim
 | succ n=>
  obtain⟨_,_,rfl,rfl,⟨_,_,rfl,rfl,⟨_,_,rfl,rfl,⟨_,_,rfl,⟨A3,c3,rfl,l3,g3⟩,⟨A4,c4,rfl,l4,g4⟩⟩⟩⟩⟩:=h
  exact⟨A3,c3,A4,c4,rfl,l3,Kd.fix_C g3,l4,g4⟩
theorem k29_openQ {w:World} {base:Nat} {ok:Nat→Prop} {x:S29} {cs:List Value} (h:k29.M w base ok x cs):∃ (v3 v4:Value) (Q:Nat→Prop),cs=[.int .i64 x.f0,.int .i64 x.f1,.string x.f2,v3,v4]∧Kd.S k29 29 w base (fun k=>ok k∧Q k) v3 x.f3∧Kd.R Kd.string 9 w base (fun k=>ok k∧¬Q k) v4 x.f4:=by
 obtain⟨n,h⟩:=h
 cases n with
 | zero=>exact h.elim
 | succ n=>
  obtain⟨_,_,rfl,rfl,⟨_,_,rfl,rfl,⟨_,_,rfl,rfl,⟨_,_,Q,rfl,⟨v3,rfl,h3⟩,⟨v4,rfl,h4⟩⟩⟩⟩⟩:=h
  exact⟨v3,v4,Q,rfl,Deep.fix_S h3,h4⟩
theorem k29_mkQ (w:World) (base:Nat) (ok:Nat→Prop) (x:S29) {v3 v4:Value} (Q:Nat→Prop) (h3:Kd.S k29 29 w base (fun k=>ok k∧Q k) v3 x.f3) (h4:Kd.R Kd.string 9 w base (fun k=>ok k∧¬Q k) v4 x.f4):k29.M w base ok x [.int .i64 x.f0,.int .i64 x.f1,.string x.f2,v3,v4]:=by
 obtain⟨n,h3⟩:=Deep.fix_S_back mono29 h3
 exact⟨n+1,⟨[.int .i64 x.f0],[.int .i64 x.f1,.string x.f2,v3,v4],rfl,rfl,⟨[.int .i64 x.f1],[.string x.f2,v3,v4],rfl,rfl,⟨[.string x.f2],[v3,v4],rfl,rfl,⟨[v3],[v4],Q,rfl,⟨v3,rfl,h3⟩,⟨v4,rfl,h4⟩⟩⟩⟩⟩⟩
theorem k29_mkM (w:World) (base:Nat) (ok:Nat→Prop) (x:S29) {v3 v4:Value} (h3:Kd.S k29 29 w base (fun k=>ok k∧some k≠v4.ownBlock) v3 x.f3) (h4:Kd.R Kd.string 9 w base ok v4 x.f4):k29.M w base ok x [.int .i64 x.f0,.int .i64 x.f1,.string x.f2,v3,v4]:=
 k29_mkQ w base ok x (fun k=>some k≠v4.ownBlock) h3 (Kd.R_mono (Kd.R_tight rfl h4) (fun k hk=>⟨h4.1 k hk.symm,fun hn=>hn hk⟩))
def rd_T29 (xs:List S29) (i:Int):S29:=xs.getD i.toNat z29
theorem at_T29 {w:World} {A:Option Addr} {n:Nat} {xs:List S29} (h:Kd.C k29 w A n xs) (i:Int) (h0:0≤i) (h1:i<n):∃ ad A3 c3 A4 c4,A=some ad∧w.cell? (ad.add (i.toNat*5))=some (.int .i64 (rd_T29 xs i).f0)∧w.cell? ⟨(ad.add (i.toNat*5)).block,(ad.add (i.toNat*5)).off+1,none⟩=some (.int .i64 (rd_T29 xs i).f1)∧w.cell? ⟨(ad.add (i.toNat*5)).block,(ad.add (i.toNat*5)).off+2,none⟩=some (.string (rd_T29 xs i).f2)∧w.cell? ⟨(ad.add (i.toNat*5)).block,(ad.add (i.toNat*5)).off+3,none⟩=some (.slice A3 (rd_T29 xs i).f3.length c3)∧w.cell? ⟨(ad.add (i.toNat*5)).block,(ad.add (i.toNat*5)).off+4,none⟩=some (.slice A4 (rd_T29 xs i).f4.length c4)∧(rd_T29 xs i).f3.length≤c3∧k29.C w A3 (rd_T29 xs i).f3.length (rd_T29 xs i).f3∧(rd_T29 xs i).f4.length≤c4∧Kd.string.C w A4 (rd_T29 xs i).f4.length (rd_T29 xs i).f4:=by
 obtain⟨ad,c,e,_,hK,hc0⟩:=Kd.C_get h z29 i h0 h1
 have hc:∀ j u,c[j]?=some u→w.cell? (ad.add (i.toNat*5+j))=some u:=hc0
 obtain⟨A3,c3,A4,c4,rfl,l3,g3,l4,g4⟩:=k29_open hK
 exact⟨ad,A3,c3,A4,c4,e,hc 0 _ rfl,by rw[← add_field _ _ 1 (by omega)];exact hc 1 _ rfl,by rw[← add_field _ _ 2 (by omega)];exact hc 2 _ rfl,by rw[← add_field _ _ 3 (by omega)];exact hc 3 _ rfl,by rw[← add_field _ _ 4 (by omega)];exact hc 4 _ rfl,l3,g3,l4,g4⟩
/-! #### struct type 99 -/
structure S99 where
 f0:ByteArray
 f1:ByteArray
def z99:S99:=⟨(⟨#[]⟩:ByteArray),(⟨#[]⟩:ByteArray)⟩
def k99:Kd S99:=Kd.iso (Kd.pair Kd.string Kd.string) (fun x:S99=>(x.f0,x.f1))
theorem k99_open {w:World} {x:S99} {cs:List Value} (h:k99.K w x cs):cs=[.string x.f0,.string x.f1]:=by
 obtain⟨_,_,rfl,rfl,rfl⟩:=h
 exact rfl
def rd_T99 (xs:List S99) (i:Int):S99:=xs.getD i.toNat z99
theorem at_T99 {w:World} {A:Option Addr} {n:Nat} {xs:List S99} (h:Kd.C k99 w A n xs) (i:Int) (h0:0≤i) (h1:i<n):∃ ad ,A=some ad∧w.cell? (ad.add (i.toNat*2))=some (.string (rd_T99 xs i).f0)∧w.cell? ⟨(ad.add (i.toNat*2)).block,(ad.add (i.toNat*2)).off+1,none⟩=some (.string (rd_T99 xs i).f1):=by
 obtain⟨ad,c,e,_,hK,hc0⟩:=Kd.C_get h z99 i h0 h1
 have hc:∀ j u,c[j]?=some u→w.cell? (ad.add (i.toNat*2+j))=some u:=hc0
 obtain rfl:=k99_open hK
 exact⟨ad,e,hc 0 _ rfl,by rw[← add_field _ _ 1 (by omega)];exact hc 1 _ rfl⟩
/-! #### struct type 101 -/
structure S101 where
 f0:ByteArray
 f1:(List ByteArray)
def z101:S101:=⟨(⟨#[]⟩:ByteArray),([]:List ByteArray)⟩
def k101:Kd S101:=Kd.iso (Kd.pair Kd.string (Kd.slice 9 Kd.string)) (fun x:S101=>(x.f0,x.f1))
theorem k101_open {w:World} {x:S101} {cs:List Value} (h:k101.K w x cs):∃ A1 c1,cs=[.string x.f0,.slice A1 x.f1.length c1]∧x.f1.length≤c1∧Kd.string.C w A1 x.f1.length x.f1:=by
 obtain⟨_,_,rfl,rfl,⟨A1,c1,rfl,l1,g1⟩⟩:=h
 exact⟨A1,c1,rfl,l1,g1⟩
def rd_T101 (xs:List S101) (i:Int):S101:=xs.getD i.toNat z101
theorem at_T101 {w:World} {A:Option Addr} {n:Nat} {xs:List S101} (h:Kd.C k101 w A n xs) (i:Int) (h0:0≤i) (h1:i<n):∃ ad A1 c1,A=some ad∧w.cell? (ad.add (i.toNat*2))=some (.string (rd_T101 xs i).f0)∧w.cell? ⟨(ad.add (i.toNat*2)).block,(ad.add (i.toNat*2)).off+1,none⟩=some (.slice A1 (rd_T101 xs i).f1.length c1)∧(rd_T101 xs i).f1.length≤c1∧Kd.string.C w A1 (rd_T101 xs i).f1.length (rd_T101 xs i).f1:=by
 obtain⟨ad,c,e,_,hK,hc0⟩:=Kd.C_get h z101 i h0 h1
 have hc:∀ j u,c[j]?=some u→w.cell? (ad.add (i.toNat*2+j))=some u:=hc0
 obtain⟨A1,c1,rfl,l1,g1⟩:=k101_open hK
 exact⟨ad,A1,c1,e,hc 0 _ rfl,by rw[← add_field _ _ 1 (by omega)];exact hc 1 _ rfl,l1,g1⟩
/-! #### struct type 71 -/
structure S71 where
 f0:ByteArray
 f1:ByteArray
def z71:S71:=⟨(⟨#[]⟩:ByteArray),(⟨#[]⟩:ByteArray)⟩
def k71:Kd S71:=Kd.iso (Kd.pair Kd.string Kd.string) (fun x:S71=>(x.f0,x.f1))
theorem k71_open {w:World} {x:S71} {cs:List Value} (h:k71.K w x cs):cs=[.string x.f0,.string x.f1]:=by
 obtain⟨_,_,rfl,rfl,rfl⟩:=h
 exact rfl
theorem k71_openM {w:World} {base:Nat} {ok:Nat→Prop} {x:S71} {cs:List Value} (h:k71.M w base ok x cs):cs=[.string x.f0,.string x.f1]:=by
 obtain⟨_,_,rfl,rfl,rfl⟩:=h
 exact rfl
theorem k71_mkM (w:World) (base:Nat) (ok:Nat→Prop) (x:S71)  : k71.M w base ok x [.string x.f0,.string x.f1]:=⟨[.string x.f0],[.string x.f1],rfl,rfl,rfl⟩
def rd_T71 (xs:List S71) (i:Int):S71:=xs.getD i.toNat z71
theorem at_T71 {w:World} {A:Option Addr} {n:Nat} {xs:List S71} (h:Kd.C k71 w A n xs) (i:Int) (h0:0≤i) (h1:i<n):∃ ad ,A=some ad∧w.cell? (ad.add (i.toNat*2))=some (.string (rd_T71 xs i).f0)∧w.cell? ⟨(ad.add (i.toNat*2)).block,(ad.add (i.toNat*2)).off+1,none⟩=some (.string (rd_T71 xs i).f1):=by
 obtain⟨ad,c,e,_,hK,hc0⟩:=Kd.C_get h z71 i h0 h1
 have hc:∀ j u,c[j]?=some u→w.cell? (ad.add (i.toNat*2+j))=some u:=hc0
 obtain rfl:=k71_open hK
 exact⟨ad,e,hc 0 _ rfl,by rw[← add_field _ _ 1 (by omega)];exact hc 1 _ rfl⟩
/-! #### struct type 74 -/
structure S74 where
 f0:ByteArray
 f1:(List ByteArray)
def z74:S74:=⟨(⟨#[]⟩:ByteArray),([]:List ByteArray)⟩
def k74:Kd S74:=Kd.iso (Kd.pair Kd.string (Kd.slice 9 Kd.string)) (fun x:S74=>(x.f0,x.f1))
theorem k74_open {w:World} {x:S74} {cs:List Value} (h:k74.K w x cs):∃ A1 c1,cs=[.string x.f0,.slice A1 x.f1.length c1]∧x.f1.length≤c1∧Kd.string.C w A1 x.f1.length x.f1:=by
 obtain⟨_,_,rfl,rfl,⟨A1,c1,rfl,l1,g1⟩⟩:=h
 exact⟨A1,c1,rfl,l1,g1⟩
theorem k74_openM {w:World} {base:Nat} {ok:Nat→Prop} {x:S74} {cs:List Value} (h:k74.M w base ok x cs):∃ v1,cs=[.string x.f0,v1]∧Kd.string.R 9 w base ok v1 x.f1:=by
 obtain⟨_,_,rfl,rfl,⟨v1,rfl,g1⟩⟩:=h
 exact⟨v1,rfl,g1⟩
theorem k74_mkM (w:World) (base:Nat) (ok:Nat→Prop) (x:S74) {v1:Value} (g1:Kd.string.R 9 w base ok v1 x.f1):k74.M w base ok x [.string x.f0,v1]:=⟨[.string x.f0],[v1],rfl,rfl,⟨v1,rfl,g1⟩⟩
def rd_T74 (xs:List S74) (i:Int):S74:=xs.getD i.toNat z74
theorem at_T74 {w:World} {A:Option Addr} {n:Nat} {xs:List S74} (h:Kd.C k74 w A n xs) (i:Int) (h0:0≤i) (h1:i<n):∃ ad A1 c1,A=some ad∧w.cell? (ad.add (i.toNat*2))=some (.string (rd_T74 xs i).f0)∧w.cell? ⟨(ad.add (i.toNat*2)).block,(ad.add (i.toNat*2)).off+1,none⟩=some (.slice A1 (rd_T74 xs i).f1.length c1)∧(rd_T74 xs i).f1.length≤c1∧Kd.string.C w A1 (rd_T74 xs i).f1.length (rd_T74 xs i).f1:=by
 obtain⟨ad,c,e,_,hK,hc0⟩:=Kd.C_get h z74 i h0 h1
 have hc:∀ j u,c[j]?=some u→w.cell? (ad.add (i.toNat*2+j))=some u:=hc0
 obtain⟨A1,c1,rfl,l1,g1⟩:=k74_open hK
 exact⟨ad,A1,c1,e,hc 0 _ rfl,by rw[← add_field _ _ 1 (by omega)];exact hc 1 _ rfl,l1,g1⟩
/-! #### struct type 45 -/
structure S45 where
 f0:ByteArray
 f1:(List ByteArray)
 f2:(List S71)
 f3:(List S74)
/-! #### struct type 39 -/
structure S39 where
 f0:ByteArray
 f1:(List ByteArray)
 f2:(List S99)
 f3:(List S101)
def k39:Kd S39:=Kd.iso (Kd.pair Kd.string (Kd.pair (Kd.slice 9 Kd.string) (Kd.pair (Kd.slice 99 k99) (Kd.slice 101 k101)))) (fun x:S39=>(x.f0,x.f1,x.f2,x.f3))
theorem k39_open {w:World} {x:S39} {cs:List Value} (h:k39.K w x cs):∃ A1 c1 A2 c2 A3 c3,cs=[.string x.f0,.slice A1 x.f1.length c1,.slice A2 x.f2.length c2,.slice A3 x.f3.length c3]∧x.f1.length≤c1∧Kd.string.C w A1 x.f1.length x.f1∧x.f2.length≤c2∧k99.C w A2 x.f2.length x.f2∧x.f3.length≤c3∧k101.C w A3 x.f3.length x.f3:=by
 obtain⟨_,_,rfl,rfl,⟨_,_,rfl,⟨A1,c1,rfl,l1,g1⟩,⟨_,_,rfl,⟨A2,c2,rfl,l2,g2⟩,⟨A3,c3,rfl,l3,g3⟩⟩⟩⟩:=h
 exact⟨A1,c1,A2,c2,A3,c3,rfl,l1,g1,l2,g2,l3,g3⟩
end Go.Proofs.Ytglhniiabhknoaa.PGC

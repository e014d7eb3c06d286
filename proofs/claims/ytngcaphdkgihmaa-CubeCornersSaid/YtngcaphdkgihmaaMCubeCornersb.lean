/- Own text: merged by wip/tools/pack.py out of what the law CubeCorners reaches. -/
import Derived.Test.YtngcaphdkgihmaaProg
import Derived.Below
import Derived.Deep.Draws
import Derived.Deep.AppendLies
import Derived.Maps.AppendAt
import Derived.OwnWalk
import Derived.Laws.BytesArg
import Derived.Laws.MakeOwn
import Derived.Laws.OwnMore
import Derived.Deep.OwnRows
import Derived.Tactics
import Derived.Lib.ConvBytes
import Derived.Laws.Slices
import Derived.WalkKit
import Derived.KernelRfl
import Derived.RowKit3
import Derived.Deep.LoopGhost
import Derived.Deep.QuietTactic
import Derived.BigQuiet
import Derived.WideLaws
import Derived.Deep.DeepCutAuto
import Derived.Deep.CutBlock
import Derived.Deep.RegionHeld3
import Derived.Laws.Rows
import Derived.Lib.AppendStr
import Derived.ArgAppend
import Derived.Laws.IdiomCopy
import Derived.OrdersHeld
import Derived.Laws.BitsLemmas
import Derived.RowKit
import Derived.Test.YtngcaphdkgihmaaMCubeCornersa
namespace Go.Proofs.Ytngcaphdkgihmaa.P
open Go.RowKit Go.Proofs.YtngcaphdkgihmaaW.PrintWords Go.Proofs.YtngcaphdkgihmaaW.PrintLast Go.Proofs.YtngcaphdkgihmaaW.PrintMore
attribute [local go_sem] zS zU z12 z13 zK zL zT zV   -- for this text's walks alone
set_option linter.unusedVariables false
set_option linter.unusedSimpArgs false
def errW : Option Int → Value
 | none=>.nilIface
 | some c=>.iface 0 (.int .i64 c)
theorem zf : errW none = .nilIface:=rfl
theorem zg (c : Int) : errW (some c) = .iface 0 (.int .i64 c):=rfl
theorem info3 : (Try.prog.info? 3).map (fun i=>(i.zero,i.size,i.bytes)) = some (some (.int .i64 0),1,8):=by kernel_rfl
theorem info4 : (Try.prog.info? 4).map (fun i=>(i.zero,i.size,i.bytes)) = some (some (.bool false),1,1):=by kernel_rfl
theorem info37 : (Try.prog.info? 37).map (fun i=>(i.zero,i.size,i.bytes)) = some (some (.slice none 0 0),1,24):=by kernel_rfl
theorem info49 : (Try.prog.info? 49).map (fun i=>(i.zero,i.size,i.bytes)) = some (some (.int .u64 0),1,8):=by kernel_rfl
theorem info51 : (Try.prog.info? 51).map (fun i=>(i.zero,i.size,i.bytes)) = some (some (.agg #[(.int .u64 0),(.int .u64 0)]),2,16):=by kernel_rfl
theorem info61 : (Try.prog.info? 61).map (fun i=>(i.zero,i.size,i.bytes)) = some (some (.agg #[(.int .u64 0),(.int .u64 0)]),2,16):=by kernel_rfl
theorem info87 : (Try.prog.info? 87).map (fun i=>(i.zero,i.size,i.bytes)) = some (some (.agg #[(.int .i64 0),(.int .i64 0),(.int .i64 0),(.int .u64 0),(.int .u64 0)]),5,40):=by kernel_rfl
theorem info92 : (Try.prog.info? 92).map (fun i=>(i.zero,i.size,i.bytes)) = some (some (.slice none 0 0),1,24):=by kernel_rfl
theorem info114 : (Try.prog.info? 114).map (fun i=>(i.zero,i.size,i.bytes)) = some (some (.agg #[(.int .i64 0),(.int .i64 0),(.int .i64 0),(.int .u64 0),(.int .u64 0)]),5,40):=by kernel_rfl
-- the values' own types
structure S23 where
 f0 : Int
 f1 : Int
 f2 : Int
def z23 : S23:=⟨(0 : Int),(0 : Int),(0 : Int)⟩
def k23 : Kd S23:=Kd.iso (Kd.pair (Kd.int .i64) (Kd.pair (Kd.int .i64) (Kd.int .i64))) (fun x : S23=>(x.f0,x.f1,x.f2))
theorem k23_open {w : World} {x : S23} {cs : List Value} (h : k23.K w x cs) : cs = [.int .i64 x.f0,.int .i64 x.f1,.int .i64 x.f2]:=by
 obtain ⟨_,_,rfl,rfl,⟨_,_,rfl,rfl,rfl⟩⟩:=h
 exact rfl
theorem k23_openM {w : World} {base : Nat} {ok : Nat → Prop} {x : S23} {cs : List Value} (h : k23.M w base ok x cs) : cs = [.int .i64 x.f0,.int .i64 x.f1,.int .i64 x.f2]:=by
 obtain ⟨_,_,rfl,rfl,⟨_,_,rfl,rfl,rfl⟩⟩:=h
 exact rfl
theorem k23_mk (w : World) (x : S23)  : k23.K w x [.int .i64 x.f0,.int .i64 x.f1,.int .i64 x.f2]:=⟨[.int .i64 x.f0],[.int .i64 x.f1,.int .i64 x.f2],rfl,rfl,⟨[.int .i64 x.f1],[.int .i64 x.f2],rfl,rfl,rfl⟩⟩
theorem k23_mkM (w : World) (base : Nat) (ok : Nat → Prop) (x : S23)  : k23.M w base ok x [.int .i64 x.f0,.int .i64 x.f1,.int .i64 x.f2]:=⟨[.int .i64 x.f0],[.int .i64 x.f1,.int .i64 x.f2],rfl,rfl,⟨[.int .i64 x.f1],[.int .i64 x.f2],rfl,rfl,rfl⟩⟩
theorem k23_mkF (W : World) (ok : Nat → Prop) (x : S23) : Kd.FK k23 W ok x [.int .i64 x.f0,.int .i64 x.f1,.int .i64 x.f2]:=fun W2 _=>k23_mk W2 x
def z5n (xs : List S23) (i : Int) : S23:=xs.getD i.toNat z23
theorem at_T23 {w : World} {A : Option Addr} {n : Nat} {xs : List S23} (h : Kd.C k23 w A n xs) (i : Int) (h0 : 0 ≤ i) (h1 : i < n) : ∃ ad , A = some ad ∧ w.cell? (ad.add (i.toNat * 3)) = some (.int .i64 (z5n xs i).f0) ∧ w.cell? ⟨(ad.add (i.toNat * 3)).block,(ad.add (i.toNat * 3)).off + 1,none⟩ = some (.int .i64 (z5n xs i).f1) ∧ w.cell? ⟨(ad.add (i.toNat * 3)).block,(ad.add (i.toNat * 3)).off + 2,none⟩ = some (.int .i64 (z5n xs i).f2):=by
 obtain ⟨ad,c,e,_,hK,hc0⟩:=Kd.z2M h z23 i h0 h1
 have hc : ∀ j u,c[j]? = some u → w.cell? (ad.add (i.toNat * 3 + j)) = some u:=hc0
 obtain rfl:=k23_open hK
 exact ⟨ad,e,hc 0 _ rfl,by rw [← z1j _ _ 1 (by omega)];exact hc 1 _ rfl,by rw [← z1j _ _ 2 (by omega)];exact hc 2 _ rfl⟩
def rd_L3 (xs : List (List Bool)) (i : Int) : (List Bool):=xs.getD i.toNat ([] : List Bool)
theorem at_L3 {w : World} {A : Option Addr} {n : Nat} {xs : List (List Bool)} (h : Kd.C (Kd.slice 4 Kd.bool) w A n xs) (i : Int) (h0 : 0 ≤ i) (h1 : i < n) : ∃ ad A0 c0,A = some ad ∧ w.cell? (ad.add i.toNat) = some (.slice A0 (rd_L3 xs i).length c0) ∧ (rd_L3 xs i).length ≤ c0 ∧ Kd.bool.C w A0 (rd_L3 xs i).length (rd_L3 xs i):=by
 obtain ⟨ad,c,e,_,hK,hc0⟩:=Kd.z2M h ([] : List Bool) i h0 h1
 have hc : ∀ j u,c[j]? = some u → w.cell? (ad.add (i.toNat * 1 + j)) = some u:=hc0
 obtain ⟨A0,c0,rfl,l0,g0⟩:=hK
 exact ⟨ad,A0,c0,e,by have hq:=hc 0 _ rfl;rwa [Nat.mul_one,Nat.add_zero] at hq,l0,g0⟩
structure S51 where
 f0 : Int
 f1 : Int
def z51 : S51:=⟨(0 : Int),(0 : Int)⟩
def k51 : Kd S51:=Kd.iso (Kd.pair (Kd.int .u64) (Kd.int .u64)) (fun x : S51=>(x.f0,x.f1))
theorem z47 {w : World} {x : S51} {cs : List Value} (h : k51.K w x cs) : cs = [.int .u64 x.f0,.int .u64 x.f1]:=by
 obtain ⟨_,_,rfl,rfl,rfl⟩:=h
 exact rfl
theorem z2S {w : World} {base : Nat} {ok : Nat → Prop} {x : S51} {cs : List Value} (h : k51.M w base ok x cs) : cs = [.int .u64 x.f0,.int .u64 x.f1]:=by
 obtain ⟨_,_,rfl,rfl,rfl⟩:=h
 exact rfl
theorem k51_mk (w : World) (x : S51)  : k51.K w x [.int .u64 x.f0,.int .u64 x.f1]:=⟨[.int .u64 x.f0],[.int .u64 x.f1],rfl,rfl,rfl⟩
theorem z1I (w : World) (base : Nat) (ok : Nat → Prop) (x : S51)  : k51.M w base ok x [.int .u64 x.f0,.int .u64 x.f1]:=⟨[.int .u64 x.f0],[.int .u64 x.f1],rfl,rfl,rfl⟩
theorem k51_mkF (W : World) (ok : Nat → Prop) (x : S51) : Kd.FK k51 W ok x [.int .u64 x.f0,.int .u64 x.f1]:=fun W2 _=>k51_mk W2 x
def zE (xs : List S51) (i : Int) : S51:=xs.getD i.toNat z51
theorem z26 {w : World} {A : Option Addr} {n : Nat} {xs : List S51} (h : Kd.C k51 w A n xs) (i : Int) (h0 : 0 ≤ i) (h1 : i < n) : ∃ ad , A = some ad ∧ w.cell? (ad.add (i.toNat * 2)) = some (.int .u64 (zE xs i).f0) ∧ w.cell? ⟨(ad.add (i.toNat * 2)).block,(ad.add (i.toNat * 2)).off + 1,none⟩ = some (.int .u64 (zE xs i).f1):=by
 obtain ⟨ad,c,e,_,hK,hc0⟩:=Kd.z2M h z51 i h0 h1
 have hc : ∀ j u,c[j]? = some u → w.cell? (ad.add (i.toNat * 2 + j)) = some u:=hc0
 obtain rfl:=z47 hK
 exact ⟨ad,e,hc 0 _ rfl,by rw [← z1j _ _ 1 (by omega)];exact hc 1 _ rfl⟩
def rd_L6 (xs : List (List S51)) (i : Int) : (List S51):=xs.getD i.toNat ([] : List S51)
theorem at_L6 {w : World} {A : Option Addr} {n : Nat} {xs : List (List S51)} (h : Kd.C (Kd.slice 51 k51) w A n xs) (i : Int) (h0 : 0 ≤ i) (h1 : i < n) : ∃ ad A0 c0,A = some ad ∧ w.cell? (ad.add i.toNat) = some (.slice A0 (rd_L6 xs i).length c0) ∧ (rd_L6 xs i).length ≤ c0 ∧ k51.C w A0 (rd_L6 xs i).length (rd_L6 xs i):=by
 obtain ⟨ad,c,e,_,hK,hc0⟩:=Kd.z2M h ([] : List S51) i h0 h1
 have hc : ∀ j u,c[j]? = some u → w.cell? (ad.add (i.toNat * 1 + j)) = some u:=hc0
 obtain ⟨A0,c0,rfl,l0,g0⟩:=hK
 exact ⟨ad,A0,c0,e,by have hq:=hc 0 _ rfl;rwa [Nat.mul_one,Nat.add_zero] at hq,l0,g0⟩
structure S61 where
 f0 : Int
 f1 : Int
def z61 : S61:=⟨(0 : Int),(0 : Int)⟩
def k61 : Kd S61:=Kd.iso (Kd.pair (Kd.int .u64) (Kd.int .u64)) (fun x : S61=>(x.f0,x.f1))
theorem z48 {w : World} {x : S61} {cs : List Value} (h : k61.K w x cs) : cs = [.int .u64 x.f0,.int .u64 x.f1]:=by
 obtain ⟨_,_,rfl,rfl,rfl⟩:=h
 exact rfl
theorem z56 {w : World} {base : Nat} {ok : Nat → Prop} {x : S61} {cs : List Value} (h : k61.M w base ok x cs) : cs = [.int .u64 x.f0,.int .u64 x.f1]:=by
 obtain ⟨_,_,rfl,rfl,rfl⟩:=h
 exact rfl
theorem k61_mk (w : World) (x : S61)  : k61.K w x [.int .u64 x.f0,.int .u64 x.f1]:=⟨[.int .u64 x.f0],[.int .u64 x.f1],rfl,rfl,rfl⟩
theorem z55 (w : World) (base : Nat) (ok : Nat → Prop) (x : S61)  : k61.M w base ok x [.int .u64 x.f0,.int .u64 x.f1]:=⟨[.int .u64 x.f0],[.int .u64 x.f1],rfl,rfl,rfl⟩
theorem k61_mkF (W : World) (ok : Nat → Prop) (x : S61) : Kd.FK k61 W ok x [.int .u64 x.f0,.int .u64 x.f1]:=fun W2 _=>k61_mk W2 x
def z15 (xs : List S61) (i : Int) : S61:=xs.getD i.toNat z61
theorem z2Q {w : World} {A : Option Addr} {n : Nat} {xs : List S61} (h : Kd.C k61 w A n xs) (i : Int) (h0 : 0 ≤ i) (h1 : i < n) : ∃ ad , A = some ad ∧ w.cell? (ad.add (i.toNat * 2)) = some (.int .u64 (z15 xs i).f0) ∧ w.cell? ⟨(ad.add (i.toNat * 2)).block,(ad.add (i.toNat * 2)).off + 1,none⟩ = some (.int .u64 (z15 xs i).f1):=by
 obtain ⟨ad,c,e,_,hK,hc0⟩:=Kd.z2M h z61 i h0 h1
 have hc : ∀ j u,c[j]? = some u → w.cell? (ad.add (i.toNat * 2 + j)) = some u:=hc0
 obtain rfl:=z48 hK
 exact ⟨ad,e,hc 0 _ rfl,by rw [← z1j _ _ 1 (by omega)];exact hc 1 _ rfl⟩
structure S64 where
 f0 : (List S51)
 f1 : (List S51)
def z64 : S64:=⟨([] : List S51),([] : List S51)⟩
def k64 : Kd S64:=Kd.iso (Kd.pair (Kd.slice 51 k51) (Kd.slice 51 k51)) (fun x : S64=>(x.f0,x.f1))
theorem z2G {w : World} {x : S64} {cs : List Value} (h : k64.K w x cs) : ∃ A0 c0 A1 c1,cs = [.slice A0 x.f0.length c0,.slice A1 x.f1.length c1] ∧ x.f0.length ≤ c0 ∧ k51.C w A0 x.f0.length x.f0 ∧ x.f1.length ≤ c1 ∧ k51.C w A1 x.f1.length x.f1:=by
 obtain ⟨_,_,rfl,⟨A0,c0,rfl,l0,g0⟩,⟨A1,c1,rfl,l1,g1⟩⟩:=h
 exact ⟨A0,c0,A1,c1,rfl,l0,g0,l1,g1⟩
theorem k64_openM {w : World} {base : Nat} {ok : Nat → Prop} {x : S64} {cs : List Value} (h : k64.M w base ok x cs) : ∃ v0 v1,cs = [v0,v1] ∧ k51.R 51 w base ok v0 x.f0 ∧ k51.R 51 w base ok v1 x.f1:=by
 obtain ⟨_,_,rfl,⟨v0,rfl,g0⟩,⟨v1,rfl,g1⟩⟩:=h
 exact ⟨v0,v1,rfl,g0,g1⟩
theorem k64_mk (w : World) (x : S64) {A0 : Option Addr} {c0 : Nat} (l0 : x.f0.length ≤ c0) (g0 : k51.C w A0 x.f0.length x.f0) {A1 : Option Addr} {c1 : Nat} (l1 : x.f1.length ≤ c1) (g1 : k51.C w A1 x.f1.length x.f1) : k64.K w x [.slice A0 x.f0.length c0,.slice A1 x.f1.length c1]:=⟨[.slice A0 x.f0.length c0],[.slice A1 x.f1.length c1],rfl,⟨A0,c0,rfl,l0,g0⟩,⟨A1,c1,rfl,l1,g1⟩⟩
theorem k64_mkM (w : World) (base : Nat) (ok : Nat → Prop) (x : S64) {v0 : Value} (g0 : k51.R 51 w base ok v0 x.f0) {v1 : Value} (g1 : k51.R 51 w base ok v1 x.f1) : k64.M w base ok x [v0,v1]:=⟨[v0],[v1],rfl,⟨v0,rfl,g0⟩,⟨v1,rfl,g1⟩⟩
theorem k64_openF {W : World} {ok : Nat → Prop} {x : S64} {cs : List Value} (h : Kd.FK k64 W ok x cs) : ∃ A0 c0 A1 c1,cs = [.slice A0 x.f0.length c0,.slice A1 x.f1.length c1] ∧ x.f0.length ≤ c0 ∧ Kd.F k51 W ok A0 x.f0.length x.f0 ∧ x.f1.length ≤ c1 ∧ Kd.F k51 W ok A1 x.f1.length x.f1:=by
 obtain ⟨A0,c0,A1,c1,rfl,l0,_,l1,_⟩:=z2G (Kd.FK_now h)
 exact ⟨A0,c0,A1,c1,rfl,l0,(fun W' hW=>by obtain ⟨A0_,c0_,A1_,c1_,he,l0_,g0_,l1_,g1_⟩:=z2G (h W' hW);injection (Option.some.inj (show some (Value.slice A0 x.f0.length c0) = some (Value.slice A0_ x.f0.length c0_) from congrArg (fun l=>l[0]?) he)) with ha_ _ _;rw [ha_];exact g0_),l1,(fun W' hW=>by obtain ⟨A0_,c0_,A1_,c1_,he,l0_,g0_,l1_,g1_⟩:=z2G (h W' hW);injection (Option.some.inj (show some (Value.slice A1 x.f1.length c1) = some (Value.slice A1_ x.f1.length c1_) from congrArg (fun l=>l[1]?) he)) with ha_ _ _;rw [ha_];exact g1_)⟩
theorem k64_mkF (W : World) (ok : Nat → Prop) (x : S64) {A0 : Option Addr} {c0 : Nat} (l0 : x.f0.length ≤ c0) (g0 : Kd.F k51 W ok A0 x.f0.length x.f0) {A1 : Option Addr} {c1 : Nat} (l1 : x.f1.length ≤ c1) (g1 : Kd.F k51 W ok A1 x.f1.length x.f1) : Kd.FK k64 W ok x [.slice A0 x.f0.length c0,.slice A1 x.f1.length c1]:=fun W2 hW=>k64_mk W2 x l0 (g0 W2 hW) l1 (g1 W2 hW)
def z2z (xs : List S64) (i : Int) : S64:=xs.getD i.toNat z64
theorem at_T64 {w : World} {A : Option Addr} {n : Nat} {xs : List S64} (h : Kd.C k64 w A n xs) (i : Int) (h0 : 0 ≤ i) (h1 : i < n) : ∃ ad A0 c0 A1 c1,A = some ad ∧ w.cell? (ad.add (i.toNat * 2)) = some (.slice A0 (z2z xs i).f0.length c0) ∧ w.cell? ⟨(ad.add (i.toNat * 2)).block,(ad.add (i.toNat * 2)).off + 1,none⟩ = some (.slice A1 (z2z xs i).f1.length c1) ∧ (z2z xs i).f0.length ≤ c0 ∧ k51.C w A0 (z2z xs i).f0.length (z2z xs i).f0 ∧ (z2z xs i).f1.length ≤ c1 ∧ k51.C w A1 (z2z xs i).f1.length (z2z xs i).f1:=by
 obtain ⟨ad,c,e,_,hK,hc0⟩:=Kd.z2M h z64 i h0 h1
 have hc : ∀ j u,c[j]? = some u → w.cell? (ad.add (i.toNat * 2 + j)) = some u:=hc0
 obtain ⟨A0,c0,A1,c1,rfl,l0,g0,l1,g1⟩:=z2G hK
 exact ⟨ad,A0,c0,A1,c1,e,hc 0 _ rfl,by rw [← z1j _ _ 1 (by omega)];exact hc 1 _ rfl,l0,g0,l1,g1⟩
structure S66 where
 f0 : (List S51)
 f1 : (List S51)
def z66 : S66:=⟨([] : List S51),([] : List S51)⟩
def k66 : Kd S66:=Kd.iso (Kd.pair (Kd.slice 51 k51) (Kd.slice 51 k51)) (fun x : S66=>(x.f0,x.f1))
theorem z2H {w : World} {x : S66} {cs : List Value} (h : k66.K w x cs) : ∃ A0 c0 A1 c1,cs = [.slice A0 x.f0.length c0,.slice A1 x.f1.length c1] ∧ x.f0.length ≤ c0 ∧ k51.C w A0 x.f0.length x.f0 ∧ x.f1.length ≤ c1 ∧ k51.C w A1 x.f1.length x.f1:=by
 obtain ⟨_,_,rfl,⟨A0,c0,rfl,l0,g0⟩,⟨A1,c1,rfl,l1,g1⟩⟩:=h
 exact ⟨A0,c0,A1,c1,rfl,l0,g0,l1,g1⟩
theorem k66_openM {w : World} {base : Nat} {ok : Nat → Prop} {x : S66} {cs : List Value} (h : k66.M w base ok x cs) : ∃ v0 v1,cs = [v0,v1] ∧ k51.R 51 w base ok v0 x.f0 ∧ k51.R 51 w base ok v1 x.f1:=by
 obtain ⟨_,_,rfl,⟨v0,rfl,g0⟩,⟨v1,rfl,g1⟩⟩:=h
 exact ⟨v0,v1,rfl,g0,g1⟩
theorem k66_mk (w : World) (x : S66) {A0 : Option Addr} {c0 : Nat} (l0 : x.f0.length ≤ c0) (g0 : k51.C w A0 x.f0.length x.f0) {A1 : Option Addr} {c1 : Nat} (l1 : x.f1.length ≤ c1) (g1 : k51.C w A1 x.f1.length x.f1) : k66.K w x [.slice A0 x.f0.length c0,.slice A1 x.f1.length c1]:=⟨[.slice A0 x.f0.length c0],[.slice A1 x.f1.length c1],rfl,⟨A0,c0,rfl,l0,g0⟩,⟨A1,c1,rfl,l1,g1⟩⟩
theorem k66_mkM (w : World) (base : Nat) (ok : Nat → Prop) (x : S66) {v0 : Value} (g0 : k51.R 51 w base ok v0 x.f0) {v1 : Value} (g1 : k51.R 51 w base ok v1 x.f1) : k66.M w base ok x [v0,v1]:=⟨[v0],[v1],rfl,⟨v0,rfl,g0⟩,⟨v1,rfl,g1⟩⟩
theorem k66_openF {W : World} {ok : Nat → Prop} {x : S66} {cs : List Value} (h : Kd.FK k66 W ok x cs) : ∃ A0 c0 A1 c1,cs = [.slice A0 x.f0.length c0,.slice A1 x.f1.length c1] ∧ x.f0.length ≤ c0 ∧ Kd.F k51 W ok A0 x.f0.length x.f0 ∧ x.f1.length ≤ c1 ∧ Kd.F k51 W ok A1 x.f1.length x.f1:=by
 obtain ⟨A0,c0,A1,c1,rfl,l0,_,l1,_⟩:=z2H (Kd.FK_now h)
 exact ⟨A0,c0,A1,c1,rfl,l0,(fun W' hW=>by obtain ⟨A0_,c0_,A1_,c1_,he,l0_,g0_,l1_,g1_⟩:=z2H (h W' hW);injection (Option.some.inj (show some (Value.slice A0 x.f0.length c0) = some (Value.slice A0_ x.f0.length c0_) from congrArg (fun l=>l[0]?) he)) with ha_ _ _;rw [ha_];exact g0_),l1,(fun W' hW=>by obtain ⟨A0_,c0_,A1_,c1_,he,l0_,g0_,l1_,g1_⟩:=z2H (h W' hW);injection (Option.some.inj (show some (Value.slice A1 x.f1.length c1) = some (Value.slice A1_ x.f1.length c1_) from congrArg (fun l=>l[1]?) he)) with ha_ _ _;rw [ha_];exact g1_)⟩
theorem k66_mkF (W : World) (ok : Nat → Prop) (x : S66) {A0 : Option Addr} {c0 : Nat} (l0 : x.f0.length ≤ c0) (g0 : Kd.F k51 W ok A0 x.f0.length x.f0) {A1 : Option Addr} {c1 : Nat} (l1 : x.f1.length ≤ c1) (g1 : Kd.F k51 W ok A1 x.f1.length x.f1) : Kd.FK k66 W ok x [.slice A0 x.f0.length c0,.slice A1 x.f1.length c1]:=fun W2 hW=>k66_mk W2 x l0 (g0 W2 hW) l1 (g1 W2 hW)
def z2A (xs : List S66) (i : Int) : S66:=xs.getD i.toNat z66
theorem at_T66 {w : World} {A : Option Addr} {n : Nat} {xs : List S66} (h : Kd.C k66 w A n xs) (i : Int) (h0 : 0 ≤ i) (h1 : i < n) : ∃ ad A0 c0 A1 c1,A = some ad ∧ w.cell? (ad.add (i.toNat * 2)) = some (.slice A0 (z2A xs i).f0.length c0) ∧ w.cell? ⟨(ad.add (i.toNat * 2)).block,(ad.add (i.toNat * 2)).off + 1,none⟩ = some (.slice A1 (z2A xs i).f1.length c1) ∧ (z2A xs i).f0.length ≤ c0 ∧ k51.C w A0 (z2A xs i).f0.length (z2A xs i).f0 ∧ (z2A xs i).f1.length ≤ c1 ∧ k51.C w A1 (z2A xs i).f1.length (z2A xs i).f1:=by
 obtain ⟨ad,c,e,_,hK,hc0⟩:=Kd.z2M h z66 i h0 h1
 have hc : ∀ j u,c[j]? = some u → w.cell? (ad.add (i.toNat * 2 + j)) = some u:=hc0
 obtain ⟨A0,c0,A1,c1,rfl,l0,g0,l1,g1⟩:=z2H hK
 exact ⟨ad,A0,c0,A1,c1,e,hc 0 _ rfl,by rw [← z1j _ _ 1 (by omega)];exact hc 1 _ rfl,l0,g0,l1,g1⟩
structure S87 where
 f0 : Int
 f1 : Int
 f2 : Int
 f3 : S51
def z87 : S87:=⟨(0 : Int),(0 : Int),(0 : Int),z51⟩
def k87 : Kd S87:=Kd.iso (Kd.pair (Kd.int .i64) (Kd.pair (Kd.int .i64) (Kd.pair (Kd.int .i64) k51))) (fun x : S87=>(x.f0,x.f1,x.f2,x.f3))
theorem k87_open {w : World} {x : S87} {cs : List Value} (h : k87.K w x cs) : cs = [.int .i64 x.f0,.int .i64 x.f1,.int .i64 x.f2,.int .u64 x.f3.f0,.int .u64 x.f3.f1]:=by
 obtain ⟨_,_,rfl,rfl,⟨_,_,rfl,rfl,⟨_,_,rfl,rfl,s3⟩⟩⟩:=h
 obtain rfl:=z47 s3
 exact rfl
theorem k87_openM {w : World} {base : Nat} {ok : Nat → Prop} {x : S87} {cs : List Value} (h : k87.M w base ok x cs) : cs = [.int .i64 x.f0,.int .i64 x.f1,.int .i64 x.f2,.int .u64 x.f3.f0,.int .u64 x.f3.f1]:=by
 obtain ⟨_,_,rfl,rfl,⟨_,_,rfl,rfl,⟨_,_,rfl,rfl,s3⟩⟩⟩:=h
 obtain rfl:=z2S s3
 exact rfl
theorem k87_mk (w : World) (x : S87)  : k87.K w x [.int .i64 x.f0,.int .i64 x.f1,.int .i64 x.f2,.int .u64 x.f3.f0,.int .u64 x.f3.f1]:=⟨[.int .i64 x.f0],[.int .i64 x.f1,.int .i64 x.f2,.int .u64 x.f3.f0,.int .u64 x.f3.f1],rfl,rfl,⟨[.int .i64 x.f1],[.int .i64 x.f2,.int .u64 x.f3.f0,.int .u64 x.f3.f1],rfl,rfl,⟨[.int .i64 x.f2],[.int .u64 x.f3.f0,.int .u64 x.f3.f1],rfl,rfl,(k51_mk w x.f3 )⟩⟩⟩
theorem k87_mkM (w : World) (base : Nat) (ok : Nat → Prop) (x : S87)  : k87.M w base ok x [.int .i64 x.f0,.int .i64 x.f1,.int .i64 x.f2,.int .u64 x.f3.f0,.int .u64 x.f3.f1]:=⟨[.int .i64 x.f0],[.int .i64 x.f1,.int .i64 x.f2,.int .u64 x.f3.f0,.int .u64 x.f3.f1],rfl,rfl,⟨[.int .i64 x.f1],[.int .i64 x.f2,.int .u64 x.f3.f0,.int .u64 x.f3.f1],rfl,rfl,⟨[.int .i64 x.f2],[.int .u64 x.f3.f0,.int .u64 x.f3.f1],rfl,rfl,(z1I w base ok x.f3 )⟩⟩⟩
theorem k87_mkF (W : World) (ok : Nat → Prop) (x : S87) : Kd.FK k87 W ok x [.int .i64 x.f0,.int .i64 x.f1,.int .i64 x.f2,.int .u64 x.f3.f0,.int .u64 x.f3.f1]:=fun W2 _=>k87_mk W2 x
def z3N (xs : List S87) (i : Int) : S87:=xs.getD i.toNat z87
theorem at_T87 {w : World} {A : Option Addr} {n : Nat} {xs : List S87} (h : Kd.C k87 w A n xs) (i : Int) (h0 : 0 ≤ i) (h1 : i < n) : ∃ ad , A = some ad ∧ w.cell? (ad.add (i.toNat * 5)) = some (.int .i64 (z3N xs i).f0) ∧ w.cell? ⟨(ad.add (i.toNat * 5)).block,(ad.add (i.toNat * 5)).off + 1,none⟩ = some (.int .i64 (z3N xs i).f1) ∧ w.cell? ⟨(ad.add (i.toNat * 5)).block,(ad.add (i.toNat * 5)).off + 2,none⟩ = some (.int .i64 (z3N xs i).f2) ∧ w.cell? ⟨(ad.add (i.toNat * 5)).block,(ad.add (i.toNat * 5)).off + 3,none⟩ = some (.int .u64 (z3N xs i).f3.f0) ∧ w.cell? ⟨(ad.add (i.toNat * 5)).block,(ad.add (i.toNat * 5)).off + 4,none⟩ = some (.int .u64 (z3N xs i).f3.f1):=by
 obtain ⟨ad,c,e,_,hK,hc0⟩:=Kd.z2M h z87 i h0 h1
 have hc : ∀ j u,c[j]? = some u → w.cell? (ad.add (i.toNat * 5 + j)) = some u:=hc0
 obtain rfl:=k87_open hK
 exact ⟨ad,e,hc 0 _ rfl,by rw [← z1j _ _ 1 (by omega)];exact hc 1 _ rfl,by rw [← z1j _ _ 2 (by omega)];exact hc 2 _ rfl,by rw [← z1j _ _ 3 (by omega)];exact hc 3 _ rfl,by rw [← z1j _ _ 4 (by omega)];exact hc 4 _ rfl⟩
structure S114 where
 f0 : Int
 f1 : Int
 f2 : Int
 f3 : S61
def z114 : S114:=⟨(0 : Int),(0 : Int),(0 : Int),z61⟩
def k114 : Kd S114:=Kd.iso (Kd.pair (Kd.int .i64) (Kd.pair (Kd.int .i64) (Kd.pair (Kd.int .i64) k61))) (fun x : S114=>(x.f0,x.f1,x.f2,x.f3))
theorem z54 {w : World} {x : S114} {cs : List Value} (h : k114.K w x cs) : cs = [.int .i64 x.f0,.int .i64 x.f1,.int .i64 x.f2,.int .u64 x.f3.f0,.int .u64 x.f3.f1]:=by
 obtain ⟨_,_,rfl,rfl,⟨_,_,rfl,rfl,⟨_,_,rfl,rfl,s3⟩⟩⟩:=h
 obtain rfl:=z48 s3
 exact rfl
theorem k114_openM {w : World} {base : Nat} {ok : Nat → Prop} {x : S114} {cs : List Value} (h : k114.M w base ok x cs) : cs = [.int .i64 x.f0,.int .i64 x.f1,.int .i64 x.f2,.int .u64 x.f3.f0,.int .u64 x.f3.f1]:=by
 obtain ⟨_,_,rfl,rfl,⟨_,_,rfl,rfl,⟨_,_,rfl,rfl,s3⟩⟩⟩:=h
 obtain rfl:=z56 s3
 exact rfl
theorem k114_mk (w : World) (x : S114)  : k114.K w x [.int .i64 x.f0,.int .i64 x.f1,.int .i64 x.f2,.int .u64 x.f3.f0,.int .u64 x.f3.f1]:=⟨[.int .i64 x.f0],[.int .i64 x.f1,.int .i64 x.f2,.int .u64 x.f3.f0,.int .u64 x.f3.f1],rfl,rfl,⟨[.int .i64 x.f1],[.int .i64 x.f2,.int .u64 x.f3.f0,.int .u64 x.f3.f1],rfl,rfl,⟨[.int .i64 x.f2],[.int .u64 x.f3.f0,.int .u64 x.f3.f1],rfl,rfl,(k61_mk w x.f3 )⟩⟩⟩
theorem k114_mkM (w : World) (base : Nat) (ok : Nat → Prop) (x : S114)  : k114.M w base ok x [.int .i64 x.f0,.int .i64 x.f1,.int .i64 x.f2,.int .u64 x.f3.f0,.int .u64 x.f3.f1]:=⟨[.int .i64 x.f0],[.int .i64 x.f1,.int .i64 x.f2,.int .u64 x.f3.f0,.int .u64 x.f3.f1],rfl,rfl,⟨[.int .i64 x.f1],[.int .i64 x.f2,.int .u64 x.f3.f0,.int .u64 x.f3.f1],rfl,rfl,⟨[.int .i64 x.f2],[.int .u64 x.f3.f0,.int .u64 x.f3.f1],rfl,rfl,(z55 w base ok x.f3 )⟩⟩⟩
theorem k114_mkF (W : World) (ok : Nat → Prop) (x : S114) : Kd.FK k114 W ok x [.int .i64 x.f0,.int .i64 x.f1,.int .i64 x.f2,.int .u64 x.f3.f0,.int .u64 x.f3.f1]:=fun W2 _=>k114_mk W2 x
def z2X (xs : List S114) (i : Int) : S114:=xs.getD i.toNat z114
theorem at_T114 {w : World} {A : Option Addr} {n : Nat} {xs : List S114} (h : Kd.C k114 w A n xs) (i : Int) (h0 : 0 ≤ i) (h1 : i < n) : ∃ ad , A = some ad ∧ w.cell? (ad.add (i.toNat * 5)) = some (.int .i64 (z2X xs i).f0) ∧ w.cell? ⟨(ad.add (i.toNat * 5)).block,(ad.add (i.toNat * 5)).off + 1,none⟩ = some (.int .i64 (z2X xs i).f1) ∧ w.cell? ⟨(ad.add (i.toNat * 5)).block,(ad.add (i.toNat * 5)).off + 2,none⟩ = some (.int .i64 (z2X xs i).f2) ∧ w.cell? ⟨(ad.add (i.toNat * 5)).block,(ad.add (i.toNat * 5)).off + 3,none⟩ = some (.int .u64 (z2X xs i).f3.f0) ∧ w.cell? ⟨(ad.add (i.toNat * 5)).block,(ad.add (i.toNat * 5)).off + 4,none⟩ = some (.int .u64 (z2X xs i).f3.f1):=by
 obtain ⟨ad,c,e,_,hK,hc0⟩:=Kd.z2M h z114 i h0 h1
 have hc : ∀ j u,c[j]? = some u → w.cell? (ad.add (i.toNat * 5 + j)) = some u:=hc0
 obtain rfl:=z54 hK
 exact ⟨ad,e,hc 0 _ rfl,by rw [← z1j _ _ 1 (by omega)];exact hc 1 _ rfl,by rw [← z1j _ _ 2 (by omega)];exact hc 2 _ rfl,by rw [← z1j _ _ 3 (by omega)];exact hc 3 _ rfl,by rw [← z1j _ _ 4 (by omega)];exact hc 4 _ rfl⟩
def z4f (xs : List (List S87)) (i : Int) : (List S87):=xs.getD i.toNat ([] : List S87)
theorem at_L12 {w : World} {A : Option Addr} {n : Nat} {xs : List (List S87)} (h : Kd.C (Kd.slice 87 k87) w A n xs) (i : Int) (h0 : 0 ≤ i) (h1 : i < n) : ∃ ad A0 c0,A = some ad ∧ w.cell? (ad.add i.toNat) = some (.slice A0 (z4f xs i).length c0) ∧ (z4f xs i).length ≤ c0 ∧ k87.C w A0 (z4f xs i).length (z4f xs i):=by
 obtain ⟨ad,c,e,_,hK,hc0⟩:=Kd.z2M h ([] : List S87) i h0 h1
 have hc : ∀ j u,c[j]? = some u → w.cell? (ad.add (i.toNat * 1 + j)) = some u:=hc0
 obtain ⟨A0,c0,rfl,l0,g0⟩:=hK
 exact ⟨ad,A0,c0,e,by have hq:=hc 0 _ rfl;rwa [Nat.mul_one,Nat.add_zero] at hq,l0,g0⟩
structure S79 where
 f0 : Int
 f1 : Int
def z79 : S79:=⟨(0 : Int),(0 : Int)⟩
def k79 : Kd S79:=Kd.iso (Kd.pair (Kd.int .i64) (Kd.int .i64)) (fun x : S79=>(x.f0,x.f1))
theorem z49 {w : World} {x : S79} {cs : List Value} (h : k79.K w x cs) : cs = [.int .i64 x.f0,.int .i64 x.f1]:=by
 obtain ⟨_,_,rfl,rfl,rfl⟩:=h
 exact rfl
theorem k79_openM {w : World} {base : Nat} {ok : Nat → Prop} {x : S79} {cs : List Value} (h : k79.M w base ok x cs) : cs = [.int .i64 x.f0,.int .i64 x.f1]:=by
 obtain ⟨_,_,rfl,rfl,rfl⟩:=h
 exact rfl
theorem k79_mk (w : World) (x : S79)  : k79.K w x [.int .i64 x.f0,.int .i64 x.f1]:=⟨[.int .i64 x.f0],[.int .i64 x.f1],rfl,rfl,rfl⟩
theorem k79_mkM (w : World) (base : Nat) (ok : Nat → Prop) (x : S79)  : k79.M w base ok x [.int .i64 x.f0,.int .i64 x.f1]:=⟨[.int .i64 x.f0],[.int .i64 x.f1],rfl,rfl,rfl⟩
theorem k79_mkF (W : World) (ok : Nat → Prop) (x : S79) : Kd.FK k79 W ok x [.int .i64 x.f0,.int .i64 x.f1]:=fun W2 _=>k79_mk W2 x
def rd_T79 (xs : List S79) (i : Int) : S79:=xs.getD i.toNat z79
theorem at_T79 {w : World} {A : Option Addr} {n : Nat} {xs : List S79} (h : Kd.C k79 w A n xs) (i : Int) (h0 : 0 ≤ i) (h1 : i < n) : ∃ ad , A = some ad ∧ w.cell? (ad.add (i.toNat * 2)) = some (.int .i64 (rd_T79 xs i).f0) ∧ w.cell? ⟨(ad.add (i.toNat * 2)).block,(ad.add (i.toNat * 2)).off + 1,none⟩ = some (.int .i64 (rd_T79 xs i).f1):=by
 obtain ⟨ad,c,e,_,hK,hc0⟩:=Kd.z2M h z79 i h0 h1
 have hc : ∀ j u,c[j]? = some u → w.cell? (ad.add (i.toNat * 2 + j)) = some u:=hc0
 obtain rfl:=z49 hK
 exact ⟨ad,e,hc 0 _ rfl,by rw [← z1j _ _ 1 (by omega)];exact hc 1 _ rfl⟩
end Go.Proofs.Ytngcaphdkgihmaa.P
namespace Go.Proofs.Ytngcaphdkgihmaa.P
open Go.RowKit Go.Proofs.YtngcaphdkgihmaaW.PrintWords Go.Proofs.YtngcaphdkgihmaaW.PrintLast Go.Proofs.YtngcaphdkgihmaaW.PrintMore
attribute [local go_sem] zS zU z12 z13 zK zL zT zV   -- for this text's walks alone
set_option linter.unusedVariables false
set_option linter.unusedSimpArgs false
theorem eqA51 (d : Nat) (w : World) (x0 y0 : Int) (x1 y1 : Int) :
 (Op.equalIn (d + 2) 51 (.agg #[.int .u64 x0,.int .u64 x1]) (.agg #[.int .u64 y0,.int .u64 y1])).run Try.prog w = .ok (x0 == y0 && (x1 == y1)) w:=by
 refine eqA_of Try.underlying51 (by kernel_rfl) ?_
 refine z41 (by rfl) (by go_simp;rfl) (by go_simp;rfl) (by go_simp) ?_
 exact z42 (by rfl) (by go_simp;rfl) (by go_simp;rfl) (by go_simp)
end Go.Proofs.Ytngcaphdkgihmaa.P
namespace Go.Proofs.Ytngcaphdkgihmaa.P
open Go.RowKit Go.Proofs.YtngcaphdkgihmaaW.PrintWords Go.Proofs.YtngcaphdkgihmaaW.PrintLast Go.Proofs.YtngcaphdkgihmaaW.PrintMore
attribute [local go_sem] zS zU z12 z13 zK zL zT zV   -- for this text's walks alone
set_option linter.unusedVariables false
set_option linter.unusedSimpArgs false
def zr.l0 : Nat → Int → Int → Int → Option (Int)
 | 0,_,_,_=>none
 | k + 1,x0,x3,x4=>if x4 < x0 then (zr.l0 k x0 (wrap64 (2 * x3)) (wrap64 (x4 + 1))) else (some x3)
def zr.f (k : Nat) (a0 : Int) : Option (Int):=zr.l0 k a0 1 0
theorem zr.zX : ∀ k,(∀ y0 y1 y2,LeO (zr.l0 k y0 y1 y2) (zr.l0 (k + 1) y0 y1 y2))
 | 0=>fun _ _ _ r h=>by simp [zr.l0] at h
 | k + 1=>by
  have ih0:=zr.zX k
  · intro y0 y1 y2
    unfold zr.l0
    repeat' first
    | (with_reducible exact ih0 _ _ _)
    | (with_reducible exact LeO.refl _)
    | (with_reducible exact LeO.none _)
    | (with_reducible refine LeO.ite ?_ ?_)
    | (with_reducible refine LeO.bind ?_ (fun _=>?_))
    | exact ih0 _ _ _
    | exact LeO.none _
    | refine LeO.ite ?_ ?_
    | refine LeO.bind ?_ (fun _=>?_)
theorem zr.mono : ∀ a0 k,LeO (zr.f k a0) (zr.f (k + 1) a0):=by
 intro a0 k
 have ih0:=zr.zX k
 unfold zr.f
 repeat' first
  | (with_reducible exact ih0 _ _ _)
  | (with_reducible exact LeO.refl _)
  | (with_reducible exact LeO.none _)
  | (with_reducible refine LeO.ite ?_ ?_)
  | (with_reducible refine LeO.bind ?_ (fun _=>?_))
  | exact ih0 _ _ _
  | exact LeO.none _
  | refine LeO.ite ?_ ?_
  | refine LeO.bind ?_ (fun _=>?_)
set_option maxHeartbeats 8000000 in
set_option maxRecDepth 100000 in
theorem zr.calls (k : Nat) (a0 : Int) (r : Int) (w : World) (h : zr.f k a0 = some r) :
 Calls Try.prog 50 #[.int .i64 a0] w fun e w'=>e = .returned (.int .i64 r) ∧ Drawn0 w w':=by
 have H : (zr.l0 k a0 1 0) = some r:=h
 clear h
 have H':=z3.mk H
 clear H
 go_enter Try.func50,Try.ntmps50
 go_wp2
 go_loopg [3,4] k (fun kq v3 v4 w'=>∃ (x3_1 : Int) (x4_1 : Int),v3 = .int .i64 x3_1 ∧ v4 = .int .i64 x4_1 ∧ z3 (zr.l0 kq a0 x3_1 x4_1 = some r) ∧ z3 (kq ≤ k) ∧ Drawn0 w w')
 case atStart=>exact ⟨(1),(0),(by first|rfl|(simp;done)|(simp [*];done)),(by first|rfl|(simp;done)|(simp [*];done)),H',⟨Nat.le_refl _⟩,by repeat (first|exact Drawn0.refl _|apply Drawn0.step)⟩
 case round =>
  clear H'
  obtain ⟨x3_1,x4_1,rfl,rfl,HA,HK1,⟨m1,rfl⟩⟩:=hrel
  cases gk with
  | zero=>exact absurd HA.out (by simp [zr.l0])
  | succ k1 =>
   have H:=HA.out
   clear HA
   simp only [zr.l0] at H
   by_cases c2 : x4_1 < a0
   rotate_left
   · rw [if_neg c2] at H
     have c2b0 : decide (x4_1 < a0) = false:=decide_eq_false c2
     clear c2
     obtain rfl:=Option.some.inj H
     go_wp2
     go_ret
     exact ⟨by first|rfl|(simp;done)|(simp [*];done),by repeat (first|exact Drawn0.refl _|apply Drawn0.step)⟩
   rw [if_pos c2] at H
   have c2b0 : decide (x4_1 < a0) = true:=decide_eq_true c2
   clear c2
   have H':=z3.mk H
   clear H
   go_wp2
   go_roundg k1
   case measure=>have:=HK1.out;omega
   case rel=>exact ⟨(wrap64 (2 * x3_1)),(wrap64 (x4_1 + 1)),(by first|rfl|(simp;done)|(simp [*];done)),(by first|rfl|(simp;done)|(simp [*];done)),H',⟨by have:=HK1.out;omega⟩,by repeat (first|exact Drawn0.refl _|apply Drawn0.step)⟩
end Go.Proofs.Ytngcaphdkgihmaa.P
namespace Go.Proofs.Ytngcaphdkgihmaa.P
open Go.RowKit Go.Proofs.YtngcaphdkgihmaaW.PrintWords Go.Proofs.YtngcaphdkgihmaaW.PrintLast Go.Proofs.YtngcaphdkgihmaaW.PrintMore
attribute [local go_sem] zS zU z12 z13 zK zL zT zV   -- for this text's walks alone
set_option linter.unusedVariables false
set_option linter.unusedSimpArgs false
def zq.l0 : Nat → List (S51) → List (S61) → Int → Option ((List (S61)))
 | 0,_,_,_=>none
 | k + 1,x0,x3,x4=>if x4 < (x0.length : Int) then (if 0 ≤ x4 then (if x3.length < 8796093022208 then (zq.l0 k x0 (x3 ++ [(⟨(zE x0 x4).f0,(zE x0 x4).f1⟩ : S61)]) (wrap64 (x4 + 1))) else (none)) else (none)) else (some x3)
def zq.f (k : Nat) (l0 : List (S51)) : Option ((List (S61))):=zq.l0 k l0 ([] : List (S61)) 0
theorem zq.zX : ∀ k,(∀ y0 y1 y2,LeO (zq.l0 k y0 y1 y2) (zq.l0 (k + 1) y0 y1 y2))
 | 0=>fun _ _ _ r h=>by simp [zq.l0] at h
 | k + 1=>by
  have ih0:=zq.zX k
  · intro y0 y1 y2
    unfold zq.l0
    repeat' first
    | (with_reducible exact ih0 _ _ _)
    | (with_reducible exact LeO.refl _)
    | (with_reducible exact LeO.none _)
    | (with_reducible refine LeO.ite ?_ ?_)
    | (with_reducible refine LeO.bind ?_ (fun _=>?_))
    | exact ih0 _ _ _
    | exact LeO.none _
    | refine LeO.ite ?_ ?_
    | refine LeO.bind ?_ (fun _=>?_)
theorem zq.mono : ∀ a0 k,LeO (zq.f k a0) (zq.f (k + 1) a0):=by
 intro a0 k
 have ih0:=zq.zX k
 unfold zq.f
 repeat' first
  | (with_reducible exact ih0 _ _ _)
  | (with_reducible exact LeO.refl _)
  | (with_reducible exact LeO.none _)
  | (with_reducible refine LeO.ite ?_ ?_)
  | (with_reducible refine LeO.bind ?_ (fun _=>?_))
  | exact ih0 _ _ _
  | exact LeO.none _
  | refine LeO.ite ?_ ?_
  | refine LeO.bind ?_ (fun _=>?_)
set_option maxHeartbeats 8000000 in
set_option maxRecDepth 100000 in
theorem zq.calls (k : Nat) (A0 : Option Addr) (c0 : Nat) (l0 : List (S51)) (r : List (S61)) (w : World) (hr0 : Kd.C k51 w A0 l0.length l0) (hc0 : l0.length ≤ c0) (h : zq.f k l0 = some r) :
 Calls Try.prog 27 #[.slice A0 l0.length c0] w fun e w'=>∃ v0_ : Value,e = .returned (v0_) ∧ Kd.R k61 61 w' w.heap.size (fun _=>True) v0_ r ∧ Below w.heap.size w w':=by
 have hu51:=Try.underlying51
 have HR0:=z3.mk hr0
 have HC0:=z3.mk hc0
 clear hr0 hc0
 have HB:=z3.mk (Below.refl w.heap.size w)
 have H : (zq.l0 k l0 ([] : List (S61)) 0) = some r:=h
 clear h
 have H':=z3.mk H
 clear H
 go_enter Try.func27,Try.ntmps27
 go_wp2
 go_loopg [3,4] k (fun kq v3 v4 w'=>∃ (x3_1 : List (S61)) (x4_1 : Int),v4 = .int .i64 x4_1 ∧ z3 (zq.l0 kq l0 x3_1 x4_1 = some r) ∧ z3 (kq ≤ k) ∧ z3 (Kd.R k61 61 w' w.heap.size (fun _=>True) v3 x3_1) ∧ z3 (Below w.heap.size w w'))
 case atStart=>exact ⟨(([] : List (S61))),(0),(by first|rfl|(simp;done)|(simp [*];done)),H',⟨Nat.le_refl _⟩,⟨by first|exact Kd.z3B _ _ _ _ _|exact Kd.N_nil _ _ _ _ _|exact Kd.V_nil _ _ _ _ _|exact Kd.Q_nil _ _ _ _ _|exact Kd.S_nil _ _ _ _ _⟩,⟨by repeat (first|(with_reducible first|exact HB.out|apply z2|apply z0|apply z1)|exact HB.out)⟩⟩
 case round =>
  clear H'
  obtain ⟨x3_1,x4_1,rfl,HA,HK1,HO_3,HB⟩:=hrel
  cases gk with
  | zero=>exact absurd HA.out (by simp [zq.l0])
  | succ k1 =>
   have H:=HA.out
   clear HA
   simp only [zq.l0] at H
   by_cases c2 : x4_1 < (l0.length : Int)
   rotate_left
   · rw [if_neg c2] at H
     have c2b0 : decide (x4_1 < (l0.length : Int)) = false:=decide_eq_false c2
     clear c2
     obtain rfl:=Option.some.inj H
     go_wp2
     go_ret
     exact ⟨_,by first|rfl|(simp [zf,zg] <;> rfl)|(simp [*,zf,zg] <;> rfl),by (with_reducible repeat (first|apply Kd.zP|apply Kd.zQ|apply Kd.z10));exact HO_3.out,by repeat (first|(with_reducible first|exact HB.out|apply z2|apply z0|apply z1)|exact HB.out)⟩
   rw [if_pos c2] at H
   have c2b0 : decide (x4_1 < (l0.length : Int)) = true:=decide_eq_true c2
   clear c2
   by_cases c3 : 0 ≤ x4_1
   rotate_left
   · rw [if_neg c3] at H
     exact absurd H (by simp)
   rw [if_pos c3] at H
   have c3b0 : decide (0 ≤ x4_1) = true:=decide_eq_true c3
   clear c3
   by_cases c4 : x3_1.length < 8796093022208
   rotate_left
   · rw [if_neg c4] at H
     exact absurd H (by simp)
   rw [if_pos c4] at H
   have LMc4:=z3.mk c4
   clear c4
   obtain ⟨y102,hy102⟩ : ∃ y_ : List (S61),y_ = (x3_1 ++ [(⟨(zE l0 x4_1).f0,(zE l0 x4_1).f1⟩ : S61)]):=⟨_,rfl⟩
   replace H : (zq.l0 k1 l0 y102 (wrap64 (x4_1 + 1))) = some r:=by first|(rw [hy102];with_reducible exact H)|(have H2_:=(Option.bind_some _ _).symm.trans H;rw [hy102];with_reducible exact H2_)|(have H2_:=(Option.bind_some _ _).symm.trans H;with_reducible exact H2_)|with_reducible exact H|(rw [hy102];exact H)|exact H
   have Ny102:=z3.mk hy102
   clear hy102
   have H':=z3.mk H
   clear H
   have p101 : 0 ≤ (x4_1 : Int):=of_decide_eq_true (by first|(with_reducible assumption)|assumption)
   have q101 : x4_1 < (l0.length : Int):=of_decide_eq_true (by first|(with_reducible assumption)|assumption)
   obtain ⟨ad101,e101,hx101_0,hx101_1⟩:=z26 HR0.out x4_1 p101 q101
   cases e101
   replace hx101_0:=(HB.out.cell (World.block_lt_of_cell? w _ hx101_0)).trans hx101_0
   replace hx101_1:=(HB.out.cell (World.block_lt_of_cell? w _ hx101_1)).trans hx101_1
   replace p101:=eq_true p101
   replace q101:=eq_true q101
   go_wp2_with (first|((with_reducible refine z27 (b:=.append) (xs:=#[.tmp 11,.tmp 16]) rfl ?_);at_builtin;refine Kd.z3Y k61 (w0:=w) w.heap.size rfl (.tmp 11) (.tmp 16) 43 61 (.agg #[(.int .u64 0),(.int .u64 0)]) 16 rfl Try.underlying43 info61 rfl (by decide) (by omega) u3 x3_1 (⟨(zE l0 x4_1).f0,(zE l0 x4_1).f1⟩ : S61) [.int .u64 ((zE l0 x4_1).f0),.int .u64 ((zE l0 x4_1).f1)] (fun _=>True) (fun _=>False) rfl rfl ?aP (fun _ hk=>hk.elim) ?aF ?aO ?aB ?aS ?aL ?_;(case aP=>exact z55 _ _ _ (⟨(zE l0 x4_1).f0,(zE l0 x4_1).f1⟩ : S61));(case aB=>exact (by repeat (first|(with_reducible first|exact HB.out|apply z2|apply z0|apply z1)|exact HB.out)));(case aF=>exact (fun _ _=>trivial));(case aO=>exact (by (with_reducible repeat (first|apply Kd.zP|apply Kd.zQ|apply Kd.z10));exact HO_3.out));(case aS=>exact (zd (by repeat (first|(with_reducible first|exact HB.out|apply z2|apply z0|apply z1)|exact HB.out))));(case aL=>have:=LMc4.out;omega);intro v103 w5 ho hb hg hat;rw [← Ny102.out] at ho;have n0_:=z3.mk (hb);have n1_:=z3.mk (ho);clear HB;clear HO_3;have HB:=n0_;have HO104:=n1_;clear n0_ n1_;clear ho hb hg hat))
   go_roundg k1
   case measure=>have:=HK1.out;omega
   case rel=>exact ⟨(y102),(wrap64 (x4_1 + 1)),(by first|rfl|(simp;done)|(simp [*];done)),H',⟨by have:=HK1.out;omega⟩,⟨by (with_reducible repeat (first|apply Kd.zP|apply Kd.zQ|apply Kd.z10));exact HO104.out⟩,⟨by repeat (first|(with_reducible first|exact HB.out|apply z2|apply z0|apply z1)|exact HB.out)⟩⟩
end Go.Proofs.Ytngcaphdkgihmaa.P
namespace Go.Proofs.Ytngcaphdkgihmaa.P
open Go.RowKit Go.Proofs.YtngcaphdkgihmaaW.PrintWords Go.Proofs.YtngcaphdkgihmaaW.PrintLast Go.Proofs.YtngcaphdkgihmaaW.PrintMore
attribute [local go_sem] zS zU z12 z13 zK zL zT zV   -- for this text's walks alone
set_option linter.unusedVariables false
set_option linter.unusedSimpArgs false
def zB.l0 : Nat → Int → Int → Option (Int)
 | 0,_,_=>none
 | k + 1,x0,x4=>if x4 < 17 then (if 0 ≤ x4 then (if x0 = (shl .i64 1 x4) then (some x4) else (zB.l0 k x0 (wrap64 (x4 + 1)))) else (none)) else (some (-1))
def zB.f (k : Nat) (a0 : Int) : Option (Int):=zB.l0 k a0 0
theorem zB.zX : ∀ k,(∀ y0 y1,LeO (zB.l0 k y0 y1) (zB.l0 (k + 1) y0 y1))
 | 0=>fun _ _ r h=>by simp [zB.l0] at h
 | k + 1=>by
  have ih0:=zB.zX k
  · intro y0 y1
    unfold zB.l0
    repeat' first
    | (with_reducible exact ih0 _ _)
    | (with_reducible exact LeO.refl _)
    | (with_reducible exact LeO.none _)
    | (with_reducible refine LeO.ite ?_ ?_)
    | (with_reducible refine LeO.bind ?_ (fun _=>?_))
    | exact ih0 _ _
    | exact LeO.none _
    | refine LeO.ite ?_ ?_
    | refine LeO.bind ?_ (fun _=>?_)
theorem zB.mono : ∀ a0 k,LeO (zB.f k a0) (zB.f (k + 1) a0):=by
 intro a0 k
 have ih0:=zB.zX k
 unfold zB.f
 repeat' first
  | (with_reducible exact ih0 _ _)
  | (with_reducible exact LeO.refl _)
  | (with_reducible exact LeO.none _)
  | (with_reducible refine LeO.ite ?_ ?_)
  | (with_reducible refine LeO.bind ?_ (fun _=>?_))
  | exact ih0 _ _
  | exact LeO.none _
  | refine LeO.ite ?_ ?_
  | refine LeO.bind ?_ (fun _=>?_)
set_option maxHeartbeats 8000000 in
set_option maxRecDepth 100000 in
theorem zB.calls (k : Nat) (a0 : Int) (r : Int) (w : World) (h : zB.f k a0 = some r) :
 Calls Try.prog 48 #[.int .i64 a0] w fun e w'=>e = .returned (.int .i64 r) ∧ Drawn0 w w':=by
 have H : (zB.l0 k a0 0) = some r:=h
 clear h
 have H':=z3.mk H
 clear H
 go_enter Try.func48,Try.ntmps48
 go_wp2
 go_loopg [4] k (fun kq v4 w'=>∃ (x4_1 : Int),v4 = .int .i64 x4_1 ∧ z3 (zB.l0 kq a0 x4_1 = some r) ∧ z3 (kq ≤ k) ∧ Drawn0 w w')
 case atStart=>exact ⟨(0),(by first|rfl|(simp;done)|(simp [*];done)),H',⟨Nat.le_refl _⟩,by repeat (first|exact Drawn0.refl _|apply Drawn0.step)⟩
 case round =>
  clear H'
  obtain ⟨x4_1,rfl,HA,HK1,⟨m1,rfl⟩⟩:=hrel
  cases gk with
  | zero=>exact absurd HA.out (by simp [zB.l0])
  | succ k1 =>
   have H:=HA.out
   clear HA
   simp only [zB.l0] at H
   by_cases c2 : x4_1 < 17
   rotate_left
   · rw [if_neg c2] at H
     have c2b0 : decide (x4_1 < 17) = false:=decide_eq_false c2
     clear c2
     obtain rfl:=Option.some.inj H
     go_wp2
     go_ret
     exact ⟨by first|rfl|(simp;done)|(simp [*];done),by repeat (first|exact Drawn0.refl _|apply Drawn0.step)⟩
   rw [if_pos c2] at H
   have c2b0 : decide (x4_1 < 17) = true:=decide_eq_true c2
   clear c2
   by_cases c3 : 0 ≤ x4_1
   rotate_left
   · rw [if_neg c3] at H
     exact absurd H (by simp)
   rw [if_pos c3] at H
   have c3b0:=eq_true c3
   have c3b1 : decide (0 ≤ x4_1) = true:=decide_eq_true c3
   clear c3
   obtain ⟨ji4,hji4⟩ : ∃ j_ : Int,(shl .i64 1 x4_1) = j_:=⟨_,rfl⟩
   replace H : (if a0 = (ji4) then (some x4_1) else (zB.l0 k1 a0 (wrap64 (x4_1 + 1)))) = some r:=by first|(rw [hji4] at H;exact H)|(simp only [hji4] at H ⊢;exact H)
   have hji4_ : (IntKind.i64.wrap (1 * 2 ^ min x4_1.toNat 64)) = ji4:=hji4
   have hji4z : x4_1 ≤ 64 → (IntKind.i64.wrap (1 * 2 ^ x4_1.toNat)) = ji4:=z1q hji4
   have hji4u : (IntKind.i64.wrap (2 ^ min x4_1.toNat 64)) = ji4:=by have h_:=hji4_;rw [Int.one_mul] at h_;exact h_
   have hji4v : x4_1 ≤ 64 → (IntKind.i64.wrap (2 ^ x4_1.toNat)) = ji4:=fun hle_=>by have h_:=hji4z hle_;rw [Int.one_mul] at h_;exact h_
   have hji4y : (wrap64 (1 * 2 ^ min x4_1.toNat 64)) = ji4:=(zD _).symm.trans hji4_
   have hji4x : x4_1 ≤ 64 → (wrap64 (1 * 2 ^ x4_1.toNat)) = ji4:=fun h_=>(zD _).symm.trans (hji4z h_)
   by_cases c5 : a0 = (ji4)
   · rw [if_pos c5] at H
     have c5b0 : (a0 == (ji4)) = true:=beq_iff_eq.mpr c5
     have c5b1 : (a0 != (ji4)) = false:=bne_eq_false_iff_eq.mpr c5
     clear c5
     obtain rfl:=Option.some.inj H
     go_wp2
     go_ret
     exact ⟨by first|rfl|(simp;done)|(simp only [← hji4] <;> (first|rfl|simp))|(simp [*];done),by repeat (first|exact Drawn0.refl _|apply Drawn0.step)⟩
   rw [if_neg c5] at H
   have c5b0 : (a0 == (ji4)) = false:=beq_eq_false_iff_ne.mpr c5
   have c5b1 : (a0 != (ji4)) = true:=bne_iff_ne.mpr c5
   have H':=z3.mk H
   clear H
   go_wp2
   go_roundg k1
   case measure=>have:=HK1.out;omega
   case rel=>exact ⟨(wrap64 (x4_1 + 1)),(by first|rfl|(simp;done)|(simp [*];done)),H',⟨by have:=HK1.out;omega⟩,by repeat (first|exact Drawn0.refl _|apply Drawn0.step)⟩
end Go.Proofs.Ytngcaphdkgihmaa.P
namespace Go.Proofs.Ytngcaphdkgihmaa.P
open Go.RowKit Go.Proofs.YtngcaphdkgihmaaW.PrintWords Go.Proofs.YtngcaphdkgihmaaW.PrintLast Go.Proofs.YtngcaphdkgihmaaW.PrintMore
attribute [local go_sem] zS zU z12 z13 zK zL zT zV   -- for this text's walks alone
set_option linter.unusedVariables false
set_option linter.unusedSimpArgs false
def zz.j0 : Nat → Int → Bool → Option (Int)
 | 0,_,_=>none
 | k + 1,x0,x3=>if x3 = true then (some 0) else (if x0 ≤ 3 then (some 1) else (if 0 ≤ (wrap64 (x0 - 3)) then (some (shl .i64 1 (wrap64 (x0 - 3)))) else (none)))
def zz.f (k : Nat) (a0 : Int) : Option (Int):=if a0 < 0 then (zz.j0 k a0 true) else (zz.j0 k a0 (decide (a0 > 7)))
theorem zz.zX : ∀ k,(∀ y0 y1,LeO (zz.j0 k y0 y1) (zz.j0 (k + 1) y0 y1))
 | 0=>fun _ _ r h=>by simp [zz.j0] at h
 | k + 1=>by
  have ih0:=zz.zX k
  · intro y0 y1
    unfold zz.j0
    repeat' first
    | (with_reducible exact ih0 _ _)
    | (with_reducible exact LeO.refl _)
    | (with_reducible exact LeO.none _)
    | (with_reducible refine LeO.ite ?_ ?_)
    | (with_reducible refine LeO.bind ?_ (fun _=>?_))
    | exact ih0 _ _
    | exact LeO.none _
    | refine LeO.ite ?_ ?_
    | refine LeO.bind ?_ (fun _=>?_)
theorem zz.mono : ∀ a0 k,LeO (zz.f k a0) (zz.f (k + 1) a0):=by
 intro a0 k
 have ih0:=zz.zX k
 unfold zz.f
 repeat' first
  | (with_reducible exact ih0 _ _)
  | (with_reducible exact LeO.refl _)
  | (with_reducible exact LeO.none _)
  | (with_reducible refine LeO.ite ?_ ?_)
  | (with_reducible refine LeO.bind ?_ (fun _=>?_))
  | exact ih0 _ _
  | exact LeO.none _
  | refine LeO.ite ?_ ?_
  | refine LeO.bind ?_ (fun _=>?_)
set_option maxHeartbeats 8000000 in
set_option maxRecDepth 100000 in
theorem zz.calls (k : Nat) (a0 : Int) (r : Int) (w : World) (h : zz.f k a0 = some r) :
 Calls Try.prog 78 #[.int .i64 a0] w fun e w'=>e = .returned (.int .i64 r) ∧ Drawn0 w w':=by
 have H : (if a0 < 0 then (zz.j0 k a0 true) else (zz.j0 k a0 (decide (a0 > 7)))) = some r:=h
 clear h
 have HC2:=z3.mk H
 clear H
 go_enter Try.func78,Try.ntmps78
 go_upto_region 1 with (fail)
 go_cut [3] (fun v3 wc=>∃ (kq : Nat) (x3_1 : Bool),v3 = .bool x3_1 ∧ z3 (zz.j0 kq a0 x3_1 = some r) ∧ z3 (kq ≤ k) ∧ Drawn0 w wc)
 case first =>
  have H:=HC2.out
  clear HC2
  by_cases c3 : a0 < 0
  rotate_left
  · rw [if_neg c3] at H
    have c3b0 : decide (a0 < 0) = false:=decide_eq_false c3
    clear c3
    (first|rw [c3b0]|(simp only [zD,zF];rw [c3b0])|skip)
    have H':=z3.mk H
    clear H
    go_wp2
    go_meet
    case rel=>exact ⟨_,(decide (a0 > 7)),(by first|rfl|(simp;done)|(simp [*];done)),H',⟨by first|omega|exact Nat.le_refl _⟩,by repeat (first|exact Drawn0.refl _|apply Drawn0.step)⟩
  rw [if_pos c3] at H
  have c3b0 : decide (a0 < 0) = true:=decide_eq_true c3
  clear c3
  (first|rw [c3b0]|(simp only [zD,zF];rw [c3b0])|skip)
  have H':=z3.mk H
  clear H
  go_wp2
  go_meet
  case rel=>exact ⟨_,(true),(by first|rfl|(simp;done)|(simp [*];done)),H',⟨by first|omega|exact Nat.le_refl _⟩,by repeat (first|exact Drawn0.refl _|apply Drawn0.step)⟩
 case rest =>
  clear HC2
  (try clear p2);(try clear c3);(try clear c3b0)
  obtain ⟨kq,x3_1,rfl,HA,HJ1,⟨mc1,rfl⟩⟩:=hcut
  cases kq with
  | zero=>exact absurd HA.out (by simp [zz.j0])
  | succ kj1 =>
   have H:=HA.out
   clear HA
   simp only [zz.j0] at H
   by_cases c4 : x3_1 = true
   · subst c4
     have H1 : (some 0) = some r:=by rw [if_pos rfl] at H;exact H
     clear H
     have H:=H1
     clear H1
     obtain rfl:=Option.some.inj H
     go_wp2
     go_ret
     exact ⟨by first|rfl|(simp;done)|(simp [*];done),by repeat (first|exact Drawn0.refl _|apply Drawn0.step)⟩
   replace c4:=Bool.eq_false_iff.mpr c4
   subst c4
   have H1 : (if a0 ≤ 3 then (some 1) else (if 0 ≤ (wrap64 (a0 - 3)) then (some (shl .i64 1 (wrap64 (a0 - 3)))) else (none))) = some r:=by rw [if_neg (show ¬ (false = true) by decide)] at H;exact H
   clear H
   have H:=H1
   clear H1
   by_cases c5 : a0 ≤ 3
   · rw [if_pos c5] at H
     have c5b0 : decide (a0 ≤ 3) = true:=decide_eq_true c5
     clear c5
     obtain rfl:=Option.some.inj H
     go_wp2
     go_ret
     exact ⟨by first|rfl|(simp;done)|(simp [*];done),by repeat (first|exact Drawn0.refl _|apply Drawn0.step)⟩
   rw [if_neg c5] at H
   have c5b0 : decide (a0 ≤ 3) = false:=decide_eq_false c5
   clear c5
   obtain ⟨ji6,hji6⟩ : ∃ j_ : Int,(wrap64 (a0 - 3)) = j_:=⟨_,rfl⟩
   replace H : (if 0 ≤ (ji6) then (some (shl .i64 1 (ji6))) else (none)) = some r:=by first|(rw [hji6] at H;exact H)|(simp only [hji6] at H ⊢;exact H)
   have hji6w : (IntKind.i64.wrap (a0 - 3)) = ji6:=(zD _).trans hji6
   by_cases c7 : 0 ≤ (ji6)
   rotate_left
   · rw [if_neg c7] at H
     exact absurd H (by simp)
   rw [if_pos c7] at H
   have c7b0:=eq_true c7
   have c7b1 : decide (0 ≤ (ji6)) = true:=decide_eq_true c7
   clear c7
   obtain ⟨ji8,hji8⟩ : ∃ j_ : Int,(shl .i64 1 (ji6)) = j_:=⟨_,rfl⟩
   replace H : (some ji8) = some r:=by first|(rw [hji8] at H;exact H)|(simp only [hji8] at H ⊢;exact H)
   have hji8_ : (IntKind.i64.wrap (1 * 2 ^ min (ji6).toNat 64)) = ji8:=hji8
   have hji8z : (ji6) ≤ 64 → (IntKind.i64.wrap (1 * 2 ^ (ji6).toNat)) = ji8:=z1q hji8
   have hji8u : (IntKind.i64.wrap (2 ^ min (ji6).toNat 64)) = ji8:=by have h_:=hji8_;rw [Int.one_mul] at h_;exact h_
   have hji8v : (ji6) ≤ 64 → (IntKind.i64.wrap (2 ^ (ji6).toNat)) = ji8:=fun hle_=>by have h_:=hji8z hle_;rw [Int.one_mul] at h_;exact h_
   have hji8y : (wrap64 (1 * 2 ^ min (ji6).toNat 64)) = ji8:=(zD _).symm.trans hji8_
   have hji8x : (ji6) ≤ 64 → (wrap64 (1 * 2 ^ (ji6).toNat)) = ji8:=fun h_=>(zD _).symm.trans (hji8z h_)
   obtain rfl:=Option.some.inj H
   go_wp2
   go_ret
   exact ⟨by first|rfl|(simp;done)|(simp only [← hji6,← hji8] <;> (first|rfl|simp))|(simp [*];done),by repeat (first|exact Drawn0.refl _|apply Drawn0.step)⟩
end Go.Proofs.Ytngcaphdkgihmaa.P
namespace Go.Proofs.Ytngcaphdkgihmaa.P
open Go.RowKit Go.Proofs.YtngcaphdkgihmaaW.PrintWords Go.Proofs.YtngcaphdkgihmaaW.PrintLast Go.Proofs.YtngcaphdkgihmaaW.PrintMore
attribute [local go_sem] zS zU z12 z13 zK zL zT zV   -- for this text's walks alone
set_option linter.unusedVariables false
set_option linter.unusedSimpArgs false
def z1a.f (l0 : List S51) : Option (List S51):=if l0.length < 8796093022208 then some l0 else none
set_option maxHeartbeats 800000 in
set_option maxRecDepth 100000 in
theorem z1a.calls (A0 : Option Addr) (c0 : Nat) (l0 : List S51) (r : List S51) (w : World) (hr0 : Kd.C k51 w A0 l0.length l0) (hc0 : l0.length ≤ c0) (h : z1a.f l0 = some r) :
 Calls Try.prog 64 #[.slice A0 l0.length c0] w fun e w'=>∃ v0_ : Value,e = .returned (v0_) ∧ Kd.R k51 51 w' w.heap.size (fun _=>True) v0_ r ∧ Below w.heap.size w w':=by
 have hlen : l0.length < 8796093022208 ∧ r = l0:=by
  unfold z1a.f at h
  split at h
  · exact ⟨by assumption,(Option.some.inj h).symm⟩
  · cases h
 obtain ⟨hlen,rfl⟩:=hlen
 have HB:=z3.mk (Below.refl w.heap.size w)
 have HR:=z3.mk hr0
 have HL:=z3.mk hlen
 clear h hlen
 cases A0 with
 | none =>
  have h0 : r = []:=by
   rcases Nat.eq_zero_or_pos r.length with h0|h0
   · exact List.eq_nil_of_length_eq_zero h0
   · obtain ⟨ad,h,_⟩:=HR.out.2.2 h0
     cases h
  subst h0
  clear hr0
  have he : ∀ w : World,(binOp .eql 37 (.slice none 0 c0) (.slice none 0 0)).run Try.prog w = .ok (.bool true) w:=fun _=>rfl
  go_enter Try.func64,Try.ntmps64
  go_wp2
  go_ret
  exact ⟨_,rfl,Kd.z3B _ _ _ _ _,HB.out⟩
 | some a =>
  clear hr0
  have he : ∀ w : World,(binOp .eql 37 (.slice (some a) r.length c0) (.slice none 0 0)).run Try.prog w = .ok (.bool false) w:=fun _=>rfl
  go_enter Try.func64,Try.ntmps64
  go_wp2_with (first
   | ((with_reducible refine zA (N:=5) rfl ?_);refine Kd.z3m k51 (w0:=w) w.heap.size 51 ?hg (N:=5) ?hd (xs:=([] : List S51)) (inner:=[]) (ok:=fun _=>True) (okp:=fun _=>True) ?hr ?hp (fun _ hk=>hk) trivial HB.out (zd HB.out) (by simp) ?_;(case hd=>rfl);(case hg=>rfl);(case hr=>first|(go_simp;done)|(go_simp;rfl));(case hp=>exact Reps.none _ _);intro v1 w1 ho hb hg hat;have n0_:=z3.mk ho;have n1_:=z3.mk hb;clear HB ho hb hg hat;have HO:=n0_;have HB:=n1_;clear n0_ n1_)
   | ((with_reducible refine z27 (b:=.append) (xs:=#[.tmp 5,.tmp 6]) rfl ?_);at_builtin;refine Kd.z3k k51 (w0:=w) w.heap.size rfl (.tmp 5) (.tmp 6) 37 51 (.agg #[(.int .u64 0),(.int .u64 0)]) 16 rfl Try.underlying37 info51 rfl (by decide) (by omega) v1 [] r _ _ _ (fun _=>True) (fun _=>False) rfl rfl ?aO ?aR (fun _ _ h=>h) (fun _ h=>h.elim) ?aF ?aB ?aS ?aL ?_;(case aR=>exact (Kd.z1f HR.out HB.out));(case aB=>exact HB.out);(case aF=>exact fun _ _=>trivial);(case aO=>exact HO.out);(case aS=>exact (zd HB.out));(case aL=>have:=HL.out;simp only [List.length_nil];omega);intro v2 w2 ho hb hg hat;have n0_:=z3.mk ho;have n1_:=z3.mk hb;clear HB HO ho hb hg hat;have HO:=n0_;have HB:=n1_;clear n0_ n1_))
  go_ret
  exact ⟨_,rfl,HO.out,HB.out⟩
end Go.Proofs.Ytngcaphdkgihmaa.P
namespace Go.Proofs.Ytngcaphdkgihmaa.P
open Go.RowKit Go.Proofs.YtngcaphdkgihmaaW.PrintWords Go.Proofs.YtngcaphdkgihmaaW.PrintLast Go.Proofs.YtngcaphdkgihmaaW.PrintMore
attribute [local go_sem] zS zU z12 z13 zK zL zT zV   -- for this text's walks alone
set_option linter.unusedVariables false
set_option linter.unusedSimpArgs false
def zG.j0 : Nat → Int → Bool → Int → Int → Option (Bool)
 | 0,_,_,_,_=>none
 | k + 1,x0,x5,x102000,x102001=>if x5 = true then (some false) else (if x0 = 7 then (some true) else (if x0 = 6 then (some (x102000 == 0)) else (if x102000 = 0 then (if 0 ≤ x0 then (some ((shr .u64 x102001 (shl .u64 1 x0)) == 0)) else (none)) else (some false))))
def zG.f (k : Nat) (a0 : Int) (a1_0 : Int) (a1_1 : Int) : Option (Bool):=if a0 < 0 then (zG.j0 k a0 true a1_0 a1_1) else (zG.j0 k a0 (decide (a0 > 7)) a1_0 a1_1)
theorem zG.zX : ∀ k,(∀ y0 y1 y2 y3,LeO (zG.j0 k y0 y1 y2 y3) (zG.j0 (k + 1) y0 y1 y2 y3))
 | 0=>fun _ _ _ _ r h=>by simp [zG.j0] at h
 | k + 1=>by
  have ih0:=zG.zX k
  · intro y0 y1 y2 y3
    unfold zG.j0
    repeat' first
    | (with_reducible exact ih0 _ _ _ _)
    | (with_reducible exact LeO.refl _)
    | (with_reducible exact LeO.none _)
    | (with_reducible refine LeO.ite ?_ ?_)
    | (with_reducible refine LeO.bind ?_ (fun _=>?_))
    | exact ih0 _ _ _ _
    | exact LeO.none _
    | refine LeO.ite ?_ ?_
    | refine LeO.bind ?_ (fun _=>?_)
theorem zG.mono : ∀ a0 a1 a2 k,LeO (zG.f k a0 a1 a2) (zG.f (k + 1) a0 a1 a2):=by
 intro a0 a1 a2 k
 have ih0:=zG.zX k
 unfold zG.f
 repeat' first
  | (with_reducible exact ih0 _ _ _ _)
  | (with_reducible exact LeO.refl _)
  | (with_reducible exact LeO.none _)
  | (with_reducible refine LeO.ite ?_ ?_)
  | (with_reducible refine LeO.bind ?_ (fun _=>?_))
  | exact ih0 _ _ _ _
  | exact LeO.none _
  | refine LeO.ite ?_ ?_
  | refine LeO.bind ?_ (fun _=>?_)
set_option maxHeartbeats 8000000 in
set_option maxRecDepth 100000 in
theorem zG.calls (k : Nat) (a0 : Int) (a1_0 : Int) (a1_1 : Int) (r : Bool) (w : World) (h : zG.f k a0 a1_0 a1_1 = some r) :
 Calls Try.prog 67 #[.int .i64 a0,.agg #[.int .u64 a1_0,.int .u64 a1_1]] w fun e w'=>e = .returned (.bool r) ∧ Below w.heap.size w w':=by
 have hu51:=Try.underlying51
 have HB:=z3.mk (Below.refl w.heap.size w)
 have H : (if a0 < 0 then (zG.j0 k a0 true a1_0 a1_1) else (zG.j0 k a0 (decide (a0 > 7)) a1_0 a1_1)) = some r:=h
 clear h
 have HC3:=z3.mk H
 clear H
 go_enter Try.func67,Try.ntmps67
 go_upto_region 1 with (first|((with_reducible refine zA (N:=3) rfl ?_);refine zy ?hg (N:=3) ?hd (cs:=#[.int .u64 a1_0,.int .u64 a1_1]) (t:=51) ?hr ?_;(case hd=>rfl);(case hg=>rfl);(case hr=>first|(go_simp;done)|(go_simp;rfl));intro gb101 hg w4 hbox hb;have n0_:=z3.mk (zc (by repeat (first|(with_reducible first|exact HB.out|apply z2|apply z0|apply z1)|exact HB.out)) hb);have n1_:=z3.mk (hbox);have n2_:=z3.mk ((by rw [hg];exact (zd (by repeat (first|(with_reducible first|exact HB.out|apply z2|apply z0|apply z1)|exact HB.out))) : w.heap.size ≤ gb101));have n3_:=z3.mk ((by rw [hg];exact (zd (by repeat (first|(with_reducible first|exact HB.out|apply z2|apply z0|apply z1)|exact HB.out))) : w.heap.size ≤ gb101));clear HB;have HB:=n0_;have BK101:=n1_;have GW101:=n2_;have GE101:=n3_;clear n0_ n1_ n2_ n3_;clear hb hbox hg))
 repeat (go_quiet (first|((with_reducible refine zA (N:=3) rfl ?_);refine zy ?hg (N:=3) ?hd (cs:=#[.int .u64 a1_0,.int .u64 a1_1]) (t:=51) ?hr ?_;(case hd=>rfl);(case hg=>rfl);(case hr=>first|(go_simp;done)|(go_simp;rfl));intro gb101 hg w4 hbox hb;have n0_:=z3.mk (zc (by repeat (first|(with_reducible first|exact HB.out|apply z2|apply z0|apply z1)|exact HB.out)) hb);have n1_:=z3.mk (hbox);have n2_:=z3.mk ((by rw [hg];exact (zd (by repeat (first|(with_reducible first|exact HB.out|apply z2|apply z0|apply z1)|exact HB.out))) : w.heap.size ≤ gb101));have n3_:=z3.mk ((by rw [hg];exact (zd (by repeat (first|(with_reducible first|exact HB.out|apply z2|apply z0|apply z1)|exact HB.out))) : w.heap.size ≤ gb101));clear HB;have HB:=n0_;have BK101:=n1_;have GW101:=n2_;have GE101:=n3_;clear n0_ n1_ n2_ n3_;clear hb hbox hg));go_upto_region 1 with (first|((with_reducible refine zA (N:=3) rfl ?_);refine zy ?hg (N:=3) ?hd (cs:=#[.int .u64 a1_0,.int .u64 a1_1]) (t:=51) ?hr ?_;(case hd=>rfl);(case hg=>rfl);(case hr=>first|(go_simp;done)|(go_simp;rfl));intro gb101 hg w4 hbox hb;have n0_:=z3.mk (zc (by repeat (first|(with_reducible first|exact HB.out|apply z2|apply z0|apply z1)|exact HB.out)) hb);have n1_:=z3.mk (hbox);have n2_:=z3.mk ((by rw [hg];exact (zd (by repeat (first|(with_reducible first|exact HB.out|apply z2|apply z0|apply z1)|exact HB.out))) : w.heap.size ≤ gb101));have n3_:=z3.mk ((by rw [hg];exact (zd (by repeat (first|(with_reducible first|exact HB.out|apply z2|apply z0|apply z1)|exact HB.out))) : w.heap.size ≤ gb101));clear HB;have HB:=n0_;have BK101:=n1_;have GW101:=n2_;have GE101:=n3_;clear n0_ n1_ n2_ n3_;clear hb hbox hg)))
 (try simp only [Act.put,List.setIfInBounds_toArray,List.set_cons_zero,List.set_cons_succ])
 go_cut [5] (fun v5 wc=>∃ (kq : Nat) (x5_2 : Bool),v5 = .bool x5_2 ∧ z3 (zG.j0 kq a0 x5_2 a1_0 a1_1 = some r) ∧ z3 (kq ≤ k) ∧ z3 (wc.heap[gb101]? = some (.cells #[.int .u64 a1_0,.int .u64 a1_1] 51 (0,0))) ∧ z3 (Below w.heap.size w wc))
 case first =>
  have H:=HC3.out
  clear HC3
  by_cases c5 : a0 < 0
  rotate_left
  · rw [if_neg c5] at H
    have c5b0 : decide (a0 < 0) = false:=decide_eq_false c5
    clear c5
    (first|rw [c5b0]|(simp only [zD,zF];rw [c5b0])|skip)
    have H':=z3.mk H
    clear H
    go_wp2
    repeat (go_quiet (fail);try go_wp2)
    go_meet
    case rel=>exact ⟨_,(decide (a0 > 7)),(by first|rfl|(simp;done)|(simp [*];done)),H',⟨by first|omega|exact Nat.le_refl _⟩,⟨by (with_reducible repeat (first|refine z5 ?_ _|refine z8 ?_|refine z4 ?_ _));exact BK101.out⟩,⟨by repeat (first|(with_reducible first|exact HB.out|apply z2|apply z0|apply z1|refine z7 ?_ GE101.out)|exact HB.out)⟩⟩
  rw [if_pos c5] at H
  have c5b0 : decide (a0 < 0) = true:=decide_eq_true c5
  clear c5
  (first|rw [c5b0]|(simp only [zD,zF];rw [c5b0])|skip)
  have H':=z3.mk H
  clear H
  go_wp2
  repeat (go_quiet (fail);try go_wp2)
  go_meet
  case rel=>exact ⟨_,(true),(by first|rfl|(simp;done)|(simp [*];done)),H',⟨by first|omega|exact Nat.le_refl _⟩,⟨by (with_reducible repeat (first|refine z5 ?_ _|refine z8 ?_|refine z4 ?_ _));exact BK101.out⟩,⟨by repeat (first|(with_reducible first|exact HB.out|apply z2|apply z0|apply z1|refine z7 ?_ GE101.out)|exact HB.out)⟩⟩
 case rest =>
  clear HC3
  (try clear p2);(try clear c5);(try clear c5b0)
  obtain ⟨kq,x5_2,rfl,HA,HJ2,BK101,HB⟩:=hcut
  cases kq with
  | zero=>exact absurd HA.out (by simp [zG.j0])
  | succ kj2 =>
   have H:=HA.out
   clear HA
   simp only [zG.j0] at H
   by_cases c6 : x5_2 = true
   · subst c6
     have H1 : (some false) = some r:=by rw [if_pos rfl] at H;exact H
     clear H
     have H:=H1
     clear H1
     obtain rfl:=Option.some.inj H
     go_wp2
     repeat (go_quiet (fail);try go_wp2)
     go_ret
     exact ⟨by first|rfl|(simp [zf,zg] <;> rfl)|(simp [*,zf,zg] <;> rfl),by repeat (first|(with_reducible first|exact HB.out|apply z2|apply z0|apply z1|refine z7 ?_ GE101.out)|exact HB.out)⟩
   replace c6:=Bool.eq_false_iff.mpr c6
   subst c6
   have H1 : (if a0 = 7 then (some true) else (if a0 = 6 then (some (a1_0 == 0)) else (if a1_0 = 0 then (if 0 ≤ a0 then (some ((shr .u64 a1_1 (shl .u64 1 a0)) == 0)) else (none)) else (some false)))) = some r:=by rw [if_neg (show ¬ (false = true) by decide)] at H;exact H
   clear H
   have H:=H1
   clear H1
   by_cases c7 : a0 = 7
   · rw [if_pos c7] at H
     have c7b0 : (a0 == 7) = true:=beq_iff_eq.mpr c7
     have c7b1 : (a0 != 7) = false:=bne_eq_false_iff_eq.mpr c7
     clear c7
     obtain rfl:=Option.some.inj H
     go_wp2
     repeat (go_quiet (fail);try go_wp2)
     go_ret
     exact ⟨by first|rfl|(simp [zf,zg] <;> rfl)|(simp [*,zf,zg] <;> rfl),by repeat (first|(with_reducible first|exact HB.out|apply z2|apply z0|apply z1|refine z7 ?_ GE101.out)|exact HB.out)⟩
   rw [if_neg c7] at H
   have c7b0 : (a0 == 7) = false:=beq_eq_false_iff_ne.mpr c7
   have c7b1 : (a0 != 7) = true:=bne_iff_ne.mpr c7
   by_cases c8 : a0 = 6
   · rw [if_pos c8] at H
     have c8b0 : (a0 == 6) = true:=beq_iff_eq.mpr c8
     have c8b1 : (a0 != 6) = false:=bne_eq_false_iff_eq.mpr c8
     clear c8
     obtain rfl:=Option.some.inj H
     have hcz9_0 : wc.cell? ⟨gb101,0,none⟩ = some (.int .u64 a1_0):=(za BK101.out 0).trans rfl
     have hcz9_1 : wc.cell? ⟨gb101,1,none⟩ = some (.int .u64 a1_1):=(za BK101.out 1).trans rfl
     have hfz9_0:=zb BK101.out 0
     have hfz9_1:=zb BK101.out 1
     go_wp2
     repeat (go_quiet (fail);try go_wp2)
     go_ret
     exact ⟨by first|rfl|(simp [zf,zg] <;> rfl)|(simp [*,zf,zg] <;> rfl),by repeat (first|(with_reducible first|exact HB.out|apply z2|apply z0|apply z1|refine z7 ?_ GE101.out)|exact HB.out)⟩
   rw [if_neg c8] at H
   have c8b0 : (a0 == 6) = false:=beq_eq_false_iff_ne.mpr c8
   have c8b1 : (a0 != 6) = true:=bne_iff_ne.mpr c8
   by_cases c10 : a1_0 = 0
   rotate_left
   · rw [if_neg c10] at H
     have c10b0 : (a1_0 == 0) = false:=beq_eq_false_iff_ne.mpr c10
     have c10b1 : (a1_0 != 0) = true:=bne_iff_ne.mpr c10
     obtain rfl:=Option.some.inj H
     have hcz15_0 : wc.cell? ⟨gb101,0,none⟩ = some (.int .u64 a1_0):=(za BK101.out 0).trans rfl
     have hcz15_1 : wc.cell? ⟨gb101,1,none⟩ = some (.int .u64 a1_1):=(za BK101.out 1).trans rfl
     have hfz15_0:=zb BK101.out 0
     have hfz15_1:=zb BK101.out 1
     go_wp2
     repeat (go_quiet (fail);try go_wp2)
     go_ret
     exact ⟨by first|rfl|(simp [zf,zg] <;> rfl)|(simp [*,zf,zg] <;> rfl),by repeat (first|(with_reducible first|exact HB.out|apply z2|apply z0|apply z1|refine z7 ?_ GE101.out)|exact HB.out)⟩
   rw [if_pos c10] at H
   have c10b0 : (a1_0 == 0) = true:=beq_iff_eq.mpr c10
   have c10b1 : (a1_0 != 0) = false:=bne_eq_false_iff_eq.mpr c10
   clear c10
   by_cases c11 : 0 ≤ a0
   rotate_left
   · rw [if_neg c11] at H
     exact absurd H (by simp)
   rw [if_pos c11] at H
   have c11b0:=eq_true c11
   have c11b1 : decide (0 ≤ a0) = true:=decide_eq_true c11
   clear c11
   obtain ⟨ji12,hji12⟩ : ∃ j_ : Int,(shl .u64 1 a0) = j_:=⟨_,rfl⟩
   replace H : (some ((shr .u64 a1_1 (ji12)) == 0)) = some r:=by first|(rw [hji12] at H;exact H)|(simp only [hji12] at H ⊢;exact H)
   have hji12_ : (IntKind.u64.wrap (1 * 2 ^ min a0.toNat 64)) = ji12:=hji12
   have hji12z : a0 ≤ 64 → (IntKind.u64.wrap (1 * 2 ^ a0.toNat)) = ji12:=z1q hji12
   have hji12n0 : 0 ≤ ji12:=by rw [← hji12];exact Int.emod_nonneg _ (by decide)
   have hji12n1 : decide (0 ≤ ji12) = true:=decide_eq_true hji12n0
   replace hji12n0:=eq_true hji12n0
   have hji12u : (IntKind.u64.wrap (2 ^ min a0.toNat 64)) = ji12:=by have h_:=hji12_;rw [Int.one_mul] at h_;exact h_
   have hji12v : a0 ≤ 64 → (IntKind.u64.wrap (2 ^ a0.toNat)) = ji12:=fun hle_=>by have h_:=hji12z hle_;rw [Int.one_mul] at h_;exact h_
   obtain ⟨ji13,hji13⟩ : ∃ j_ : Int,(shr .u64 a1_1 (ji12)) = j_:=⟨_,rfl⟩
   replace H : (some ((ji13) == 0)) = some r:=by first|(rw [hji13] at H;exact H)|(simp only [hji13] at H ⊢;exact H)
   have hji13_ : (a1_1 / 2 ^ min (ji12).toNat 64) = ji13:=hji13
   have hji13z : (ji12) ≤ 64 → (a1_1 / 2 ^ (ji12).toNat) = ji13:=z1M hji13
   obtain rfl:=Option.some.inj H
   have hcz14_0 : wc.cell? ⟨gb101,0,none⟩ = some (.int .u64 a1_0):=(za BK101.out 0).trans rfl
   have hcz14_1 : wc.cell? ⟨gb101,1,none⟩ = some (.int .u64 a1_1):=(za BK101.out 1).trans rfl
   have hfz14_0:=zb BK101.out 0
   have hfz14_1:=zb BK101.out 1
   go_wp2
   repeat (go_quiet (fail);try go_wp2)
   go_ret
   exact ⟨by first|rfl|(simp [zf,zg] <;> rfl)|(simp only [← hji12,← hji13];first|rfl|(simp [zf,zg] <;> rfl))|(simp [*,zf,zg] <;> rfl),by repeat (first|(with_reducible first|exact HB.out|apply z2|apply z0|apply z1|refine z7 ?_ GE101.out)|exact HB.out)⟩
end Go.Proofs.Ytngcaphdkgihmaa.P
namespace Go.Proofs.Ytngcaphdkgihmaa.P
open Go.RowKit Go.Proofs.YtngcaphdkgihmaaW.PrintWords Go.Proofs.YtngcaphdkgihmaaW.PrintLast Go.Proofs.YtngcaphdkgihmaaW.PrintMore
attribute [local go_sem] zS zU z12 z13 zK zL zT zV   -- for this text's walks alone
set_option linter.unusedVariables false
set_option linter.unusedSimpArgs false
set_option maxHeartbeats 800000 in
set_option maxRecDepth 100000 in
theorem zZ.clo (k : Nat) (a0 : Int) (x : S51) (g : Nat) (r : Bool) (w : World) (hg : w.heap[g]? = some (.cells #[.int .i64 a0] 3 (0,0))) (h : zG.f k a0 x.f0 x.f1 = some r) :
 Calls Try.prog 104 #[.agg #[.int .u64 x.f0,.int .u64 x.f1],.pointer (some ⟨g,0,none⟩)] w fun e w'=>e = .returned (.bool (!r)) ∧ Below w.heap.size w w':=by
 have hu51:=Try.underlying51
 have HB:=z3.mk (Below.refl w.heap.size w)
 have HG:=z3.mk hg
 have A8:=z3.mk h
 clear hg h
 go_enter Try.func104,Try.ntmps104
 go_wp2_with (first
  | ((with_reducible refine zA (N:=2) rfl ?_);refine zy ?hg (N:=2) ?hd (cs:=#[.int .u64 x.f0,.int .u64 x.f1]) (t:=51) ?hr ?_;(case hd=>rfl);(case hg=>rfl);(case hr=>first|(go_simp;done)|(go_simp;rfl));intro gb hgb w1_ hbox hb;have n0_:=z3.mk (zc HB.out hb);have hG1:=ze (g:=g) (o:=.cells #[.int .i64 a0] 3 (0,0)) HG.out hb;have hc0 : w1_.cell? ⟨g,0,none⟩ = some (.int .i64 a0):=(za hG1 0).trans rfl;have hcx0 : w1_.cell? ⟨gb,0,none⟩ = some (.int .u64 x.f0):=(za hbox 0).trans rfl;have hcx1 : w1_.cell? ⟨gb,1,none⟩ = some (.int .u64 x.f1):=(za hbox 1).trans rfl;clear HB hG1 hbox hb hgb;have HB:=n0_;clear n0_)
  | ((with_reducible refine zt (f:=67) rfl ?_);refine goesL_ (some 6) rfl rfl Try.func67 (by kernel_rfl) rfl #[.int .i64 a0,.agg #[.int .u64 x.f0,.int .u64 x.f1]] rfl (by (try simp only [List.map_toArray,List.map_cons,List.map_nil]);first|done|rfl) ?_;(with_reducible refine (zG.calls k a0 x.f0 x.f1 r _ A8.out).mono ?_);rintro e w2_ ⟨rfl,hb2⟩;refine ⟨_,rfl,?_⟩;have n0_:=z3.mk (zc HB.out hb2);clear HB hb2;have HB:=n0_;clear n0_))
 go_ret
 exact ⟨rfl,HB.out⟩
def zZ.all (k : Nat) (a0 : Int) : List S51 → Option Bool
 | []=>some true
 | x :: xs=>(zG.f k a0 x.f0 x.f1).bind fun b=>if b = true then zZ.all k a0 xs else some false
theorem zZ.z3Z (a0 : Int) : ∀ (l : List S51) (k : Nat),LeO (zZ.all k a0 l) (zZ.all (k + 1) a0 l)
 | [],k=>LeO.refl _
 | x :: xs,k=>LeO.bind (zG.mono a0 x.f0 x.f1 k) (fun b=>LeO.ite (zZ.z3Z a0 xs k) (LeO.refl _))
theorem zZ.all_drop (k : Nat) (a0 : Int) (l : List S51) (i : Nat) (h : i < l.length) : zZ.all k a0 (l.drop i) = (zG.f k a0 (zE l (i : Int)).f0 (zE l (i : Int)).f1).bind fun b=>if b = true then zZ.all k a0 (l.drop (i + 1)) else some false:=by
 rw [List.drop_eq_getElem_cons h]
 have e : zE l (i : Int) = l[i]:=by unfold zE;rw [Int.toNat_natCast,List.getD_eq_getElem?_getD,List.getElem?_eq_getElem h];rfl
 rw [e];rfl
set_option maxHeartbeats 800000 in
set_option maxRecDepth 100000 in
theorem zZ.idx (k : Nat) (a0 : Int) (A_ : Option Addr) (c : Nat) (l : List S51) (g : Nat) (r : Bool) (w : World) (hr : Kd.C k51 w A_ l.length l) (hg : w.heap[g]? = some (.cells #[.int .i64 a0] 3 (0,0))) (h : zZ.all k a0 l = some r) :
 Calls Try.prog 102 #[.slice A_ l.length c,.func (.func 104) #[] #[.pointer (some ⟨g,0,none⟩)]] w fun e w'=>(∃ i : Int,e = .returned (.int .i64 i) ∧ decide (i ≥ 0) = !r) ∧ Below w.heap.size w w':=by
 have hu51:=Try.underlying51
 have HB:=z3.mk (Below.refl w.heap.size w)
 have HG:=z3.mk hg
 have HR:=z3.mk hr
 have HA:=z3.mk h
 have HM:=z3.mk (Kd.C_max hr)
 clear hg h hr
 go_enter Try.func102,Try.ntmps102
 go_wp2
 go_loopg [8] l.length (fun kq v8 w'=>∃ (i : Nat),v8 = .int .i64 i ∧ z3 (i + kq = l.length) ∧ z3 (zZ.all k a0 (l.drop i) = some r) ∧ z3 (w'.heap[g]? = some (.cells #[.int .i64 a0] 3 (0,0))) ∧ z3 (Below w.heap.size w w'))
 case atStart=>exact ⟨0,rfl,⟨by omega⟩,HA,HG,HB⟩
 case round =>
  obtain ⟨i,rfl,HK,HAi,HGi,HBi⟩:=hrel
  clear HG HB HA
  by_cases hlt : i < l.length
  rotate_left
  · have p0 : decide (i < l.length) = false:=decide_eq_false hlt
    have p1 : decide ((i : Int) < (l.length : Int)) = false:=decide_eq_false (by omega)
    have hr : r = true:=by
     have h1:=HAi.out
     rw [List.drop_eq_nil_of_le (by omega)] at h1
     exact (Option.some.inj h1).symm
    clear hlt HAi
    subst hr
    go_wp2
    go_ret
    exact ⟨⟨-1,rfl,by decide⟩,HBi.out⟩
  have hd:=zZ.all_drop k a0 l i hlt
  have e1:=HAi.out
  rw [hd] at e1
  obtain ⟨b,hb,e2⟩:=Option.bind_eq_some_iff.mp e1
  clear e1 hd
  have HE:=z3.mk e2
  have HF:=z3.mk hb
  clear e2 hb
  obtain ⟨ad,e205,hx0,hx1⟩:=z26 HR.out (i : Int) (by omega) (by omega)
  cases e205
  rw [Int.toNat_natCast] at hx0 hx1
  replace hx0:=(HBi.out.cell (World.block_lt_of_cell? w _ hx0)).trans hx0
  replace hx1:=(HBi.out.cell (World.block_lt_of_cell? w _ hx1)).trans hx1
  have p0 : decide (i < l.length) = true:=decide_eq_true hlt
  have p1 : decide ((i : Int) < (l.length : Int)) = true:=decide_eq_true (by omega)
  have p2 : (0 ≤ (i : Int)) = True:=eq_true (by omega)
  have p3 : ((i : Int) < (l.length : Int)) = True:=eq_true (by omega)
  clear hlt
  go_wp2_with fail
  refine (zZ.clo k a0 (zE l (i : Int)) g b _ HGi.out HF.out).mono ?_
  rintro e w1 ⟨rfl,hb1⟩
  have n0_:=z3.mk (zc HBi.out hb1)
  have n1_:=z3.mk (ze (g:=g) (o:=.cells #[.int .i64 a0] 3 (0,0)) HGi.out hb1)
  clear HBi HGi hb1 hx0 hx1
  cases b with
  | true =>
   rw [if_pos rfl] at HE
   simp only [Bool.not_true]
   go_wp2
   have hi : wrap64 ((i : Int) + 1) = ((i + 1 : Nat) : Int):=by
    have:=HM.out;have:=HK.out;have h9:=of_decide_eq_true p0;unfold wrap64;omega
   go_roundg (l.length - i - 1)
   case measure=>have:=HK.out;have h9:=of_decide_eq_true p0;omega
   case rel=>exact ⟨i + 1,congrArg (Value.int .i64) hi,⟨by have:=HK.out;have h9:=of_decide_eq_true p0;omega⟩,HE,n1_,n0_⟩
  | false =>
   have hr : r = false:=by
    have:=HE.out
    simp at this
    exact this
   subst hr
   simp only [Bool.not_false]
   go_wp2
   go_ret
   exact ⟨⟨(i : Int),rfl,by simp⟩,n0_.out⟩
set_option maxHeartbeats 800000 in
set_option maxRecDepth 100000 in
theorem zZ.cont (k : Nat) (a0 : Int) (A_ : Option Addr) (c : Nat) (l : List S51) (g : Nat) (r : Bool) (w : World) (hr : Kd.C k51 w A_ l.length l) (hg : w.heap[g]? = some (.cells #[.int .i64 a0] 3 (0,0))) (h : zZ.all k a0 l = some r) :
 Calls Try.prog 93 #[.slice A_ l.length c,.func (.func 104) #[] #[.pointer (some ⟨g,0,none⟩)]] w fun e w'=>e = .returned (.bool (!r)) ∧ Below w.heap.size w w':=by
 have HB:=z3.mk (Below.refl w.heap.size w)
 have HG:=z3.mk hg
 have HR:=z3.mk hr
 have HA:=z3.mk h
 clear hg h hr
 go_enter Try.func93,Try.ntmps93
 go_wp2_with fail
 refine (zZ.idx k a0 A_ c l g r _ HR.out HG.out HA.out).mono ?_
 rintro e w1 ⟨⟨i,rfl,hi⟩,hb1⟩
 have hb:=z3.mk hb1
 have hj:=z3.mk hi
 clear hb1 hi
 go_wp2
 go_ret
 exact ⟨by rw [← hj.out];rfl,hb.out⟩
def zZ.f (k : Nat) (a0 : Int) (l1 : List S51) : Option Bool:=zZ.all k a0 l1
theorem zZ.mono : ∀ a0 a1 k,LeO (zZ.f k a0 a1) (zZ.f (k + 1) a0 a1):=fun a0 l k=>zZ.z3Z a0 l k
set_option maxHeartbeats 800000 in
set_option maxRecDepth 100000 in
theorem zZ.calls (k : Nat) (a0 : Int) (A1 : Option Addr) (c1 : Nat) (l1 : List S51) (r : Bool) (w : World) (hr1 : Kd.C k51 w A1 l1.length l1) (hc1 : l1.length ≤ c1) (h : zZ.f k a0 l1 = some r) :
 Calls Try.prog 98 #[.int .i64 a0,.slice A1 l1.length c1] w fun e w'=>e = .returned (.bool r) ∧ Below w.heap.size w w':=by
 have hmf : ∀ (fn : Fn) (first cap : Array Value) (w : World),(Instr.makeFunc fn first cap).run Try.prog w = .ok (.func fn first cap) w:=fun _ _ _ _=>rfl
 have HB:=z3.mk (Below.refl w.heap.size w)
 have HR:=z3.mk hr1
 have HA:=z3.mk (show zZ.all k a0 l1 = some r from h)
 clear h hr1
 go_enter Try.func98,Try.ntmps98
 go_wp2_with (first
  | ((with_reducible refine zA (N:=2) rfl ?_);refine zy ?hg (N:=2) ?hd (cs:=#[.int .i64 a0]) (t:=3) ?hr ?_;(case hd=>rfl);(case hg=>rfl);(case hr=>first|(go_simp;done)|(go_simp;rfl));intro gb hgb w1_ hbox hb;have n0_:=z3.mk (zc HB.out hb);have n1_:=z3.mk hbox;have n2_:=z3.mk (Kd.z1f HR.out hb);clear HB HR hbox hb hgb;have HB:=n0_;have HG:=n1_;have HR:=n2_;clear n0_ n1_ n2_)
  | ((with_reducible refine zt (f:=93) rfl ?_);refine goesL_ (some 7) rfl rfl Try.func93 (by kernel_rfl) rfl #[.slice A1 l1.length c1,.func (.func 104) #[] #[.pointer (some ⟨gb,0,none⟩)]] rfl (by (try simp only [List.map_toArray,List.map_cons,List.map_nil]);first|done|rfl) ?_;(with_reducible refine (zZ.cont k a0 _ _ l1 gb r _ HR.out HG.out HA.out).mono ?_);rintro e w2_ ⟨rfl,hb2⟩;refine ⟨_,rfl,?_⟩;have n0_:=z3.mk (zc HB.out hb2);clear HB hb2;have HB:=n0_;clear n0_))
 go_ret
 exact ⟨by simp,HB.out⟩
end Go.Proofs.Ytngcaphdkgihmaa.P
namespace Go.Proofs.Ytngcaphdkgihmaa.P
open Go.RowKit Go.Proofs.YtngcaphdkgihmaaW.PrintWords Go.Proofs.YtngcaphdkgihmaaW.PrintLast Go.Proofs.YtngcaphdkgihmaaW.PrintMore
attribute [local go_sem] zS zU z12 z13 zK zL zT zV   -- for this text's walks alone
set_option linter.unusedVariables false
set_option linter.unusedSimpArgs false
def zW.j0 : Nat → Int → List (S51) → List (S51) → Bool → Option (Int)
 | 0,_,_,_,_=>none
 | k + 1,x0,x1,x2,x15=>if x15 = true then (some 6) else ((zZ.f k x0 x1).bind fun t103=>(if t103 = true then ((zZ.f k x0 x2).bind fun t104=>(if t104 = true then (some 0) else (some 5))) else (some 5)))
def zW.f (k : Nat) (a0 : Int) (l1 : List (S51)) (l2 : List (S51)) : Option (Int):=(zB.f k (l1.length : Int)).bind fun t101=>((zz.f k a0).bind fun t102=>(if t102 = 0 then (some 1) else (if t101 < 0 then (zW.j0 k a0 l1 l2 true) else (zW.j0 k a0 l1 l2 (decide ((l2.length : Int) > t101))))))
theorem zW.zX : ∀ k,(∀ y0 y1 y2 y3,LeO (zW.j0 k y0 y1 y2 y3) (zW.j0 (k + 1) y0 y1 y2 y3))
 | 0=>fun _ _ _ _ r h=>by simp [zW.j0] at h
 | k + 1=>by
  have ih0:=zW.zX k
  · intro y0 y1 y2 y3
    unfold zW.j0
    repeat' first
    | (with_reducible exact ih0 _ _ _ _)
    | (with_reducible exact zB.mono _ _)
    | (with_reducible exact zZ.mono _ _ _)
    | (with_reducible exact zz.mono _ _)
    | (with_reducible exact LeO.refl _)
    | (with_reducible exact LeO.none _)
    | (with_reducible refine LeO.ite ?_ ?_)
    | (with_reducible refine LeO.bind ?_ (fun _=>?_))
    | exact ih0 _ _ _ _
    | exact zB.mono _ _
    | exact zZ.mono _ _ _
    | exact zz.mono _ _
    | exact LeO.none _
    | refine LeO.ite ?_ ?_
    | refine LeO.bind ?_ (fun _=>?_)
theorem zW.mono : ∀ a0 a1 a2 k,LeO (zW.f k a0 a1 a2) (zW.f (k + 1) a0 a1 a2):=by
 intro a0 a1 a2 k
 have ih0:=zW.zX k
 unfold zW.f
 repeat' first
  | (with_reducible exact ih0 _ _ _ _)
  | (with_reducible exact zB.mono _ _)
  | (with_reducible exact zZ.mono _ _ _)
  | (with_reducible exact zz.mono _ _)
  | (with_reducible exact LeO.refl _)
  | (with_reducible exact LeO.none _)
  | (with_reducible refine LeO.ite ?_ ?_)
  | (with_reducible refine LeO.bind ?_ (fun _=>?_))
  | exact ih0 _ _ _ _
  | exact zB.mono _ _
  | exact zZ.mono _ _ _
  | exact zz.mono _ _
  | exact LeO.none _
  | refine LeO.ite ?_ ?_
  | refine LeO.bind ?_ (fun _=>?_)
set_option maxHeartbeats 8000000 in
set_option maxRecDepth 100000 in
theorem zW.calls (k : Nat) (a0 : Int) (A1 : Option Addr) (c1 : Nat) (l1 : List (S51)) (A2 : Option Addr) (c2 : Nat) (l2 : List (S51)) (r : Int) (w : World) (hr1 : Kd.C k51 w A1 l1.length l1) (hc1 : l1.length ≤ c1) (hr2 : Kd.C k51 w A2 l2.length l2) (hc2 : l2.length ≤ c2) (h : zW.f k a0 l1 l2 = some r) :
 Calls Try.prog 85 #[.int .i64 a0,.slice A1 l1.length c1,.slice A2 l2.length c2] w fun e w'=>e = .returned (.int .i64 r) ∧ Below w.heap.size w w':=by
 have HR1:=z3.mk hr1
 have HC1:=z3.mk hc1
 clear hr1 hc1
 have HR2:=z3.mk hr2
 have HC2:=z3.mk hc2
 clear hr2 hc2
 have HB:=z3.mk (Below.refl w.heap.size w)
 have H : ((zB.f k (l1.length : Int)).bind fun t101=>((zz.f k a0).bind fun t102=>(if t102 = 0 then (some 1) else (if t101 < 0 then (zW.j0 k a0 l1 l2 true) else (zW.j0 k a0 l1 l2 (decide ((l2.length : Int) > t101))))))) = some r:=h
 clear h
 replace H:=Option.bind_eq_some_iff.mp H
 obtain ⟨t101,A40,H⟩:=H
 replace H : ((zz.f k a0).bind fun t102=>(if t102 = 0 then (some 1) else (if t101 < 0 then (zW.j0 k a0 l1 l2 true) else (zW.j0 k a0 l1 l2 (decide ((l2.length : Int) > t101)))))) = some r:=H
 have A4:=z3.mk A40
 clear A40
 replace H:=Option.bind_eq_some_iff.mp H
 obtain ⟨t102,A50,H⟩:=H
 replace H : (if t102 = 0 then (some 1) else (if t101 < 0 then (zW.j0 k a0 l1 l2 true) else (zW.j0 k a0 l1 l2 (decide ((l2.length : Int) > t101))))) = some r:=H
 have A5:=z3.mk A50
 clear A50
 by_cases c6 : t102 = 0
 · rw [if_pos c6] at H
   have c6b0 : (t102 == 0) = true:=beq_iff_eq.mpr c6
   have c6b1 : (t102 != 0) = false:=bne_eq_false_iff_eq.mpr c6
   clear c6
   obtain rfl:=Option.some.inj H
   go_enter Try.func85,Try.ntmps85
   go_wp2_with (first|((with_reducible refine zt (f:=48) rfl ?_);refine goesL_ (some 10) rfl rfl Try.func48 (by kernel_rfl) rfl #[.int .i64 (l1.length : Int)] rfl (by (try simp only [List.map_toArray,List.map_cons,List.map_nil]);first|done|rfl|(simp only [List.length_drop,List.length_take];rfl)) ?_;(with_reducible refine (zB.calls k (l1.length : Int) t101 _ A4.out).mono ?_);rintro e w' ⟨rfl,⟨nd,rfl⟩⟩;refine ⟨_,rfl,?_⟩)|((with_reducible refine zt (f:=78) rfl ?_);refine goesL_ (some 13) rfl rfl Try.func78 (by kernel_rfl) rfl #[.int .i64 a0] rfl (by (try simp only [List.map_toArray,List.map_cons,List.map_nil]);first|done|rfl|(simp only [List.length_drop,List.length_take];rfl)) ?_;(with_reducible refine (zz.calls k a0 t102 _ A5.out).mono ?_);rintro e w' ⟨rfl,⟨nd,rfl⟩⟩;refine ⟨_,rfl,?_⟩))
   go_ret
   exact ⟨by first|rfl|(simp [zf,zg] <;> rfl)|(simp [*,zf,zg] <;> rfl),by repeat (first|(with_reducible first|exact HB.out|apply z2|apply z0|apply z1)|exact HB.out)⟩
 rw [if_neg c6] at H
 have c6b0 : (t102 == 0) = false:=beq_eq_false_iff_ne.mpr c6
 have c6b1 : (t102 != 0) = true:=bne_iff_ne.mpr c6
 have HC7:=z3.mk H
 clear H
 go_enter Try.func85,Try.ntmps85
 go_upto_region 4 with (first|((with_reducible refine zt (f:=48) rfl ?_);refine goesL_ (some 10) rfl rfl Try.func48 (by kernel_rfl) rfl #[.int .i64 (l1.length : Int)] rfl (by (try simp only [List.map_toArray,List.map_cons,List.map_nil]);first|done|rfl|(simp only [List.length_drop,List.length_take];rfl)) ?_;(with_reducible refine (zB.calls k (l1.length : Int) t101 _ A4.out).mono ?_);rintro e w' ⟨rfl,⟨nd,rfl⟩⟩;refine ⟨_,rfl,?_⟩)|((with_reducible refine zt (f:=78) rfl ?_);refine goesL_ (some 13) rfl rfl Try.func78 (by kernel_rfl) rfl #[.int .i64 a0] rfl (by (try simp only [List.map_toArray,List.map_cons,List.map_nil]);first|done|rfl|(simp only [List.length_drop,List.length_take];rfl)) ?_;(with_reducible refine (zz.calls k a0 t102 _ A5.out).mono ?_);rintro e w' ⟨rfl,⟨nd,rfl⟩⟩;refine ⟨_,rfl,?_⟩))
 (try simp only [Act.put,List.setIfInBounds_toArray,List.set_cons_zero,List.set_cons_succ])
 go_cut [15] (fun v15 wc=>∃ (kq : Nat) (x15_6 : Bool),v15 = .bool x15_6 ∧ z3 (zW.j0 kq a0 l1 l2 x15_6 = some r) ∧ z3 (kq ≤ k) ∧ z3 (Below w.heap.size w wc))
 case first =>
  have H:=HC7.out
  clear HC7
  by_cases c8 : t101 < 0
  rotate_left
  · rw [if_neg c8] at H
    have c8b0 : decide (t101 < 0) = false:=decide_eq_false c8
    clear c8
    (first|rw [c8b0]|(simp only [zD,zF];rw [c8b0])|skip)
    have H':=z3.mk H
    clear H
    go_wp2
    go_meet
    case rel=>exact ⟨_,(decide ((l2.length : Int) > t101)),(by first|rfl|(simp;done)|(simp [*];done)),H',⟨by first|omega|exact Nat.le_refl _⟩,⟨by repeat (first|(with_reducible first|exact HB.out|apply z2|apply z0|apply z1)|exact HB.out)⟩⟩
  rw [if_pos c8] at H
  have c8b0 : decide (t101 < 0) = true:=decide_eq_true c8
  clear c8
  (first|rw [c8b0]|(simp only [zD,zF];rw [c8b0])|skip)
  have H':=z3.mk H
  clear H
  go_wp2
  go_meet
  case rel=>exact ⟨_,(true),(by first|rfl|(simp;done)|(simp [*];done)),H',⟨by first|omega|exact Nat.le_refl _⟩,⟨by repeat (first|(with_reducible first|exact HB.out|apply z2|apply z0|apply z1)|exact HB.out)⟩⟩
 case rest =>
  clear HC7
  (try clear c1);(try clear c2);(try clear p2);(try clear c4);(try clear c6);(try clear c6b0);(try clear c6b1);(try clear c7);(try clear c8);(try clear c8b0)
  obtain ⟨kq,x15_6,rfl,HA,HJ6,HB⟩:=hcut
  cases kq with
  | zero=>exact absurd HA.out (by simp [zW.j0])
  | succ kj6 =>
   have H:=HA.out
   clear HA
   simp only [zW.j0] at H
   by_cases c9 : x15_6 = true
   · subst c9
     have H1 : (some 6) = some r:=by rw [if_pos rfl] at H;exact H
     clear H
     have H:=H1
     clear H1
     obtain rfl:=Option.some.inj H
     go_wp2
     go_ret
     exact ⟨by first|rfl|(simp [zf,zg] <;> rfl)|(simp [*,zf,zg] <;> rfl),by repeat (first|(with_reducible first|exact HB.out|apply z2|apply z0|apply z1)|exact HB.out)⟩
   replace c9:=Bool.eq_false_iff.mpr c9
   subst c9
   have H1 : ((zZ.f kj6 a0 l1).bind fun t103=>(if t103 = true then ((zZ.f kj6 a0 l2).bind fun t104=>(if t104 = true then (some 0) else (some 5))) else (some 5))) = some r:=by rw [if_neg (show ¬ (false = true) by decide)] at H;exact H
   clear H
   have H:=H1
   clear H1
   replace H:=Option.bind_eq_some_iff.mp H
   obtain ⟨t103,A100,H⟩:=H
   replace H : (if t103 = true then ((zZ.f kj6 a0 l2).bind fun t104=>(if t104 = true then (some 0) else (some 5))) else (some 5)) = some r:=H
   have A10:=z3.mk A100
   clear A100
   by_cases c11 : t103 = true
   rotate_left
   · replace c11:=Bool.eq_false_iff.mpr c11
     subst c11
     have H1 : (some 5) = some r:=by rw [if_neg (show ¬ (false = true) by decide)] at H;exact H
     clear H
     have H:=H1
     clear H1
     obtain rfl:=Option.some.inj H
     go_wp2_with (first|((with_reducible refine zt (f:=98) rfl ?_);refine goesL_ (some 27) rfl rfl Try.func98 (by kernel_rfl) rfl #[.int .i64 a0,.slice A1 l1.length c1] rfl (by (try simp only [List.map_toArray,List.map_cons,List.map_nil]);first|done|rfl|(simp only [List.length_drop,List.length_take];rfl)) ?_;(with_reducible refine (zZ.calls kj6 a0 _ _ l1 false _ ?side1 ?side2 A10.out).mono ?_);(case side1=>repeat (first|exact (Kd.z1f HR1.out HB.out)|(with_reducible refine Kd.z18 ?_ _)|(with_reducible refine Kd.z19 ?_ _)|(with_reducible refine Kd.z1g ?_)));(case side2=>exact HC1.out);rintro e w18 ⟨rfl,hb⟩;refine ⟨_,rfl,?_⟩;have n0_:=z3.mk (zc (by repeat (first|(with_reducible first|exact HB.out|apply z2|apply z0|apply z1)|exact HB.out)) hb);clear HB;have HB:=n0_;clear n0_;(try clear hb);(try clear hb2);(try clear hk);(try clear hi)))
     go_ret
     exact ⟨by first|rfl|(simp [zf,zg] <;> rfl)|(simp [*,zf,zg] <;> rfl),by repeat (first|(with_reducible first|exact HB.out|apply z2|apply z0|apply z1)|exact HB.out)⟩
   subst c11
   have H1 : ((zZ.f kj6 a0 l2).bind fun t104=>(if t104 = true then (some 0) else (some 5))) = some r:=by rw [if_pos rfl] at H;exact H
   clear H
   have H:=H1
   clear H1
   replace H:=Option.bind_eq_some_iff.mp H
   obtain ⟨t104,A120,H⟩:=H
   replace H : (if t104 = true then (some 0) else (some 5)) = some r:=H
   have A12:=z3.mk A120
   clear A120
   by_cases c13 : t104 = true
   · subst c13
     have H1 : (some 0) = some r:=by rw [if_pos rfl] at H;exact H
     clear H
     have H:=H1
     clear H1
     obtain rfl:=Option.some.inj H
     go_wp2_with (first|((with_reducible refine zt (f:=98) rfl ?_);refine goesL_ (some 27) rfl rfl Try.func98 (by kernel_rfl) rfl #[.int .i64 a0,.slice A1 l1.length c1] rfl (by (try simp only [List.map_toArray,List.map_cons,List.map_nil]);first|done|rfl|(simp only [List.length_drop,List.length_take];rfl)) ?_;(with_reducible refine (zZ.calls kj6 a0 _ _ l1 true _ ?side1 ?side2 A10.out).mono ?_);(case side1=>repeat (first|exact (Kd.z1f HR1.out HB.out)|(with_reducible refine Kd.z18 ?_ _)|(with_reducible refine Kd.z19 ?_ _)|(with_reducible refine Kd.z1g ?_)));(case side2=>exact HC1.out);rintro e w14 ⟨rfl,hb⟩;refine ⟨_,rfl,?_⟩;have n0_:=z3.mk (zc (by repeat (first|(with_reducible first|exact HB.out|apply z2|apply z0|apply z1)|exact HB.out)) hb);clear HB;have HB:=n0_;clear n0_;(try clear hb);(try clear hb2);(try clear hk);(try clear hi))|(go_at_call 98;(with_reducible refine (zZ.calls kj6 a0 _ _ l2 true _ ?side1 ?side2 A12.out).mono ?_);(case side1=>repeat (first|exact (Kd.z1f HR2.out HB.out)|(with_reducible refine Kd.z18 ?_ _)|(with_reducible refine Kd.z19 ?_ _)|(with_reducible refine Kd.z1g ?_)));(case side2=>exact HC2.out);rintro e w15 ⟨rfl,hb⟩;have n0_:=z3.mk (zc (by repeat (first|(with_reducible first|exact HB.out|apply z2|apply z0|apply z1)|exact HB.out)) hb);clear HB;have HB:=n0_;clear n0_;(try clear hb);(try clear hb2);(try clear hk);(try clear hi)))
     go_ret
     exact ⟨by first|rfl|(simp [zf,zg] <;> rfl)|(simp [*,zf,zg] <;> rfl),by repeat (first|(with_reducible first|exact HB.out|apply z2|apply z0|apply z1)|exact HB.out)⟩
   replace c13:=Bool.eq_false_iff.mpr c13
   subst c13
   have H1 : (some 5) = some r:=by rw [if_neg (show ¬ (false = true) by decide)] at H;exact H
   clear H
   have H:=H1
   clear H1
   obtain rfl:=Option.some.inj H
   go_wp2_with (first|((with_reducible refine zt (f:=98) rfl ?_);refine goesL_ (some 27) rfl rfl Try.func98 (by kernel_rfl) rfl #[.int .i64 a0,.slice A1 l1.length c1] rfl (by (try simp only [List.map_toArray,List.map_cons,List.map_nil]);first|done|rfl|(simp only [List.length_drop,List.length_take];rfl)) ?_;(with_reducible refine (zZ.calls kj6 a0 _ _ l1 true _ ?side1 ?side2 A10.out).mono ?_);(case side1=>repeat (first|exact (Kd.z1f HR1.out HB.out)|(with_reducible refine Kd.z18 ?_ _)|(with_reducible refine Kd.z19 ?_ _)|(with_reducible refine Kd.z1g ?_)));(case side2=>exact HC1.out);rintro e w16 ⟨rfl,hb⟩;refine ⟨_,rfl,?_⟩;have n0_:=z3.mk (zc (by repeat (first|(with_reducible first|exact HB.out|apply z2|apply z0|apply z1)|exact HB.out)) hb);clear HB;have HB:=n0_;clear n0_;(try clear hb);(try clear hb2);(try clear hk);(try clear hi))|(go_at_call 98;(with_reducible refine (zZ.calls kj6 a0 _ _ l2 false _ ?side1 ?side2 A12.out).mono ?_);(case side1=>repeat (first|exact (Kd.z1f HR2.out HB.out)|(with_reducible refine Kd.z18 ?_ _)|(with_reducible refine Kd.z19 ?_ _)|(with_reducible refine Kd.z1g ?_)));(case side2=>exact HC2.out);rintro e w17 ⟨rfl,hb⟩;have n0_:=z3.mk (zc (by repeat (first|(with_reducible first|exact HB.out|apply z2|apply z0|apply z1)|exact HB.out)) hb);clear HB;have HB:=n0_;clear n0_;(try clear hb);(try clear hb2);(try clear hk);(try clear hi)))
   go_ret
   exact ⟨by first|rfl|(simp [zf,zg] <;> rfl)|(simp [*,zf,zg] <;> rfl),by repeat (first|(with_reducible first|exact HB.out|apply z2|apply z0|apply z1)|exact HB.out)⟩
end Go.Proofs.Ytngcaphdkgihmaa.P
namespace Go.Proofs.Ytngcaphdkgihmaa.P
open Go.RowKit Go.Proofs.YtngcaphdkgihmaaW.PrintWords Go.Proofs.YtngcaphdkgihmaaW.PrintLast Go.Proofs.YtngcaphdkgihmaaW.PrintMore
attribute [local go_sem] zS zU z12 z13 zK zL zT zV   -- for this text's walks alone
set_option linter.unusedVariables false
set_option linter.unusedSimpArgs false
def z1r.f (a0_0 : Int) (a0_1 : Int) (a1_0 : Int) (a1_1 : Int) : Option (Int × Int):=some (Go.bits .xor .u64 a0_0 a1_0,Go.bits .xor .u64 a0_1 a1_1)
set_option maxHeartbeats 8000000 in
set_option maxRecDepth 100000 in
theorem z1r.calls (a0_0 : Int) (a0_1 : Int) (a1_0 : Int) (a1_1 : Int) (r1 : Int) (r2 : Int) (w : World) (h : z1r.f a0_0 a0_1 a1_0 a1_1 = some (r1,r2)) :
 Calls Try.prog 40 #[.agg #[.int .u64 a0_0,.int .u64 a0_1],.agg #[.int .u64 a1_0,.int .u64 a1_1]] w fun e w'=>e = .returned (.agg #[.int .u64 r1,.int .u64 r2]) ∧ Below w.heap.size w w':=by
 have hu51:=Try.underlying51
 have HB:=z3.mk (Below.refl w.heap.size w)
 have H : (some (Go.bits .xor .u64 a0_0 a1_0,Go.bits .xor .u64 a0_1 a1_1)) = some (r1,r2):=h
 clear h
 simp only [Option.some.injEq,Prod.mk.injEq] at H
 obtain ⟨rfl,rfl⟩:=H
 go_enter Try.func40,Try.ntmps40
 go_wp2_with (first|((with_reducible refine zA (N:=2) rfl ?_);refine zy ?hg (N:=2) ?hd (cs:=#[.int .u64 a0_0,.int .u64 a0_1]) (t:=51) ?hr ?_;(case hd=>rfl);(case hg=>rfl);(case hr=>first|(go_simp;done)|(go_simp;rfl));intro gb101 hg w3 hbox hb;have n0_:=z3.mk (zc (by repeat (first|(with_reducible first|exact HB.out|apply z2|apply z0|apply z1)|exact HB.out)) hb);have n1_:=z3.mk (hbox);have n2_:=z3.mk ((by rw [hg];exact (zd (by repeat (first|(with_reducible first|exact HB.out|apply z2|apply z0|apply z1)|exact HB.out))) : w.heap.size ≤ gb101));have n3_:=z3.mk ((by rw [hg];exact (zd (by repeat (first|(with_reducible first|exact HB.out|apply z2|apply z0|apply z1)|exact HB.out))) : w.heap.size ≤ gb101));clear HB;have HB:=n0_;have BK101:=n1_;have GW101:=n2_;have GE101:=n3_;clear n0_ n1_ n2_ n3_;clear hb hbox hg)|((with_reducible refine zA (N:=3) rfl ?_);refine zy ?hg (N:=3) ?hd (cs:=#[.int .u64 a1_0,.int .u64 a1_1]) (t:=51) ?hr ?_;(case hd=>rfl);(case hg=>rfl);(case hr=>first|(go_simp;done)|(go_simp;rfl));intro gb102 hg w4 hbox hb;have n0_:=z3.mk (ze (g:=gb101) (o:=.cells #[.int .u64 a0_0,.int .u64 a0_1] 51 (0,0)) (by (with_reducible repeat (first|refine z5 ?_ _|refine z8 ?_|refine z4 ?_ _));exact BK101.out) hb);have n1_:=z3.mk (zc (by repeat (first|(with_reducible first|exact HB.out|apply z2|apply z0|apply z1|refine z7 ?_ GE101.out)|exact HB.out)) hb);have n2_:=z3.mk (hbox);have n3_:=z3.mk ((by rw [hg];exact (zd (by repeat (first|(with_reducible first|exact HB.out|apply z2|apply z0|apply z1|refine z7 ?_ GE101.out)|exact HB.out))) : w.heap.size ≤ gb102));have n4_:=z3.mk ((by rw [hg];exact (zd (by repeat (first|(with_reducible first|exact HB.out|apply z2|apply z0|apply z1|refine z7 ?_ GE101.out)|exact HB.out))) : w.heap.size ≤ gb102));have n5_:=z3.mk ((by rw [hg];exact Nat.ne_of_lt (zJ (g:=gb101) (o:=.cells #[.int .u64 a0_0,.int .u64 a0_1] 51 (0,0)) (by (with_reducible repeat (first|refine z5 ?_ _|refine z8 ?_|refine z4 ?_ _));exact BK101.out)) : gb101 ≠ gb102));have n6_:=z3.mk ((by rw [hg];exact Nat.ne_of_gt (zJ (g:=gb101) (o:=.cells #[.int .u64 a0_0,.int .u64 a0_1] 51 (0,0)) (by (with_reducible repeat (first|refine z5 ?_ _|refine z8 ?_|refine z4 ?_ _));exact BK101.out)) : gb102 ≠ gb101));clear BK101;clear HB;have BK101:=n0_;have HB:=n1_;have BK102:=n2_;have GW102:=n3_;have GE102:=n4_;have NB101_102:=n5_;have NB102_101:=n6_;clear n0_ n1_ n2_ n3_ n4_ n5_ n6_;clear hb hbox hg)|((with_reducible refine zA (N:=4) rfl ?_);refine zy ?hg (N:=4) ?hd (cs:=#[.int .u64 0,.int .u64 0]) (t:=51) ?hr ?_;(case hd=>rfl);(case hg=>rfl);(case hr=>first|(go_simp;done)|(go_simp;rfl));intro gb103 hg w5 hbox hb;have n0_:=z3.mk (ze (g:=gb101) (o:=.cells #[.int .u64 a0_0,.int .u64 a0_1] 51 (0,0)) (by (with_reducible repeat (first|refine z5 ?_ _|refine z8 ?_|refine z4 ?_ _));exact BK101.out) hb);have n1_:=z3.mk (ze (g:=gb102) (o:=.cells #[.int .u64 a1_0,.int .u64 a1_1] 51 (0,0)) (by (with_reducible repeat (first|refine z5 ?_ _|refine z8 ?_|refine z4 ?_ _));exact BK102.out) hb);have n2_:=z3.mk (zc (by repeat (first|(with_reducible first|exact HB.out|apply z2|apply z0|apply z1|refine z7 ?_ GE101.out|refine z7 ?_ GE102.out)|exact HB.out)) hb);have n3_:=z3.mk (hbox);have n4_:=z3.mk ((by rw [hg];exact (zd (by repeat (first|(with_reducible first|exact HB.out|apply z2|apply z0|apply z1|refine z7 ?_ GE101.out|refine z7 ?_ GE102.out)|exact HB.out))) : w.heap.size ≤ gb103));have n5_:=z3.mk ((by rw [hg];exact (zd (by repeat (first|(with_reducible first|exact HB.out|apply z2|apply z0|apply z1|refine z7 ?_ GE101.out|refine z7 ?_ GE102.out)|exact HB.out))) : w.heap.size ≤ gb103));have n6_:=z3.mk ((by rw [hg];exact Nat.ne_of_lt (zJ (g:=gb101) (o:=.cells #[.int .u64 a0_0,.int .u64 a0_1] 51 (0,0)) (by (with_reducible repeat (first|refine z5 ?_ _|refine z8 ?_|refine z4 ?_ _));exact BK101.out)) : gb101 ≠ gb103));have n7_:=z3.mk ((by rw [hg];exact Nat.ne_of_gt (zJ (g:=gb101) (o:=.cells #[.int .u64 a0_0,.int .u64 a0_1] 51 (0,0)) (by (with_reducible repeat (first|refine z5 ?_ _|refine z8 ?_|refine z4 ?_ _));exact BK101.out)) : gb103 ≠ gb101));have n8_:=z3.mk ((by rw [hg];exact Nat.ne_of_lt (zJ (g:=gb102) (o:=.cells #[.int .u64 a1_0,.int .u64 a1_1] 51 (0,0)) (by (with_reducible repeat (first|refine z5 ?_ _|refine z8 ?_|refine z4 ?_ _));exact BK102.out)) : gb102 ≠ gb103));have n9_:=z3.mk ((by rw [hg];exact Nat.ne_of_gt (zJ (g:=gb102) (o:=.cells #[.int .u64 a1_0,.int .u64 a1_1] 51 (0,0)) (by (with_reducible repeat (first|refine z5 ?_ _|refine z8 ?_|refine z4 ?_ _));exact BK102.out)) : gb103 ≠ gb102));clear BK101;clear BK102;clear HB;have BK101:=n0_;have BK102:=n1_;have HB:=n2_;have BK103:=n3_;have GW103:=n4_;have GE103:=n5_;have NB101_103:=n6_;have NB103_101:=n7_;have NB102_103:=n8_;have NB103_102:=n9_;clear n0_ n1_ n2_ n3_ n4_ n5_ n6_ n7_ n8_ n9_;clear hb hbox hg;have hnb6:=NB101_102.out;have hnc6:=NB102_101.out;have hnb7:=NB101_103.out;have hnc7:=NB103_101.out;have hcz8_0 : w5.cell? ⟨gb101,0,none⟩ = some (.int .u64 a0_0):=(za BK101.out 0).trans rfl;have hcz8_1 : w5.cell? ⟨gb101,1,none⟩ = some (.int .u64 a0_1):=(za BK101.out 1).trans rfl;have hfz8_0:=zb BK101.out 0;have hfz8_1:=zb BK101.out 1;have hnb9:=NB102_103.out;have hnc9:=NB103_102.out;have hcz10_0 : w5.cell? ⟨gb102,0,none⟩ = some (.int .u64 a1_0):=(za BK102.out 0).trans rfl;have hcz10_1 : w5.cell? ⟨gb102,1,none⟩ = some (.int .u64 a1_1):=(za BK102.out 1).trans rfl;have hfz10_0:=zb BK102.out 0;have hfz10_1:=zb BK102.out 1;have hcz11_0 : w5.cell? ⟨gb103,0,none⟩ = some (.int .u64 0):=(za BK103.out 0).trans rfl;have hcz11_1 : w5.cell? ⟨gb103,1,none⟩ = some (.int .u64 0):=(za BK103.out 1).trans rfl;have hfz11_0:=zb BK103.out 0;have hfz11_1:=zb BK103.out 1))
 refine bodyPost_ret (results_cell_row rfl _ _ gb103 51 #[.int .u64 (Go.bits .xor .u64 a0_0 a1_0),.int .u64 (Go.bits .xor .u64 a0_1 a1_1)] (0,0) _ rfl (by (with_reducible repeat (first|refine z5 ?_ _|refine z8 ?_|refine z4 ?_ _));refine zH (cs:=#[.int .u64 (Go.bits .xor .u64 a0_0 a1_0),.int .u64 0]) ?_ 1 _ rfl;(with_reducible repeat (first|refine z5 ?_ _|refine z8 ?_|refine z4 ?_ _));refine zH (cs:=#[.int .u64 0,.int .u64 0]) ?_ 0 _ rfl;(with_reducible repeat (first|refine z5 ?_ _|refine z8 ?_|refine z4 ?_ _));exact BK103.out) Try.underlying51 rfl (by kernel_rfl)) rfl ?_
 exact ⟨by first|rfl|(simp [zf,zg] <;> rfl)|(simp [*,zf,zg] <;> rfl),by repeat (first|(with_reducible first|exact HB.out|apply z2|apply z0|apply z1|refine z7 ?_ GE101.out|refine z7 ?_ GE102.out|refine z7 ?_ GE103.out)|exact HB.out)⟩
end Go.Proofs.Ytngcaphdkgihmaa.P
namespace Go.Proofs.Ytngcaphdkgihmaa.P
open Go.RowKit Go.Proofs.YtngcaphdkgihmaaW.PrintWords Go.Proofs.YtngcaphdkgihmaaW.PrintLast Go.Proofs.YtngcaphdkgihmaaW.PrintMore
attribute [local go_sem] zS zU z12 z13 zK zL zT zV   -- for this text's walks alone
set_option linter.unusedVariables false
set_option linter.unusedSimpArgs false
def z1b.f (a0 : Int) (a1 : Int) : Option (Int × Int):=if 0 ≤ (wrap64 (a0 - 1)) then (if 0 ≤ (shl .i64 1 (wrap64 (a0 - 1))) then (some (shr .u64 a1 (shl .i64 1 (wrap64 (a0 - 1))),Go.bits .and .u64 a1 (IntKind.u64.wrap ((shl .u64 1 (shl .i64 1 (wrap64 (a0 - 1)))) - 1)))) else (none)) else (none)
set_option maxHeartbeats 8000000 in
set_option maxRecDepth 100000 in
theorem z1b.calls (a0 : Int) (a1 : Int) (r1 : Int) (r2 : Int) (w : World) (h : z1b.f a0 a1 = some (r1,r2)) :
 Calls Try.prog 96 #[.int .i64 a0,.int .u64 a1] w fun e w'=>e = .returned (.tuple #[.int .u64 r1,.int .u64 r2]) ∧ Drawn0 w w':=by
 have H : (if 0 ≤ (wrap64 (a0 - 1)) then (if 0 ≤ (shl .i64 1 (wrap64 (a0 - 1))) then (some (shr .u64 a1 (shl .i64 1 (wrap64 (a0 - 1))),Go.bits .and .u64 a1 (IntKind.u64.wrap ((shl .u64 1 (shl .i64 1 (wrap64 (a0 - 1)))) - 1)))) else (none)) else (none)) = some (r1,r2):=h
 clear h
 obtain ⟨ji3,hji3⟩ : ∃ j_ : Int,(wrap64 (a0 - 1)) = j_:=⟨_,rfl⟩
 replace H : (if 0 ≤ (ji3) then (if 0 ≤ (shl .i64 1 (ji3)) then (some (shr .u64 a1 (shl .i64 1 (ji3)),Go.bits .and .u64 a1 (IntKind.u64.wrap ((shl .u64 1 (shl .i64 1 (ji3))) - 1)))) else (none)) else (none)) = some (r1,r2):=by first|(rw [hji3] at H;exact H)|(simp only [hji3] at H ⊢;exact H)
 have hji3w : (IntKind.i64.wrap (a0 - 1)) = ji3:=(zD _).trans hji3
 by_cases c4 : 0 ≤ (ji3)
 rotate_left
 · rw [if_neg c4] at H
   exact absurd H (by simp)
 rw [if_pos c4] at H
 have c4b0:=eq_true c4
 have c4b1 : decide (0 ≤ (ji3)) = true:=decide_eq_true c4
 clear c4
 obtain ⟨ji5,hji5⟩ : ∃ j_ : Int,(shl .i64 1 (ji3)) = j_:=⟨_,rfl⟩
 replace H : (if 0 ≤ (ji5) then (some (shr .u64 a1 (ji5),Go.bits .and .u64 a1 (IntKind.u64.wrap ((shl .u64 1 (ji5)) - 1)))) else (none)) = some (r1,r2):=by first|(rw [hji5] at H;exact H)|(simp only [hji5] at H ⊢;exact H)
 have hji5_ : (IntKind.i64.wrap (1 * 2 ^ min (ji3).toNat 64)) = ji5:=hji5
 have hji5z : (ji3) ≤ 64 → (IntKind.i64.wrap (1 * 2 ^ (ji3).toNat)) = ji5:=z1q hji5
 have hji5u : (IntKind.i64.wrap (2 ^ min (ji3).toNat 64)) = ji5:=by have h_:=hji5_;rw [Int.one_mul] at h_;exact h_
 have hji5v : (ji3) ≤ 64 → (IntKind.i64.wrap (2 ^ (ji3).toNat)) = ji5:=fun hle_=>by have h_:=hji5z hle_;rw [Int.one_mul] at h_;exact h_
 have hji5y : (wrap64 (1 * 2 ^ min (ji3).toNat 64)) = ji5:=(zD _).symm.trans hji5_
 have hji5x : (ji3) ≤ 64 → (wrap64 (1 * 2 ^ (ji3).toNat)) = ji5:=fun h_=>(zD _).symm.trans (hji5z h_)
 by_cases c6 : 0 ≤ (ji5)
 rotate_left
 · rw [if_neg c6] at H
   exact absurd H (by simp)
 rw [if_pos c6] at H
 have c6b0:=eq_true c6
 have c6b1 : decide (0 ≤ (ji5)) = true:=decide_eq_true c6
 clear c6
 obtain ⟨ji7,hji7⟩ : ∃ j_ : Int,(shr .u64 a1 (ji5)) = j_:=⟨_,rfl⟩
 replace H : (some (ji7,Go.bits .and .u64 a1 (IntKind.u64.wrap ((shl .u64 1 (ji5)) - 1)))) = some (r1,r2):=by first|(rw [hji7] at H;exact H)|(simp only [hji7] at H ⊢;exact H)
 have hji7_ : (a1 / 2 ^ min (ji5).toNat 64) = ji7:=hji7
 have hji7z : (ji5) ≤ 64 → (a1 / 2 ^ (ji5).toNat) = ji7:=z1M hji7
 have c8b0:=eq_true (of_decide_eq_true (by first|(with_reducible assumption)|assumption) : 0 ≤ (ji5))
 obtain ⟨ji9,hji9⟩ : ∃ j_ : Int,(shl .u64 1 (ji5)) = j_:=⟨_,rfl⟩
 replace H : (some (ji7,Go.bits .and .u64 a1 (IntKind.u64.wrap ((ji9) - 1)))) = some (r1,r2):=by first|(rw [hji9] at H;exact H)|(simp only [hji9] at H ⊢;exact H)
 have hji9_ : (IntKind.u64.wrap (1 * 2 ^ min (ji5).toNat 64)) = ji9:=hji9
 have hji9z : (ji5) ≤ 64 → (IntKind.u64.wrap (1 * 2 ^ (ji5).toNat)) = ji9:=z1q hji9
 have hji9n0 : 0 ≤ ji9:=by rw [← hji9];exact Int.emod_nonneg _ (by decide)
 have hji9n1 : decide (0 ≤ ji9) = true:=decide_eq_true hji9n0
 replace hji9n0:=eq_true hji9n0
 have hji9u : (IntKind.u64.wrap (2 ^ min (ji5).toNat 64)) = ji9:=by have h_:=hji9_;rw [Int.one_mul] at h_;exact h_
 have hji9v : (ji5) ≤ 64 → (IntKind.u64.wrap (2 ^ (ji5).toNat)) = ji9:=fun hle_=>by have h_:=hji9z hle_;rw [Int.one_mul] at h_;exact h_
 simp only [Option.some.injEq,Prod.mk.injEq] at H
 obtain ⟨rfl,rfl⟩:=H
 go_enter Try.func96,Try.ntmps96
 go_wp2
 repeat (go_quiet (fail);try go_wp2)
 go_ret2
 exact ⟨by first|rfl|(simp;done)|(simp only [← hji3,← hji5,← hji7,← hji9] <;> (first|rfl|simp))|(simp [*];done),by repeat (first|exact Drawn0.refl _|apply Drawn0.step)⟩
end Go.Proofs.Ytngcaphdkgihmaa.P
namespace Go.Proofs.Ytngcaphdkgihmaa.P
open Go.RowKit Go.Proofs.YtngcaphdkgihmaaW.PrintWords Go.Proofs.YtngcaphdkgihmaaW.PrintLast Go.Proofs.YtngcaphdkgihmaaW.PrintMore
attribute [local go_sem] zS zU z12 z13 zK zL zT zV   -- for this text's walks alone
set_option linter.unusedVariables false
set_option linter.unusedSimpArgs false
def z1c.f (a0 : Int) (a1 : Int) (a2 : Int) : Option (Int):=if 0 ≤ (wrap64 (a0 - 1)) then (some (Go.bits .or .u64 (shl .u64 a1 (shl .u64 1 (wrap64 (a0 - 1)))) a2)) else (none)
set_option maxHeartbeats 8000000 in
set_option maxRecDepth 100000 in
theorem z1c.calls (a0 : Int) (a1 : Int) (a2 : Int) (r : Int) (w : World) (h : z1c.f a0 a1 a2 = some r) :
 Calls Try.prog 97 #[.int .i64 a0,.int .u64 a1,.int .u64 a2] w fun e w'=>e = .returned (.int .u64 r) ∧ Drawn0 w w':=by
 have H : (if 0 ≤ (wrap64 (a0 - 1)) then (some (Go.bits .or .u64 (shl .u64 a1 (shl .u64 1 (wrap64 (a0 - 1)))) a2)) else (none)) = some r:=h
 clear h
 obtain ⟨ji4,hji4⟩ : ∃ j_ : Int,(wrap64 (a0 - 1)) = j_:=⟨_,rfl⟩
 replace H : (if 0 ≤ (ji4) then (some (Go.bits .or .u64 (shl .u64 a1 (shl .u64 1 (ji4))) a2)) else (none)) = some r:=by first|(rw [hji4] at H;exact H)|(simp only [hji4] at H ⊢;exact H)
 have hji4w : (IntKind.i64.wrap (a0 - 1)) = ji4:=(zD _).trans hji4
 by_cases c5 : 0 ≤ (ji4)
 rotate_left
 · rw [if_neg c5] at H
   exact absurd H (by simp)
 rw [if_pos c5] at H
 have c5b0:=eq_true c5
 have c5b1 : decide (0 ≤ (ji4)) = true:=decide_eq_true c5
 clear c5
 obtain ⟨ji6,hji6⟩ : ∃ j_ : Int,(shl .u64 1 (ji4)) = j_:=⟨_,rfl⟩
 replace H : (some (Go.bits .or .u64 (shl .u64 a1 (ji6)) a2)) = some r:=by first|(rw [hji6] at H;exact H)|(simp only [hji6] at H ⊢;exact H)
 have hji6_ : (IntKind.u64.wrap (1 * 2 ^ min (ji4).toNat 64)) = ji6:=hji6
 have hji6z : (ji4) ≤ 64 → (IntKind.u64.wrap (1 * 2 ^ (ji4).toNat)) = ji6:=z1q hji6
 have hji6n0 : 0 ≤ ji6:=by rw [← hji6];exact Int.emod_nonneg _ (by decide)
 have hji6n1 : decide (0 ≤ ji6) = true:=decide_eq_true hji6n0
 replace hji6n0:=eq_true hji6n0
 have hji6u : (IntKind.u64.wrap (2 ^ min (ji4).toNat 64)) = ji6:=by have h_:=hji6_;rw [Int.one_mul] at h_;exact h_
 have hji6v : (ji4) ≤ 64 → (IntKind.u64.wrap (2 ^ (ji4).toNat)) = ji6:=fun hle_=>by have h_:=hji6z hle_;rw [Int.one_mul] at h_;exact h_
 obtain ⟨ji7,hji7⟩ : ∃ j_ : Int,(shl .u64 a1 (ji6)) = j_:=⟨_,rfl⟩
 replace H : (some (Go.bits .or .u64 (ji7) a2)) = some r:=by first|(rw [hji7] at H;exact H)|(simp only [hji7] at H ⊢;exact H)
 have hji7_ : (IntKind.u64.wrap (a1 * 2 ^ min (ji6).toNat 64)) = ji7:=hji7
 have hji7z : (ji6) ≤ 64 → (IntKind.u64.wrap (a1 * 2 ^ (ji6).toNat)) = ji7:=z1q hji7
 have hji7n0 : 0 ≤ ji7:=by rw [← hji7];exact Int.emod_nonneg _ (by decide)
 have hji7n1 : decide (0 ≤ ji7) = true:=decide_eq_true hji7n0
 replace hji7n0:=eq_true hji7n0
 obtain rfl:=Option.some.inj H
 go_enter Try.func97,Try.ntmps97
 go_wp2
 go_ret
 exact ⟨by first|rfl|(simp;done)|(simp only [← hji4,← hji6,← hji7] <;> (first|rfl|simp))|(simp [*];done),by repeat (first|exact Drawn0.refl _|apply Drawn0.step)⟩
end Go.Proofs.Ytngcaphdkgihmaa.P
namespace Go.Proofs.Ytngcaphdkgihmaa.P
open Go.RowKit Go.Proofs.YtngcaphdkgihmaaW.PrintWords Go.Proofs.YtngcaphdkgihmaaW.PrintLast Go.Proofs.YtngcaphdkgihmaaW.PrintMore
attribute [local go_sem] zS zU z12 z13 zK zL zT zV   -- for this text's walks alone
set_option linter.unusedVariables false
set_option linter.unusedSimpArgs false
def zC.f : Nat → Int → Int → Option (Int)
 | 0,_,_=>none
 | k + 1,a0,a1=>if a0 = 0 then (some a1) else ((z1b.f a0 a1).bind fun bt101=>((zC.f k (wrap64 (a0 - 1)) bt101.1).bind fun t103=>((z1c.f a0 (Go.bits .xor .u64 bt101.2 t103) bt101.1).bind fun t104=>(some t104))))
theorem zC.zX : ∀ k,(∀ y0 y1,LeO (zC.f k y0 y1) (zC.f (k + 1) y0 y1))
 | 0=>fun _ _ r h=>by simp [zC.f] at h
 | k + 1=>by
  have ih0:=zC.zX k
  · intro y0 y1
    unfold zC.f
    repeat' first
    | (with_reducible exact ih0 _ _)
    | (with_reducible exact LeO.refl _)
    | (with_reducible exact LeO.none _)
    | (with_reducible refine LeO.ite ?_ ?_)
    | (with_reducible refine LeO.bind ?_ (fun _=>?_))
    | exact ih0 _ _
    | exact LeO.none _
    | refine LeO.ite ?_ ?_
    | refine LeO.bind ?_ (fun _=>?_)
theorem zC.mono : ∀ a0 a1 k,LeO (zC.f k a0 a1) (zC.f (k + 1) a0 a1):=by
 intro a0 a1 k
 have ih0:=zC.zX k
 exact ih0 a0 a1
set_option maxHeartbeats 8000000 in
set_option maxRecDepth 100000 in
theorem zC.calls (k : Nat) : ∀ (a0 : Int) (a1 : Int) (r : Int) (w : World) (h : zC.f k a0 a1 = some r),
 Calls Try.prog 83 #[.int .i64 a0,.int .u64 a1] w fun e w'=>e = .returned (.int .u64 r) ∧ Drawn0 w w':=by
 induction k using Nat.strongRecOn with
 | _ k ih =>
 intro a0 a1 r w h
 cases k with
 | zero=>exact absurd h (by simp [zC.f])
 | succ k =>
 simp only [zC.f] at h
 have H : (if a0 = 0 then (some a1) else ((z1b.f a0 a1).bind fun bt101=>((zC.f k (wrap64 (a0 - 1)) bt101.1).bind fun t103=>((z1c.f a0 (Go.bits .xor .u64 bt101.2 t103) bt101.1).bind fun t104=>(some t104))))) = some r:=h
 clear h
 by_cases c3 : a0 = 0
 · rw [if_pos c3] at H
   have c3b0 : (a0 == 0) = true:=beq_iff_eq.mpr c3
   have c3b1 : (a0 != 0) = false:=bne_eq_false_iff_eq.mpr c3
   clear c3
   obtain rfl:=Option.some.inj H
   go_enter Try.func83,Try.ntmps83
   go_wp2
   go_ret
   exact ⟨by first|rfl|(simp;done)|(simp [*];done),by repeat (first|exact Drawn0.refl _|apply Drawn0.step)⟩
 rw [if_neg c3] at H
 have c3b0 : (a0 == 0) = false:=beq_eq_false_iff_ne.mpr c3
 have c3b1 : (a0 != 0) = true:=bne_iff_ne.mpr c3
 replace H:=Option.bind_eq_some_iff.mp H
 obtain ⟨⟨t101,t102⟩,A40,H⟩:=H
 replace H : ((zC.f k (wrap64 (a0 - 1)) t101).bind fun t103=>((z1c.f a0 (Go.bits .xor .u64 t102 t103) t101).bind fun t104=>(some t104))) = some r:=H
 have A4:=z3.mk A40
 clear A40
 replace H:=Option.bind_eq_some_iff.mp H
 obtain ⟨t103,A50,H⟩:=H
 replace H : ((z1c.f a0 (Go.bits .xor .u64 t102 t103) t101).bind fun t104=>(some t104)) = some r:=H
 have A5:=z3.mk A50
 clear A50
 replace H:=Option.bind_eq_some_iff.mp H
 obtain ⟨t104,A60,H⟩:=H
 replace H : (some t104) = some r:=H
 have A6:=z3.mk A60
 clear A60
 obtain rfl:=Option.some.inj H
 go_enter Try.func83,Try.ntmps83
 go_wp2_with (first|((with_reducible refine zt (f:=96) rfl ?_);refine goesL_ (some 13) rfl rfl Try.func96 (by kernel_rfl) rfl #[.int .i64 a0,.int .u64 a1] rfl (by (try simp only [List.map_toArray,List.map_cons,List.map_nil]);first|done|rfl|(simp only [List.length_drop,List.length_take];rfl)) ?_;(with_reducible refine (z1b.calls a0 a1 t101 t102 _ A4.out).mono ?_);rintro e w' ⟨rfl,⟨nd,rfl⟩⟩;refine ⟨_,rfl,?_⟩)|((with_reducible refine zt (f:=83) rfl ?_);refine goesL_ (some 21) rfl rfl Try.func83 (by kernel_rfl) rfl #[.int .i64 (wrap64 (a0 - 1)),.int .u64 t101] rfl (by (try simp only [List.map_toArray,List.map_cons,List.map_nil]);first|done|rfl|(simp only [List.length_drop,List.length_take];rfl)) ?_;(with_reducible refine (ih k (by omega) (wrap64 (a0 - 1)) t101 t103 _ A5.out).mono ?_);rintro e w' ⟨rfl,⟨nd,rfl⟩⟩;refine ⟨_,rfl,?_⟩)|((with_reducible refine zt (f:=97) rfl ?_);refine goesL_ (some 24) rfl rfl Try.func97 (by kernel_rfl) rfl #[.int .i64 a0,.int .u64 (Go.bits .xor .u64 t102 t103),.int .u64 t101] rfl (by (try simp only [List.map_toArray,List.map_cons,List.map_nil]);first|done|rfl|(simp only [List.length_drop,List.length_take];rfl)) ?_;(with_reducible refine (z1c.calls a0 (Go.bits .xor .u64 t102 t103) t101 t104 _ A6.out).mono ?_);rintro e w' ⟨rfl,⟨nd,rfl⟩⟩;refine ⟨_,rfl,?_⟩))
 go_ret
 exact ⟨by first|rfl|(simp;done)|(simp [*];done),by repeat (first|exact Drawn0.refl _|apply Drawn0.step)⟩
end Go.Proofs.Ytngcaphdkgihmaa.P
namespace Go.Proofs.Ytngcaphdkgihmaa.P
open Go.RowKit Go.Proofs.YtngcaphdkgihmaaW.PrintWords Go.Proofs.YtngcaphdkgihmaaW.PrintLast Go.Proofs.YtngcaphdkgihmaaW.PrintMore
attribute [local go_sem] zS zU z12 z13 zK zL zT zV   -- for this text's walks alone
set_option linter.unusedVariables false
set_option linter.unusedSimpArgs false
mutual
def zv.j0 : Nat → Int → Int → Int → Bool → Option (Int)
 | 0,_,_,_,_=>none
 | k + 1,x0,x1,x2,x23=>if x23 = true then (some (Go.bits .and .u64 (Go.bits .and .u64 x1 x2) 1)) else ((z1b.f x0 x1).bind fun bt101=>((z1b.f x0 x2).bind fun bt103=>((zv.f k (wrap64 (x0 - 1)) bt101.1 bt103.1).bind fun t105=>((zv.f k (wrap64 (x0 - 1)) bt101.2 bt103.2).bind fun t106=>((zv.f k (wrap64 (x0 - 1)) (Go.bits .xor .u64 bt101.1 bt101.2) (Go.bits .xor .u64 bt103.1 bt103.2)).bind fun t107=>((zC.f k (wrap64 (x0 - 1)) t105).bind fun t108=>((z1c.f x0 (Go.bits .xor .u64 (Go.bits .xor .u64 (Go.bits .xor .u64 t107 t105) t106) t108) (Go.bits .xor .u64 t106 t105)).bind fun t109=>(some t109))))))))
def zv.f : Nat → Int → Int → Int → Option (Int)
 | 0,_,_,_=>none
 | k + 1,a0,a1,a2=>if a0 = 0 then (zv.j0 k a0 a1 a2 true) else (if a1 = 0 then (zv.j0 k a0 a1 a2 true) else (zv.j0 k a0 a1 a2 (a2 == 0)))
end
theorem zv.zX : ∀ k,(∀ y0 y1 y2,LeO (zv.f k y0 y1 y2) (zv.f (k + 1) y0 y1 y2)) ∧ (∀ y0 y1 y2 y3,LeO (zv.j0 k y0 y1 y2 y3) (zv.j0 (k + 1) y0 y1 y2 y3))
 | 0=>⟨fun _ _ _ r h=>by simp [zv.f] at h,fun _ _ _ _ r h=>by simp [zv.j0] at h⟩
 | k + 1=>by
  obtain ⟨ih0,ih1⟩:=zv.zX k
  refine ⟨?_,?_⟩
  · intro y0 y1 y2
    unfold zv.f
    repeat' first
    | (with_reducible exact ih0 _ _ _)
    | (with_reducible exact ih1 _ _ _ _)
    | (with_reducible exact zC.mono _ _ _)
    | (with_reducible exact LeO.refl _)
    | (with_reducible exact LeO.none _)
    | (with_reducible refine LeO.ite ?_ ?_)
    | (with_reducible refine LeO.bind ?_ (fun _=>?_))
    | exact ih0 _ _ _
    | exact ih1 _ _ _ _
    | exact zC.mono _ _ _
    | exact LeO.none _
    | refine LeO.ite ?_ ?_
    | refine LeO.bind ?_ (fun _=>?_)
  · intro y0 y1 y2 y3
    unfold zv.j0
    repeat' first
    | (with_reducible exact ih0 _ _ _)
    | (with_reducible exact ih1 _ _ _ _)
    | (with_reducible exact zC.mono _ _ _)
    | (with_reducible exact LeO.refl _)
    | (with_reducible exact LeO.none _)
    | (with_reducible refine LeO.ite ?_ ?_)
    | (with_reducible refine LeO.bind ?_ (fun _=>?_))
    | exact ih0 _ _ _
    | exact ih1 _ _ _ _
    | exact zC.mono _ _ _
    | exact LeO.none _
    | refine LeO.ite ?_ ?_
    | refine LeO.bind ?_ (fun _=>?_)
theorem zv.mono : ∀ a0 a1 a2 k,LeO (zv.f k a0 a1 a2) (zv.f (k + 1) a0 a1 a2):=by
 intro a0 a1 a2 k
 obtain ⟨ih0,ih1⟩:=zv.zX k
 exact ih0 a0 a1 a2
set_option maxHeartbeats 8000000 in
set_option maxRecDepth 100000 in
theorem zv.calls (k : Nat) : ∀ (a0 : Int) (a1 : Int) (a2 : Int) (r : Int) (w : World) (h : zv.f k a0 a1 a2 = some r),
 Calls Try.prog 82 #[.int .i64 a0,.int .u64 a1,.int .u64 a2] w fun e w'=>e = .returned (.int .u64 r) ∧ Drawn0 w w':=by
 induction k using Nat.strongRecOn with
 | _ k ih =>
 intro a0 a1 a2 r w h
 cases k with
 | zero=>exact absurd h (by simp [zv.f])
 | succ k =>
 simp only [zv.f] at h
 have H : (if a0 = 0 then (zv.j0 k a0 a1 a2 true) else (if a1 = 0 then (zv.j0 k a0 a1 a2 true) else (zv.j0 k a0 a1 a2 (a2 == 0)))) = some r:=h
 clear h
 have HC4:=z3.mk H
 clear H
 go_enter Try.func82,Try.ntmps82
 go_upto_region 1 with (fail)
 go_cut [23] (fun v23 wc=>∃ (kq : Nat) (x23_3 : Bool),v23 = .bool x23_3 ∧ z3 (zv.j0 kq a0 a1 a2 x23_3 = some r) ∧ z3 (kq ≤ k) ∧ Drawn0 w wc)
 case first =>
  have H:=HC4.out
  clear HC4
  by_cases c5 : a0 = 0
  · rw [if_pos c5] at H
    have c5b0 : (a0 == 0) = true:=beq_iff_eq.mpr c5
    have c5b1 : (a0 != 0) = false:=bne_eq_false_iff_eq.mpr c5
    clear c5
    (first|rw [c5b0]|(simp only [zD,zF];rw [c5b0])|skip)
    have H':=z3.mk H
    clear H
    go_wp2
    go_meet
    case rel=>exact ⟨_,(true),(by first|rfl|(simp;done)|(simp [*];done)),H',⟨by first|omega|exact Nat.le_refl _⟩,by repeat (first|exact Drawn0.refl _|apply Drawn0.step)⟩
  rw [if_neg c5] at H
  have c5b0 : (a0 == 0) = false:=beq_eq_false_iff_ne.mpr c5
  have c5b1 : (a0 != 0) = true:=bne_iff_ne.mpr c5
  (first|rw [c5b0]|(simp only [zD,zF];rw [c5b0])|skip)
  by_cases c6 : a1 = 0
  rotate_left
  · rw [if_neg c6] at H
    have c6b0 : (a1 == 0) = false:=beq_eq_false_iff_ne.mpr c6
    have c6b1 : (a1 != 0) = true:=bne_iff_ne.mpr c6
    have H':=z3.mk H
    clear H
    go_wp2
    go_meet
    case rel=>exact ⟨_,((a2 == 0)),(by first|rfl|(simp;done)|(simp [*];done)),H',⟨by first|omega|exact Nat.le_refl _⟩,by repeat (first|exact Drawn0.refl _|apply Drawn0.step)⟩
  rw [if_pos c6] at H
  have c6b0 : (a1 == 0) = true:=beq_iff_eq.mpr c6
  have c6b1 : (a1 != 0) = false:=bne_eq_false_iff_eq.mpr c6
  clear c6
  have H':=z3.mk H
  clear H
  go_wp2
  go_meet
  case rel=>exact ⟨_,(true),(by first|rfl|(simp;done)|(simp [*];done)),H',⟨by first|omega|exact Nat.le_refl _⟩,by repeat (first|exact Drawn0.refl _|apply Drawn0.step)⟩
 case rest =>
  clear HC4
  (try clear p2);(try clear c5);(try clear c5b0);(try clear c5b1);(try clear c6);(try clear c6b0);(try clear c6b1)
  obtain ⟨kq,x23_3,rfl,HA,HJ3,⟨mc3,rfl⟩⟩:=hcut
  cases kq with
  | zero=>exact absurd HA.out (by simp [zv.j0])
  | succ kj3 =>
   have H:=HA.out
   clear HA
   simp only [zv.j0] at H
   by_cases c7 : x23_3 = true
   · subst c7
     have H1 : (some (Go.bits .and .u64 (Go.bits .and .u64 a1 a2) 1)) = some r:=by rw [if_pos rfl] at H;exact H
     clear H
     have H:=H1
     clear H1
     obtain rfl:=Option.some.inj H
     go_wp2
     go_ret
     exact ⟨by first|rfl|(simp;done)|(simp [*];done),by repeat (first|exact Drawn0.refl _|apply Drawn0.step)⟩
   replace c7:=Bool.eq_false_iff.mpr c7
   subst c7
   have H1 : ((z1b.f a0 a1).bind fun bt101=>((z1b.f a0 a2).bind fun bt103=>((zv.f kj3 (wrap64 (a0 - 1)) bt101.1 bt103.1).bind fun t105=>((zv.f kj3 (wrap64 (a0 - 1)) bt101.2 bt103.2).bind fun t106=>((zv.f kj3 (wrap64 (a0 - 1)) (Go.bits .xor .u64 bt101.1 bt101.2) (Go.bits .xor .u64 bt103.1 bt103.2)).bind fun t107=>((zC.f kj3 (wrap64 (a0 - 1)) t105).bind fun t108=>((z1c.f a0 (Go.bits .xor .u64 (Go.bits .xor .u64 (Go.bits .xor .u64 t107 t105) t106) t108) (Go.bits .xor .u64 t106 t105)).bind fun t109=>(some t109)))))))) = some r:=by rw [if_neg (show ¬ (false = true) by decide)] at H;exact H
   clear H
   have H:=H1
   clear H1
   replace H:=Option.bind_eq_some_iff.mp H
   obtain ⟨⟨t101,t102⟩,A80,H⟩:=H
   replace H : ((z1b.f a0 a2).bind fun bt103=>((zv.f kj3 (wrap64 (a0 - 1)) t101 bt103.1).bind fun t105=>((zv.f kj3 (wrap64 (a0 - 1)) t102 bt103.2).bind fun t106=>((zv.f kj3 (wrap64 (a0 - 1)) (Go.bits .xor .u64 t101 t102) (Go.bits .xor .u64 bt103.1 bt103.2)).bind fun t107=>((zC.f kj3 (wrap64 (a0 - 1)) t105).bind fun t108=>((z1c.f a0 (Go.bits .xor .u64 (Go.bits .xor .u64 (Go.bits .xor .u64 t107 t105) t106) t108) (Go.bits .xor .u64 t106 t105)).bind fun t109=>(some t109))))))) = some r:=H
   have A8:=z3.mk A80
   clear A80
   replace H:=Option.bind_eq_some_iff.mp H
   obtain ⟨⟨t103,t104⟩,A90,H⟩:=H
   replace H : ((zv.f kj3 (wrap64 (a0 - 1)) t101 t103).bind fun t105=>((zv.f kj3 (wrap64 (a0 - 1)) t102 t104).bind fun t106=>((zv.f kj3 (wrap64 (a0 - 1)) (Go.bits .xor .u64 t101 t102) (Go.bits .xor .u64 t103 t104)).bind fun t107=>((zC.f kj3 (wrap64 (a0 - 1)) t105).bind fun t108=>((z1c.f a0 (Go.bits .xor .u64 (Go.bits .xor .u64 (Go.bits .xor .u64 t107 t105) t106) t108) (Go.bits .xor .u64 t106 t105)).bind fun t109=>(some t109)))))) = some r:=H
   have A9:=z3.mk A90
   clear A90
   replace H:=Option.bind_eq_some_iff.mp H
   obtain ⟨t105,A100,H⟩:=H
   replace H : ((zv.f kj3 (wrap64 (a0 - 1)) t102 t104).bind fun t106=>((zv.f kj3 (wrap64 (a0 - 1)) (Go.bits .xor .u64 t101 t102) (Go.bits .xor .u64 t103 t104)).bind fun t107=>((zC.f kj3 (wrap64 (a0 - 1)) t105).bind fun t108=>((z1c.f a0 (Go.bits .xor .u64 (Go.bits .xor .u64 (Go.bits .xor .u64 t107 t105) t106) t108) (Go.bits .xor .u64 t106 t105)).bind fun t109=>(some t109))))) = some r:=H
   have A10:=z3.mk A100
   clear A100
   replace H:=Option.bind_eq_some_iff.mp H
   obtain ⟨t106,A110,H⟩:=H
   replace H : ((zv.f kj3 (wrap64 (a0 - 1)) (Go.bits .xor .u64 t101 t102) (Go.bits .xor .u64 t103 t104)).bind fun t107=>((zC.f kj3 (wrap64 (a0 - 1)) t105).bind fun t108=>((z1c.f a0 (Go.bits .xor .u64 (Go.bits .xor .u64 (Go.bits .xor .u64 t107 t105) t106) t108) (Go.bits .xor .u64 t106 t105)).bind fun t109=>(some t109)))) = some r:=H
   have A11:=z3.mk A110
   clear A110
   replace H:=Option.bind_eq_some_iff.mp H
   obtain ⟨t107,A120,H⟩:=H
   replace H : ((zC.f kj3 (wrap64 (a0 - 1)) t105).bind fun t108=>((z1c.f a0 (Go.bits .xor .u64 (Go.bits .xor .u64 (Go.bits .xor .u64 t107 t105) t106) t108) (Go.bits .xor .u64 t106 t105)).bind fun t109=>(some t109))) = some r:=H
   have A12:=z3.mk A120
   clear A120
   replace H:=Option.bind_eq_some_iff.mp H
   obtain ⟨t108,A130,H⟩:=H
   replace H : ((z1c.f a0 (Go.bits .xor .u64 (Go.bits .xor .u64 (Go.bits .xor .u64 t107 t105) t106) t108) (Go.bits .xor .u64 t106 t105)).bind fun t109=>(some t109)) = some r:=H
   have A13:=z3.mk A130
   clear A130
   replace H:=Option.bind_eq_some_iff.mp H
   obtain ⟨t109,A140,H⟩:=H
   replace H : (some t109) = some r:=H
   have A14:=z3.mk A140
   clear A140
   obtain rfl:=Option.some.inj H
   go_wp2_with (first|((with_reducible refine zt (f:=96) rfl ?_);refine goesL_ (some 31) rfl rfl Try.func96 (by kernel_rfl) rfl #[.int .i64 a0,.int .u64 a1] rfl (by (try simp only [List.map_toArray,List.map_cons,List.map_nil]);first|done|rfl|(simp only [List.length_drop,List.length_take];rfl)) ?_;(with_reducible refine (z1b.calls a0 a1 t101 t102 _ A8.out).mono ?_);rintro e w' ⟨rfl,⟨nd,rfl⟩⟩;refine ⟨_,rfl,?_⟩)|((with_reducible refine zt (f:=96) rfl ?_);refine goesL_ (some 37) rfl rfl Try.func96 (by kernel_rfl) rfl #[.int .i64 a0,.int .u64 a2] rfl (by (try simp only [List.map_toArray,List.map_cons,List.map_nil]);first|done|rfl|(simp only [List.length_drop,List.length_take];rfl)) ?_;(with_reducible refine (z1b.calls a0 a2 t103 t104 _ A9.out).mono ?_);rintro e w' ⟨rfl,⟨nd,rfl⟩⟩;refine ⟨_,rfl,?_⟩)|((with_reducible refine zt (f:=82) rfl ?_);refine goesL_ (some 44) rfl rfl Try.func82 (by kernel_rfl) rfl #[.int .i64 (wrap64 (a0 - 1)),.int .u64 t101,.int .u64 t103] rfl (by (try simp only [List.map_toArray,List.map_cons,List.map_nil]);first|done|rfl|(simp only [List.length_drop,List.length_take];rfl)) ?_;(with_reducible refine (ih kj3 (by have:=HJ3.out;omega) (wrap64 (a0 - 1)) t101 t103 t105 _ A10.out).mono ?_);rintro e w' ⟨rfl,⟨nd,rfl⟩⟩;refine ⟨_,rfl,?_⟩)|((with_reducible refine zt (f:=82) rfl ?_);refine goesL_ (some 49) rfl rfl Try.func82 (by kernel_rfl) rfl #[.int .i64 (wrap64 (a0 - 1)),.int .u64 t102,.int .u64 t104] rfl (by (try simp only [List.map_toArray,List.map_cons,List.map_nil]);first|done|rfl|(simp only [List.length_drop,List.length_take];rfl)) ?_;(with_reducible refine (ih kj3 (by have:=HJ3.out;omega) (wrap64 (a0 - 1)) t102 t104 t106 _ A11.out).mono ?_);rintro e w' ⟨rfl,⟨nd,rfl⟩⟩;refine ⟨_,rfl,?_⟩)|((with_reducible refine zt (f:=82) rfl ?_);refine goesL_ (some 58) rfl rfl Try.func82 (by kernel_rfl) rfl #[.int .i64 (wrap64 (a0 - 1)),.int .u64 (Go.bits .xor .u64 t101 t102),.int .u64 (Go.bits .xor .u64 t103 t104)] rfl (by (try simp only [List.map_toArray,List.map_cons,List.map_nil]);first|done|rfl|(simp only [List.length_drop,List.length_take];rfl)) ?_;(with_reducible refine (ih kj3 (by have:=HJ3.out;omega) (wrap64 (a0 - 1)) (Go.bits .xor .u64 t101 t102) (Go.bits .xor .u64 t103 t104) t107 _ A12.out).mono ?_);rintro e w' ⟨rfl,⟨nd,rfl⟩⟩;refine ⟨_,rfl,?_⟩)|((with_reducible refine zt (f:=83) rfl ?_);refine goesL_ (some 68) rfl rfl Try.func83 (by kernel_rfl) rfl #[.int .i64 (wrap64 (a0 - 1)),.int .u64 t105] rfl (by (try simp only [List.map_toArray,List.map_cons,List.map_nil]);first|done|rfl|(simp only [List.length_drop,List.length_take];rfl)) ?_;(with_reducible refine (zC.calls kj3 (wrap64 (a0 - 1)) t105 t108 _ A13.out).mono ?_);rintro e w' ⟨rfl,⟨nd,rfl⟩⟩;refine ⟨_,rfl,?_⟩)|((with_reducible refine zt (f:=97) rfl ?_);refine goesL_ (some 73) rfl rfl Try.func97 (by kernel_rfl) rfl #[.int .i64 a0,.int .u64 (Go.bits .xor .u64 (Go.bits .xor .u64 (Go.bits .xor .u64 t107 t105) t106) t108),.int .u64 (Go.bits .xor .u64 t106 t105)] rfl (by (try simp only [List.map_toArray,List.map_cons,List.map_nil]);first|done|rfl|(simp only [List.length_drop,List.length_take];rfl)) ?_;(with_reducible refine (z1c.calls a0 (Go.bits .xor .u64 (Go.bits .xor .u64 (Go.bits .xor .u64 t107 t105) t106) t108) (Go.bits .xor .u64 t106 t105) t109 _ A14.out).mono ?_);rintro e w' ⟨rfl,⟨nd,rfl⟩⟩;refine ⟨_,rfl,?_⟩))
   go_ret
   exact ⟨by first|rfl|(simp;done)|(simp [*];done),by repeat (first|exact Drawn0.refl _|apply Drawn0.step)⟩
end Go.Proofs.Ytngcaphdkgihmaa.P
namespace Go.Proofs.Ytngcaphdkgihmaa.P
open Go.RowKit Go.Proofs.YtngcaphdkgihmaaW.PrintWords Go.Proofs.YtngcaphdkgihmaaW.PrintLast Go.Proofs.YtngcaphdkgihmaaW.PrintMore
attribute [local go_sem] zS zU z12 z13 zK zL zT zV   -- for this text's walks alone
set_option linter.unusedVariables false
set_option linter.unusedSimpArgs false
def zM.j0 : Nat → Int → Bool → Int → Int → Int → Int → Option (Int × Int)
 | 0,_,_,_,_,_,_=>none
 | k + 1,x0,x10,x102000,x102001,x103000,x103001=>if x10 = true then (some (0,0)) else (if x0 ≤ 6 then ((zv.f k x0 x102001 x103001).bind fun t106=>(some (0,t106))) else ((zv.f k 6 x102000 x103000).bind fun t107=>((zv.f k 6 x102001 x103001).bind fun t108=>((zv.f k 6 (Go.bits .xor .u64 x102000 x102001) (Go.bits .xor .u64 x103000 x103001)).bind fun t109=>((zC.f k 6 t107).bind fun t110=>(some (Go.bits .xor .u64 (Go.bits .xor .u64 (Go.bits .xor .u64 t109 t107) t108) t110,Go.bits .xor .u64 t108 t107)))))))
def zM.f (k : Nat) (a0 : Int) (a1_0 : Int) (a1_1 : Int) (a2_0 : Int) (a2_1 : Int) : Option (Int × Int):=(zG.f k a0 a1_0 a1_1).bind fun t104=>(if t104 = true then ((zG.f k a0 a2_0 a2_1).bind fun t105=>(zM.j0 k a0 (!t105) a1_0 a1_1 a2_0 a2_1)) else (zM.j0 k a0 true a1_0 a1_1 a2_0 a2_1))
theorem zM.zX : ∀ k,(∀ y0 y1 y2 y3 y4 y5,LeO (zM.j0 k y0 y1 y2 y3 y4 y5) (zM.j0 (k + 1) y0 y1 y2 y3 y4 y5))
 | 0=>fun _ _ _ _ _ _ r h=>by simp [zM.j0] at h
 | k + 1=>by
  have ih0:=zM.zX k
  · intro y0 y1 y2 y3 y4 y5
    unfold zM.j0
    repeat' first
    | (with_reducible exact ih0 _ _ _ _ _ _)
    | (with_reducible exact zG.mono _ _ _ _)
    | (with_reducible exact zv.mono _ _ _ _)
    | (with_reducible exact zC.mono _ _ _)
    | (with_reducible exact LeO.refl _)
    | (with_reducible exact LeO.none _)
    | (with_reducible refine LeO.ite ?_ ?_)
    | (with_reducible refine LeO.bind ?_ (fun _=>?_))
    | exact ih0 _ _ _ _ _ _
    | exact zG.mono _ _ _ _
    | exact zv.mono _ _ _ _
    | exact zC.mono _ _ _
    | exact LeO.none _
    | refine LeO.ite ?_ ?_
    | refine LeO.bind ?_ (fun _=>?_)
theorem zM.mono : ∀ a0 a1 a2 a3 a4 k,LeO (zM.f k a0 a1 a2 a3 a4) (zM.f (k + 1) a0 a1 a2 a3 a4):=by
 intro a0 a1 a2 a3 a4 k
 have ih0:=zM.zX k
 unfold zM.f
 repeat' first
  | (with_reducible exact ih0 _ _ _ _ _ _)
  | (with_reducible exact zG.mono _ _ _ _)
  | (with_reducible exact zv.mono _ _ _ _)
  | (with_reducible exact zC.mono _ _ _)
  | (with_reducible exact LeO.refl _)
  | (with_reducible exact LeO.none _)
  | (with_reducible refine LeO.ite ?_ ?_)
  | (with_reducible refine LeO.bind ?_ (fun _=>?_))
  | exact ih0 _ _ _ _ _ _
  | exact zG.mono _ _ _ _
  | exact zv.mono _ _ _ _
  | exact zC.mono _ _ _
  | exact LeO.none _
  | refine LeO.ite ?_ ?_
  | refine LeO.bind ?_ (fun _=>?_)
set_option maxHeartbeats 8000000 in
set_option maxRecDepth 100000 in
theorem zM.calls (k : Nat) (a0 : Int) (a1_0 : Int) (a1_1 : Int) (a2_0 : Int) (a2_1 : Int) (r1 : Int) (r2 : Int) (w : World) (h : zM.f k a0 a1_0 a1_1 a2_0 a2_1 = some (r1,r2)) :
 Calls Try.prog 41 #[.int .i64 a0,.agg #[.int .u64 a1_0,.int .u64 a1_1],.agg #[.int .u64 a2_0,.int .u64 a2_1]] w fun e w'=>e = .returned (.agg #[.int .u64 r1,.int .u64 r2]) ∧ Below w.heap.size w w':=by
 have hu51:=Try.underlying51
 have HB:=z3.mk (Below.refl w.heap.size w)
 have H : ((zG.f k a0 a1_0 a1_1).bind fun t104=>(if t104 = true then ((zG.f k a0 a2_0 a2_1).bind fun t105=>(zM.j0 k a0 (!t105) a1_0 a1_1 a2_0 a2_1)) else (zM.j0 k a0 true a1_0 a1_1 a2_0 a2_1))) = some (r1,r2):=h
 clear h
 have HC4:=z3.mk H
 clear H
 go_enter Try.func41,Try.ntmps41
 go_upto_region 1 with (first|((with_reducible refine zA (N:=4) rfl ?_);refine zy ?hg (N:=4) ?hd (cs:=#[.int .u64 a1_0,.int .u64 a1_1]) (t:=51) ?hr ?_;(case hd=>rfl);(case hg=>rfl);(case hr=>first|(go_simp;done)|(go_simp;rfl));intro gb101 hg w5 hbox hb;have n0_:=z3.mk (zc (by repeat (first|(with_reducible first|exact HB.out|apply z2|apply z0|apply z1)|exact HB.out)) hb);have n1_:=z3.mk (hbox);have n2_:=z3.mk ((by rw [hg];exact (zd (by repeat (first|(with_reducible first|exact HB.out|apply z2|apply z0|apply z1)|exact HB.out))) : w.heap.size ≤ gb101));have n3_:=z3.mk ((by rw [hg];exact (zd (by repeat (first|(with_reducible first|exact HB.out|apply z2|apply z0|apply z1)|exact HB.out))) : w.heap.size ≤ gb101));clear HB;have HB:=n0_;have BK101:=n1_;have GW101:=n2_;have GE101:=n3_;clear n0_ n1_ n2_ n3_;clear hb hbox hg)|((with_reducible refine zA (N:=5) rfl ?_);refine zy ?hg (N:=5) ?hd (cs:=#[.int .u64 a2_0,.int .u64 a2_1]) (t:=51) ?hr ?_;(case hd=>rfl);(case hg=>rfl);(case hr=>first|(go_simp;done)|(go_simp;rfl));intro gb102 hg w6 hbox hb;have n0_:=z3.mk (ze (g:=gb101) (o:=.cells #[.int .u64 a1_0,.int .u64 a1_1] 51 (0,0)) (by (with_reducible repeat (first|refine z5 ?_ _|refine z8 ?_|refine z4 ?_ _));exact BK101.out) hb);have n1_:=z3.mk (zc (by repeat (first|(with_reducible first|exact HB.out|apply z2|apply z0|apply z1|refine z7 ?_ GE101.out)|exact HB.out)) hb);have n2_:=z3.mk (hbox);have n3_:=z3.mk ((by rw [hg];exact (zd (by repeat (first|(with_reducible first|exact HB.out|apply z2|apply z0|apply z1|refine z7 ?_ GE101.out)|exact HB.out))) : w.heap.size ≤ gb102));have n4_:=z3.mk ((by rw [hg];exact (zd (by repeat (first|(with_reducible first|exact HB.out|apply z2|apply z0|apply z1|refine z7 ?_ GE101.out)|exact HB.out))) : w.heap.size ≤ gb102));have n5_:=z3.mk ((by rw [hg];exact Nat.ne_of_lt (zJ (g:=gb101) (o:=.cells #[.int .u64 a1_0,.int .u64 a1_1] 51 (0,0)) (by (with_reducible repeat (first|refine z5 ?_ _|refine z8 ?_|refine z4 ?_ _));exact BK101.out)) : gb101 ≠ gb102));have n6_:=z3.mk ((by rw [hg];exact Nat.ne_of_gt (zJ (g:=gb101) (o:=.cells #[.int .u64 a1_0,.int .u64 a1_1] 51 (0,0)) (by (with_reducible repeat (first|refine z5 ?_ _|refine z8 ?_|refine z4 ?_ _));exact BK101.out)) : gb102 ≠ gb101));clear BK101;clear HB;have BK101:=n0_;have HB:=n1_;have BK102:=n2_;have GW102:=n3_;have GE102:=n4_;have NB101_102:=n5_;have NB102_101:=n6_;clear n0_ n1_ n2_ n3_ n4_ n5_ n6_;clear hb hbox hg)|((with_reducible refine zA (N:=6) rfl ?_);refine zy ?hg (N:=6) ?hd (cs:=#[.int .u64 0,.int .u64 0]) (t:=51) ?hr ?_;(case hd=>rfl);(case hg=>rfl);(case hr=>first|(go_simp;done)|(go_simp;rfl));intro gb103 hg w7 hbox hb;have n0_:=z3.mk (ze (g:=gb101) (o:=.cells #[.int .u64 a1_0,.int .u64 a1_1] 51 (0,0)) (by (with_reducible repeat (first|refine z5 ?_ _|refine z8 ?_|refine z4 ?_ _));exact BK101.out) hb);have n1_:=z3.mk (ze (g:=gb102) (o:=.cells #[.int .u64 a2_0,.int .u64 a2_1] 51 (0,0)) (by (with_reducible repeat (first|refine z5 ?_ _|refine z8 ?_|refine z4 ?_ _));exact BK102.out) hb);have n2_:=z3.mk (zc (by repeat (first|(with_reducible first|exact HB.out|apply z2|apply z0|apply z1|refine z7 ?_ GE101.out|refine z7 ?_ GE102.out)|exact HB.out)) hb);have n3_:=z3.mk (hbox);have n4_:=z3.mk ((by rw [hg];exact (zd (by repeat (first|(with_reducible first|exact HB.out|apply z2|apply z0|apply z1|refine z7 ?_ GE101.out|refine z7 ?_ GE102.out)|exact HB.out))) : w.heap.size ≤ gb103));have n5_:=z3.mk ((by rw [hg];exact (zd (by repeat (first|(with_reducible first|exact HB.out|apply z2|apply z0|apply z1|refine z7 ?_ GE101.out|refine z7 ?_ GE102.out)|exact HB.out))) : w.heap.size ≤ gb103));have n6_:=z3.mk ((by rw [hg];exact Nat.ne_of_lt (zJ (g:=gb101) (o:=.cells #[.int .u64 a1_0,.int .u64 a1_1] 51 (0,0)) (by (with_reducible repeat (first|refine z5 ?_ _|refine z8 ?_|refine z4 ?_ _));exact BK101.out)) : gb101 ≠ gb103));have n7_:=z3.mk ((by rw [hg];exact Nat.ne_of_gt (zJ (g:=gb101) (o:=.cells #[.int .u64 a1_0,.int .u64 a1_1] 51 (0,0)) (by (with_reducible repeat (first|refine z5 ?_ _|refine z8 ?_|refine z4 ?_ _));exact BK101.out)) : gb103 ≠ gb101));have n8_:=z3.mk ((by rw [hg];exact Nat.ne_of_lt (zJ (g:=gb102) (o:=.cells #[.int .u64 a2_0,.int .u64 a2_1] 51 (0,0)) (by (with_reducible repeat (first|refine z5 ?_ _|refine z8 ?_|refine z4 ?_ _));exact BK102.out)) : gb102 ≠ gb103));have n9_:=z3.mk ((by rw [hg];exact Nat.ne_of_gt (zJ (g:=gb102) (o:=.cells #[.int .u64 a2_0,.int .u64 a2_1] 51 (0,0)) (by (with_reducible repeat (first|refine z5 ?_ _|refine z8 ?_|refine z4 ?_ _));exact BK102.out)) : gb103 ≠ gb102));clear BK101;clear BK102;clear HB;have BK101:=n0_;have BK102:=n1_;have HB:=n2_;have BK103:=n3_;have GW103:=n4_;have GE103:=n5_;have NB101_103:=n6_;have NB103_101:=n7_;have NB102_103:=n8_;have NB103_102:=n9_;clear n0_ n1_ n2_ n3_ n4_ n5_ n6_ n7_ n8_ n9_;clear hb hbox hg))
 repeat (go_quiet (first|((with_reducible refine zA (N:=4) rfl ?_);refine zy ?hg (N:=4) ?hd (cs:=#[.int .u64 a1_0,.int .u64 a1_1]) (t:=51) ?hr ?_;(case hd=>rfl);(case hg=>rfl);(case hr=>first|(go_simp;done)|(go_simp;rfl));intro gb101 hg w5 hbox hb;have n0_:=z3.mk (zc (by repeat (first|(with_reducible first|exact HB.out|apply z2|apply z0|apply z1)|exact HB.out)) hb);have n1_:=z3.mk (hbox);have n2_:=z3.mk ((by rw [hg];exact (zd (by repeat (first|(with_reducible first|exact HB.out|apply z2|apply z0|apply z1)|exact HB.out))) : w.heap.size ≤ gb101));have n3_:=z3.mk ((by rw [hg];exact (zd (by repeat (first|(with_reducible first|exact HB.out|apply z2|apply z0|apply z1)|exact HB.out))) : w.heap.size ≤ gb101));clear HB;have HB:=n0_;have BK101:=n1_;have GW101:=n2_;have GE101:=n3_;clear n0_ n1_ n2_ n3_;clear hb hbox hg)|((with_reducible refine zA (N:=5) rfl ?_);refine zy ?hg (N:=5) ?hd (cs:=#[.int .u64 a2_0,.int .u64 a2_1]) (t:=51) ?hr ?_;(case hd=>rfl);(case hg=>rfl);(case hr=>first|(go_simp;done)|(go_simp;rfl));intro gb102 hg w6 hbox hb;have n0_:=z3.mk (ze (g:=gb101) (o:=.cells #[.int .u64 a1_0,.int .u64 a1_1] 51 (0,0)) (by (with_reducible repeat (first|refine z5 ?_ _|refine z8 ?_|refine z4 ?_ _));exact BK101.out) hb);have n1_:=z3.mk (zc (by repeat (first|(with_reducible first|exact HB.out|apply z2|apply z0|apply z1|refine z7 ?_ GE101.out)|exact HB.out)) hb);have n2_:=z3.mk (hbox);have n3_:=z3.mk ((by rw [hg];exact (zd (by repeat (first|(with_reducible first|exact HB.out|apply z2|apply z0|apply z1|refine z7 ?_ GE101.out)|exact HB.out))) : w.heap.size ≤ gb102));have n4_:=z3.mk ((by rw [hg];exact (zd (by repeat (first|(with_reducible first|exact HB.out|apply z2|apply z0|apply z1|refine z7 ?_ GE101.out)|exact HB.out))) : w.heap.size ≤ gb102));have n5_:=z3.mk ((by rw [hg];exact Nat.ne_of_lt (zJ (g:=gb101) (o:=.cells #[.int .u64 a1_0,.int .u64 a1_1] 51 (0,0)) (by (with_reducible repeat (first|refine z5 ?_ _|refine z8 ?_|refine z4 ?_ _));exact BK101.out)) : gb101 ≠ gb102));have n6_:=z3.mk ((by rw [hg];exact Nat.ne_of_gt (zJ (g:=gb101) (o:=.cells #[.int .u64 a1_0,.int .u64 a1_1] 51 (0,0)) (by (with_reducible repeat (first|refine z5 ?_ _|refine z8 ?_|refine z4 ?_ _));exact BK101.out)) : gb102 ≠ gb101));clear BK101;clear HB;have BK101:=n0_;have HB:=n1_;have BK102:=n2_;have GW102:=n3_;have GE102:=n4_;have NB101_102:=n5_;have NB102_101:=n6_;clear n0_ n1_ n2_ n3_ n4_ n5_ n6_;clear hb hbox hg)|((with_reducible refine zA (N:=6) rfl ?_);refine zy ?hg (N:=6) ?hd (cs:=#[.int .u64 0,.int .u64 0]) (t:=51) ?hr ?_;(case hd=>rfl);(case hg=>rfl);(case hr=>first|(go_simp;done)|(go_simp;rfl));intro gb103 hg w7 hbox hb;have n0_:=z3.mk (ze (g:=gb101) (o:=.cells #[.int .u64 a1_0,.int .u64 a1_1] 51 (0,0)) (by (with_reducible repeat (first|refine z5 ?_ _|refine z8 ?_|refine z4 ?_ _));exact BK101.out) hb);have n1_:=z3.mk (ze (g:=gb102) (o:=.cells #[.int .u64 a2_0,.int .u64 a2_1] 51 (0,0)) (by (with_reducible repeat (first|refine z5 ?_ _|refine z8 ?_|refine z4 ?_ _));exact BK102.out) hb);have n2_:=z3.mk (zc (by repeat (first|(with_reducible first|exact HB.out|apply z2|apply z0|apply z1|refine z7 ?_ GE101.out|refine z7 ?_ GE102.out)|exact HB.out)) hb);have n3_:=z3.mk (hbox);have n4_:=z3.mk ((by rw [hg];exact (zd (by repeat (first|(with_reducible first|exact HB.out|apply z2|apply z0|apply z1|refine z7 ?_ GE101.out|refine z7 ?_ GE102.out)|exact HB.out))) : w.heap.size ≤ gb103));have n5_:=z3.mk ((by rw [hg];exact (zd (by repeat (first|(with_reducible first|exact HB.out|apply z2|apply z0|apply z1|refine z7 ?_ GE101.out|refine z7 ?_ GE102.out)|exact HB.out))) : w.heap.size ≤ gb103));have n6_:=z3.mk ((by rw [hg];exact Nat.ne_of_lt (zJ (g:=gb101) (o:=.cells #[.int .u64 a1_0,.int .u64 a1_1] 51 (0,0)) (by (with_reducible repeat (first|refine z5 ?_ _|refine z8 ?_|refine z4 ?_ _));exact BK101.out)) : gb101 ≠ gb103));have n7_:=z3.mk ((by rw [hg];exact Nat.ne_of_gt (zJ (g:=gb101) (o:=.cells #[.int .u64 a1_0,.int .u64 a1_1] 51 (0,0)) (by (with_reducible repeat (first|refine z5 ?_ _|refine z8 ?_|refine z4 ?_ _));exact BK101.out)) : gb103 ≠ gb101));have n8_:=z3.mk ((by rw [hg];exact Nat.ne_of_lt (zJ (g:=gb102) (o:=.cells #[.int .u64 a2_0,.int .u64 a2_1] 51 (0,0)) (by (with_reducible repeat (first|refine z5 ?_ _|refine z8 ?_|refine z4 ?_ _));exact BK102.out)) : gb102 ≠ gb103));have n9_:=z3.mk ((by rw [hg];exact Nat.ne_of_gt (zJ (g:=gb102) (o:=.cells #[.int .u64 a2_0,.int .u64 a2_1] 51 (0,0)) (by (with_reducible repeat (first|refine z5 ?_ _|refine z8 ?_|refine z4 ?_ _));exact BK102.out)) : gb103 ≠ gb102));clear BK101;clear BK102;clear HB;have BK101:=n0_;have BK102:=n1_;have HB:=n2_;have BK103:=n3_;have GW103:=n4_;have GE103:=n5_;have NB101_103:=n6_;have NB103_101:=n7_;have NB102_103:=n8_;have NB103_102:=n9_;clear n0_ n1_ n2_ n3_ n4_ n5_ n6_ n7_ n8_ n9_;clear hb hbox hg));go_upto_region 1 with (first|((with_reducible refine zA (N:=4) rfl ?_);refine zy ?hg (N:=4) ?hd (cs:=#[.int .u64 a1_0,.int .u64 a1_1]) (t:=51) ?hr ?_;(case hd=>rfl);(case hg=>rfl);(case hr=>first|(go_simp;done)|(go_simp;rfl));intro gb101 hg w5 hbox hb;have n0_:=z3.mk (zc (by repeat (first|(with_reducible first|exact HB.out|apply z2|apply z0|apply z1)|exact HB.out)) hb);have n1_:=z3.mk (hbox);have n2_:=z3.mk ((by rw [hg];exact (zd (by repeat (first|(with_reducible first|exact HB.out|apply z2|apply z0|apply z1)|exact HB.out))) : w.heap.size ≤ gb101));have n3_:=z3.mk ((by rw [hg];exact (zd (by repeat (first|(with_reducible first|exact HB.out|apply z2|apply z0|apply z1)|exact HB.out))) : w.heap.size ≤ gb101));clear HB;have HB:=n0_;have BK101:=n1_;have GW101:=n2_;have GE101:=n3_;clear n0_ n1_ n2_ n3_;clear hb hbox hg)|((with_reducible refine zA (N:=5) rfl ?_);refine zy ?hg (N:=5) ?hd (cs:=#[.int .u64 a2_0,.int .u64 a2_1]) (t:=51) ?hr ?_;(case hd=>rfl);(case hg=>rfl);(case hr=>first|(go_simp;done)|(go_simp;rfl));intro gb102 hg w6 hbox hb;have n0_:=z3.mk (ze (g:=gb101) (o:=.cells #[.int .u64 a1_0,.int .u64 a1_1] 51 (0,0)) (by (with_reducible repeat (first|refine z5 ?_ _|refine z8 ?_|refine z4 ?_ _));exact BK101.out) hb);have n1_:=z3.mk (zc (by repeat (first|(with_reducible first|exact HB.out|apply z2|apply z0|apply z1|refine z7 ?_ GE101.out)|exact HB.out)) hb);have n2_:=z3.mk (hbox);have n3_:=z3.mk ((by rw [hg];exact (zd (by repeat (first|(with_reducible first|exact HB.out|apply z2|apply z0|apply z1|refine z7 ?_ GE101.out)|exact HB.out))) : w.heap.size ≤ gb102));have n4_:=z3.mk ((by rw [hg];exact (zd (by repeat (first|(with_reducible first|exact HB.out|apply z2|apply z0|apply z1|refine z7 ?_ GE101.out)|exact HB.out))) : w.heap.size ≤ gb102));have n5_:=z3.mk ((by rw [hg];exact Nat.ne_of_lt (zJ (g:=gb101) (o:=.cells #[.int .u64 a1_0,.int .u64 a1_1] 51 (0,0)) (by (with_reducible repeat (first|refine z5 ?_ _|refine z8 ?_|refine z4 ?_ _));exact BK101.out)) : gb101 ≠ gb102));have n6_:=z3.mk ((by rw [hg];exact Nat.ne_of_gt (zJ (g:=gb101) (o:=.cells #[.int .u64 a1_0,.int .u64 a1_1] 51 (0,0)) (by (with_reducible repeat (first|refine z5 ?_ _|refine z8 ?_|refine z4 ?_ _));exact BK101.out)) : gb102 ≠ gb101));clear BK101;clear HB;have BK101:=n0_;have HB:=n1_;have BK102:=n2_;have GW102:=n3_;have GE102:=n4_;have NB101_102:=n5_;have NB102_101:=n6_;clear n0_ n1_ n2_ n3_ n4_ n5_ n6_;clear hb hbox hg)|((with_reducible refine zA (N:=6) rfl ?_);refine zy ?hg (N:=6) ?hd (cs:=#[.int .u64 0,.int .u64 0]) (t:=51) ?hr ?_;(case hd=>rfl);(case hg=>rfl);(case hr=>first|(go_simp;done)|(go_simp;rfl));intro gb103 hg w7 hbox hb;have n0_:=z3.mk (ze (g:=gb101) (o:=.cells #[.int .u64 a1_0,.int .u64 a1_1] 51 (0,0)) (by (with_reducible repeat (first|refine z5 ?_ _|refine z8 ?_|refine z4 ?_ _));exact BK101.out) hb);have n1_:=z3.mk (ze (g:=gb102) (o:=.cells #[.int .u64 a2_0,.int .u64 a2_1] 51 (0,0)) (by (with_reducible repeat (first|refine z5 ?_ _|refine z8 ?_|refine z4 ?_ _));exact BK102.out) hb);have n2_:=z3.mk (zc (by repeat (first|(with_reducible first|exact HB.out|apply z2|apply z0|apply z1|refine z7 ?_ GE101.out|refine z7 ?_ GE102.out)|exact HB.out)) hb);have n3_:=z3.mk (hbox);have n4_:=z3.mk ((by rw [hg];exact (zd (by repeat (first|(with_reducible first|exact HB.out|apply z2|apply z0|apply z1|refine z7 ?_ GE101.out|refine z7 ?_ GE102.out)|exact HB.out))) : w.heap.size ≤ gb103));have n5_:=z3.mk ((by rw [hg];exact (zd (by repeat (first|(with_reducible first|exact HB.out|apply z2|apply z0|apply z1|refine z7 ?_ GE101.out|refine z7 ?_ GE102.out)|exact HB.out))) : w.heap.size ≤ gb103));have n6_:=z3.mk ((by rw [hg];exact Nat.ne_of_lt (zJ (g:=gb101) (o:=.cells #[.int .u64 a1_0,.int .u64 a1_1] 51 (0,0)) (by (with_reducible repeat (first|refine z5 ?_ _|refine z8 ?_|refine z4 ?_ _));exact BK101.out)) : gb101 ≠ gb103));have n7_:=z3.mk ((by rw [hg];exact Nat.ne_of_gt (zJ (g:=gb101) (o:=.cells #[.int .u64 a1_0,.int .u64 a1_1] 51 (0,0)) (by (with_reducible repeat (first|refine z5 ?_ _|refine z8 ?_|refine z4 ?_ _));exact BK101.out)) : gb103 ≠ gb101));have n8_:=z3.mk ((by rw [hg];exact Nat.ne_of_lt (zJ (g:=gb102) (o:=.cells #[.int .u64 a2_0,.int .u64 a2_1] 51 (0,0)) (by (with_reducible repeat (first|refine z5 ?_ _|refine z8 ?_|refine z4 ?_ _));exact BK102.out)) : gb102 ≠ gb103));have n9_:=z3.mk ((by rw [hg];exact Nat.ne_of_gt (zJ (g:=gb102) (o:=.cells #[.int .u64 a2_0,.int .u64 a2_1] 51 (0,0)) (by (with_reducible repeat (first|refine z5 ?_ _|refine z8 ?_|refine z4 ?_ _));exact BK102.out)) : gb103 ≠ gb102));clear BK101;clear BK102;clear HB;have BK101:=n0_;have BK102:=n1_;have HB:=n2_;have BK103:=n3_;have GW103:=n4_;have GE103:=n5_;have NB101_103:=n6_;have NB103_101:=n7_;have NB102_103:=n8_;have NB103_102:=n9_;clear n0_ n1_ n2_ n3_ n4_ n5_ n6_ n7_ n8_ n9_;clear hb hbox hg)))
 (try simp only [Act.put,List.setIfInBounds_toArray,List.set_cons_zero,List.set_cons_succ])
 go_cut [10] (fun v10 wc=>∃ (kq : Nat) (x10_3 : Bool),v10 = .bool x10_3 ∧ z3 (zM.j0 kq a0 x10_3 a1_0 a1_1 a2_0 a2_1 = some (r1,r2)) ∧ z3 (kq ≤ k) ∧ z3 (wc.heap[gb101]? = some (.cells #[.int .u64 a1_0,.int .u64 a1_1] 51 (0,0))) ∧ z3 (wc.heap[gb102]? = some (.cells #[.int .u64 a2_0,.int .u64 a2_1] 51 (0,0))) ∧ z3 (wc.heap[gb103]? = some (.cells #[.int .u64 0,.int .u64 0] 51 (0,0))) ∧ z3 (Below w.heap.size w wc))
 case first =>
  have H:=HC4.out
  clear HC4
  replace H:=Option.bind_eq_some_iff.mp H
  obtain ⟨t104,A80,H⟩:=H
  replace H : (if t104 = true then ((zG.f k a0 a2_0 a2_1).bind fun t105=>(zM.j0 k a0 (!t105) a1_0 a1_1 a2_0 a2_1)) else (zM.j0 k a0 true a1_0 a1_1 a2_0 a2_1)) = some (r1,r2):=H
  have A8:=z3.mk A80
  clear A80
  by_cases c9 : t104 = true
  rotate_left
  · replace c9:=Bool.eq_false_iff.mpr c9
    subst c9
    have H1 : (zM.j0 k a0 true a1_0 a1_1 a2_0 a2_1) = some (r1,r2):=by rw [if_neg (show ¬ (false = true) by decide)] at H;exact H
    clear H
    have H:=H1
    clear H1
    have H':=z3.mk H
    clear H
    have hnb18:=NB101_102.out
    have hnc18:=NB102_101.out
    have hnb19:=NB101_103.out
    have hnc19:=NB103_101.out
    have hcz20_0 : w7.cell? ⟨gb101,0,none⟩ = some (.int .u64 a1_0):=(za BK101.out 0).trans rfl
    have hcz20_1 : w7.cell? ⟨gb101,1,none⟩ = some (.int .u64 a1_1):=(za BK101.out 1).trans rfl
    have hfz20_0:=zb BK101.out 0
    have hfz20_1:=zb BK101.out 1
    go_wp2_with (first|(go_at_call 67;(with_reducible refine (zG.calls k a0 a1_0 a1_1 false _ A8.out).mono ?_);rintro e w21 ⟨rfl,hb⟩;have n0_:=z3.mk (ze (g:=gb101) (o:=.cells #[.int .u64 a1_0,.int .u64 a1_1] 51 (0,0)) (by (with_reducible repeat (first|refine z5 ?_ _|refine z8 ?_|refine z4 ?_ _));exact BK101.out) hb);have n1_:=z3.mk (ze (g:=gb102) (o:=.cells #[.int .u64 a2_0,.int .u64 a2_1] 51 (0,0)) (by (with_reducible repeat (first|refine z5 ?_ _|refine z8 ?_|refine z4 ?_ _));exact BK102.out) hb);have n2_:=z3.mk (ze (g:=gb103) (o:=.cells #[.int .u64 0,.int .u64 0] 51 (0,0)) (by (with_reducible repeat (first|refine z5 ?_ _|refine z8 ?_|refine z4 ?_ _));exact BK103.out) hb);have n3_:=z3.mk (zc (by repeat (first|(with_reducible first|exact HB.out|apply z2|apply z0|apply z1|refine z7 ?_ GE101.out|refine z7 ?_ GE102.out|refine z7 ?_ GE103.out)|exact HB.out)) hb);clear BK101;clear BK102;clear BK103;clear HB;have BK101:=n0_;have BK102:=n1_;have BK103:=n2_;have HB:=n3_;clear n0_ n1_ n2_ n3_;(try clear hb);(try clear hb2);(try clear hk);(try clear hi)))
    repeat (go_quiet (first|(go_at_call 67;(with_reducible refine (zG.calls k a0 a1_0 a1_1 false _ A8.out).mono ?_);rintro e w21 ⟨rfl,hb⟩;have n0_:=z3.mk (ze (g:=gb101) (o:=.cells #[.int .u64 a1_0,.int .u64 a1_1] 51 (0,0)) (by (with_reducible repeat (first|refine z5 ?_ _|refine z8 ?_|refine z4 ?_ _));exact BK101.out) hb);have n1_:=z3.mk (ze (g:=gb102) (o:=.cells #[.int .u64 a2_0,.int .u64 a2_1] 51 (0,0)) (by (with_reducible repeat (first|refine z5 ?_ _|refine z8 ?_|refine z4 ?_ _));exact BK102.out) hb);have n2_:=z3.mk (ze (g:=gb103) (o:=.cells #[.int .u64 0,.int .u64 0] 51 (0,0)) (by (with_reducible repeat (first|refine z5 ?_ _|refine z8 ?_|refine z4 ?_ _));exact BK103.out) hb);have n3_:=z3.mk (zc (by repeat (first|(with_reducible first|exact HB.out|apply z2|apply z0|apply z1|refine z7 ?_ GE101.out|refine z7 ?_ GE102.out|refine z7 ?_ GE103.out)|exact HB.out)) hb);clear BK101;clear BK102;clear BK103;clear HB;have BK101:=n0_;have BK102:=n1_;have BK103:=n2_;have HB:=n3_;clear n0_ n1_ n2_ n3_;(try clear hb);(try clear hb2);(try clear hk);(try clear hi)));try go_wp2_with (first|(go_at_call 67;(with_reducible refine (zG.calls k a0 a1_0 a1_1 false _ A8.out).mono ?_);rintro e w21 ⟨rfl,hb⟩;have n0_:=z3.mk (ze (g:=gb101) (o:=.cells #[.int .u64 a1_0,.int .u64 a1_1] 51 (0,0)) (by (with_reducible repeat (first|refine z5 ?_ _|refine z8 ?_|refine z4 ?_ _));exact BK101.out) hb);have n1_:=z3.mk (ze (g:=gb102) (o:=.cells #[.int .u64 a2_0,.int .u64 a2_1] 51 (0,0)) (by (with_reducible repeat (first|refine z5 ?_ _|refine z8 ?_|refine z4 ?_ _));exact BK102.out) hb);have n2_:=z3.mk (ze (g:=gb103) (o:=.cells #[.int .u64 0,.int .u64 0] 51 (0,0)) (by (with_reducible repeat (first|refine z5 ?_ _|refine z8 ?_|refine z4 ?_ _));exact BK103.out) hb);have n3_:=z3.mk (zc (by repeat (first|(with_reducible first|exact HB.out|apply z2|apply z0|apply z1|refine z7 ?_ GE101.out|refine z7 ?_ GE102.out|refine z7 ?_ GE103.out)|exact HB.out)) hb);clear BK101;clear BK102;clear BK103;clear HB;have BK101:=n0_;have BK102:=n1_;have BK103:=n2_;have HB:=n3_;clear n0_ n1_ n2_ n3_;(try clear hb);(try clear hb2);(try clear hk);(try clear hi))))
    go_meet
    case rel=>exact ⟨_,(true),(by first|rfl|(simp;done)|(simp [*];done)),H',⟨by first|omega|exact Nat.le_refl _⟩,⟨by (with_reducible repeat (first|refine z5 ?_ _|refine z8 ?_|refine z4 ?_ _));exact BK101.out⟩,⟨by (with_reducible repeat (first|refine z5 ?_ _|refine z8 ?_|refine z4 ?_ _));exact BK102.out⟩,⟨by (with_reducible repeat (first|refine z5 ?_ _|refine z8 ?_|refine z4 ?_ _));exact BK103.out⟩,⟨by repeat (first|(with_reducible first|exact HB.out|apply z2|apply z0|apply z1|refine z7 ?_ GE101.out|refine z7 ?_ GE102.out|refine z7 ?_ GE103.out)|exact HB.out)⟩⟩
  subst c9
  have H1 : ((zG.f k a0 a2_0 a2_1).bind fun t105=>(zM.j0 k a0 (!t105) a1_0 a1_1 a2_0 a2_1)) = some (r1,r2):=by rw [if_pos rfl] at H;exact H
  clear H
  have H:=H1
  clear H1
  replace H:=Option.bind_eq_some_iff.mp H
  obtain ⟨t105,A100,H⟩:=H
  replace H : (zM.j0 k a0 (!t105) a1_0 a1_1 a2_0 a2_1) = some (r1,r2):=H
  have A10:=z3.mk A100
  clear A100
  have H':=z3.mk H
  clear H
  have hnb11:=NB101_102.out
  have hnc11:=NB102_101.out
  have hnb12:=NB101_103.out
  have hnc12:=NB103_101.out
  have hcz13_0 : w7.cell? ⟨gb101,0,none⟩ = some (.int .u64 a1_0):=(za BK101.out 0).trans rfl
  have hcz13_1 : w7.cell? ⟨gb101,1,none⟩ = some (.int .u64 a1_1):=(za BK101.out 1).trans rfl
  have hfz13_0:=zb BK101.out 0
  have hfz13_1:=zb BK101.out 1
  go_wp2_with (first|(go_at_call 67;(with_reducible refine (zG.calls k a0 a1_0 a1_1 true _ A8.out).mono ?_);rintro e w14 ⟨rfl,hb⟩;have n0_:=z3.mk (ze (g:=gb101) (o:=.cells #[.int .u64 a1_0,.int .u64 a1_1] 51 (0,0)) (by (with_reducible repeat (first|refine z5 ?_ _|refine z8 ?_|refine z4 ?_ _));exact BK101.out) hb);have n1_:=z3.mk (ze (g:=gb102) (o:=.cells #[.int .u64 a2_0,.int .u64 a2_1] 51 (0,0)) (by (with_reducible repeat (first|refine z5 ?_ _|refine z8 ?_|refine z4 ?_ _));exact BK102.out) hb);have n2_:=z3.mk (ze (g:=gb103) (o:=.cells #[.int .u64 0,.int .u64 0] 51 (0,0)) (by (with_reducible repeat (first|refine z5 ?_ _|refine z8 ?_|refine z4 ?_ _));exact BK103.out) hb);have n3_:=z3.mk (zc (by repeat (first|(with_reducible first|exact HB.out|apply z2|apply z0|apply z1|refine z7 ?_ GE101.out|refine z7 ?_ GE102.out|refine z7 ?_ GE103.out)|exact HB.out)) hb);clear BK101;clear BK102;clear BK103;clear HB;have BK101:=n0_;have BK102:=n1_;have BK103:=n2_;have HB:=n3_;clear n0_ n1_ n2_ n3_;(try clear hb);(try clear hb2);(try clear hk);(try clear hi);have hnb15:=NB102_103.out;have hnc15:=NB103_102.out;have hcz16_0 : w14.cell? ⟨gb102,0,none⟩ = some (.int .u64 a2_0):=(za BK102.out 0).trans rfl;have hcz16_1 : w14.cell? ⟨gb102,1,none⟩ = some (.int .u64 a2_1):=(za BK102.out 1).trans rfl;have hfz16_0:=zb BK102.out 0;have hfz16_1:=zb BK102.out 1)|(go_at_call 67;(with_reducible refine (zG.calls k a0 a2_0 a2_1 t105 _ A10.out).mono ?_);rintro e w17 ⟨rfl,hb⟩;have n0_:=z3.mk (ze (g:=gb101) (o:=.cells #[.int .u64 a1_0,.int .u64 a1_1] 51 (0,0)) (by (with_reducible repeat (first|refine z5 ?_ _|refine z8 ?_|refine z4 ?_ _));exact BK101.out) hb);have n1_:=z3.mk (ze (g:=gb102) (o:=.cells #[.int .u64 a2_0,.int .u64 a2_1] 51 (0,0)) (by (with_reducible repeat (first|refine z5 ?_ _|refine z8 ?_|refine z4 ?_ _));exact BK102.out) hb);have n2_:=z3.mk (ze (g:=gb103) (o:=.cells #[.int .u64 0,.int .u64 0] 51 (0,0)) (by (with_reducible repeat (first|refine z5 ?_ _|refine z8 ?_|refine z4 ?_ _));exact BK103.out) hb);have n3_:=z3.mk (zc (by repeat (first|(with_reducible first|exact HB.out|apply z2|apply z0|apply z1|refine z7 ?_ GE101.out|refine z7 ?_ GE102.out|refine z7 ?_ GE103.out)|exact HB.out)) hb);clear BK101;clear BK102;clear BK103;clear HB;have BK101:=n0_;have BK102:=n1_;have BK103:=n2_;have HB:=n3_;clear n0_ n1_ n2_ n3_;(try clear hb);(try clear hb2);(try clear hk);(try clear hi)))
  repeat (go_quiet (first|(go_at_call 67;(with_reducible refine (zG.calls k a0 a1_0 a1_1 true _ A8.out).mono ?_);rintro e w14 ⟨rfl,hb⟩;have n0_:=z3.mk (ze (g:=gb101) (o:=.cells #[.int .u64 a1_0,.int .u64 a1_1] 51 (0,0)) (by (with_reducible repeat (first|refine z5 ?_ _|refine z8 ?_|refine z4 ?_ _));exact BK101.out) hb);have n1_:=z3.mk (ze (g:=gb102) (o:=.cells #[.int .u64 a2_0,.int .u64 a2_1] 51 (0,0)) (by (with_reducible repeat (first|refine z5 ?_ _|refine z8 ?_|refine z4 ?_ _));exact BK102.out) hb);have n2_:=z3.mk (ze (g:=gb103) (o:=.cells #[.int .u64 0,.int .u64 0] 51 (0,0)) (by (with_reducible repeat (first|refine z5 ?_ _|refine z8 ?_|refine z4 ?_ _));exact BK103.out) hb);have n3_:=z3.mk (zc (by repeat (first|(with_reducible first|exact HB.out|apply z2|apply z0|apply z1|refine z7 ?_ GE101.out|refine z7 ?_ GE102.out|refine z7 ?_ GE103.out)|exact HB.out)) hb);clear BK101;clear BK102;clear BK103;clear HB;have BK101:=n0_;have BK102:=n1_;have BK103:=n2_;have HB:=n3_;clear n0_ n1_ n2_ n3_;(try clear hb);(try clear hb2);(try clear hk);(try clear hi);have hnb15:=NB102_103.out;have hnc15:=NB103_102.out;have hcz16_0 : w14.cell? ⟨gb102,0,none⟩ = some (.int .u64 a2_0):=(za BK102.out 0).trans rfl;have hcz16_1 : w14.cell? ⟨gb102,1,none⟩ = some (.int .u64 a2_1):=(za BK102.out 1).trans rfl;have hfz16_0:=zb BK102.out 0;have hfz16_1:=zb BK102.out 1)|(go_at_call 67;(with_reducible refine (zG.calls k a0 a2_0 a2_1 t105 _ A10.out).mono ?_);rintro e w17 ⟨rfl,hb⟩;have n0_:=z3.mk (ze (g:=gb101) (o:=.cells #[.int .u64 a1_0,.int .u64 a1_1] 51 (0,0)) (by (with_reducible repeat (first|refine z5 ?_ _|refine z8 ?_|refine z4 ?_ _));exact BK101.out) hb);have n1_:=z3.mk (ze (g:=gb102) (o:=.cells #[.int .u64 a2_0,.int .u64 a2_1] 51 (0,0)) (by (with_reducible repeat (first|refine z5 ?_ _|refine z8 ?_|refine z4 ?_ _));exact BK102.out) hb);have n2_:=z3.mk (ze (g:=gb103) (o:=.cells #[.int .u64 0,.int .u64 0] 51 (0,0)) (by (with_reducible repeat (first|refine z5 ?_ _|refine z8 ?_|refine z4 ?_ _));exact BK103.out) hb);have n3_:=z3.mk (zc (by repeat (first|(with_reducible first|exact HB.out|apply z2|apply z0|apply z1|refine z7 ?_ GE101.out|refine z7 ?_ GE102.out|refine z7 ?_ GE103.out)|exact HB.out)) hb);clear BK101;clear BK102;clear BK103;clear HB;have BK101:=n0_;have BK102:=n1_;have BK103:=n2_;have HB:=n3_;clear n0_ n1_ n2_ n3_;(try clear hb);(try clear hb2);(try clear hk);(try clear hi)));try go_wp2_with (first|(go_at_call 67;(with_reducible refine (zG.calls k a0 a1_0 a1_1 true _ A8.out).mono ?_);rintro e w14 ⟨rfl,hb⟩;have n0_:=z3.mk (ze (g:=gb101) (o:=.cells #[.int .u64 a1_0,.int .u64 a1_1] 51 (0,0)) (by (with_reducible repeat (first|refine z5 ?_ _|refine z8 ?_|refine z4 ?_ _));exact BK101.out) hb);have n1_:=z3.mk (ze (g:=gb102) (o:=.cells #[.int .u64 a2_0,.int .u64 a2_1] 51 (0,0)) (by (with_reducible repeat (first|refine z5 ?_ _|refine z8 ?_|refine z4 ?_ _));exact BK102.out) hb);have n2_:=z3.mk (ze (g:=gb103) (o:=.cells #[.int .u64 0,.int .u64 0] 51 (0,0)) (by (with_reducible repeat (first|refine z5 ?_ _|refine z8 ?_|refine z4 ?_ _));exact BK103.out) hb);have n3_:=z3.mk (zc (by repeat (first|(with_reducible first|exact HB.out|apply z2|apply z0|apply z1|refine z7 ?_ GE101.out|refine z7 ?_ GE102.out|refine z7 ?_ GE103.out)|exact HB.out)) hb);clear BK101;clear BK102;clear BK103;clear HB;have BK101:=n0_;have BK102:=n1_;have BK103:=n2_;have HB:=n3_;clear n0_ n1_ n2_ n3_;(try clear hb);(try clear hb2);(try clear hk);(try clear hi);have hnb15:=NB102_103.out;have hnc15:=NB103_102.out;have hcz16_0 : w14.cell? ⟨gb102,0,none⟩ = some (.int .u64 a2_0):=(za BK102.out 0).trans rfl;have hcz16_1 : w14.cell? ⟨gb102,1,none⟩ = some (.int .u64 a2_1):=(za BK102.out 1).trans rfl;have hfz16_0:=zb BK102.out 0;have hfz16_1:=zb BK102.out 1)|(go_at_call 67;(with_reducible refine (zG.calls k a0 a2_0 a2_1 t105 _ A10.out).mono ?_);rintro e w17 ⟨rfl,hb⟩;have n0_:=z3.mk (ze (g:=gb101) (o:=.cells #[.int .u64 a1_0,.int .u64 a1_1] 51 (0,0)) (by (with_reducible repeat (first|refine z5 ?_ _|refine z8 ?_|refine z4 ?_ _));exact BK101.out) hb);have n1_:=z3.mk (ze (g:=gb102) (o:=.cells #[.int .u64 a2_0,.int .u64 a2_1] 51 (0,0)) (by (with_reducible repeat (first|refine z5 ?_ _|refine z8 ?_|refine z4 ?_ _));exact BK102.out) hb);have n2_:=z3.mk (ze (g:=gb103) (o:=.cells #[.int .u64 0,.int .u64 0] 51 (0,0)) (by (with_reducible repeat (first|refine z5 ?_ _|refine z8 ?_|refine z4 ?_ _));exact BK103.out) hb);have n3_:=z3.mk (zc (by repeat (first|(with_reducible first|exact HB.out|apply z2|apply z0|apply z1|refine z7 ?_ GE101.out|refine z7 ?_ GE102.out|refine z7 ?_ GE103.out)|exact HB.out)) hb);clear BK101;clear BK102;clear BK103;clear HB;have BK101:=n0_;have BK102:=n1_;have BK103:=n2_;have HB:=n3_;clear n0_ n1_ n2_ n3_;(try clear hb);(try clear hb2);(try clear hk);(try clear hi))))
  go_meet
  case rel=>exact ⟨_,(!t105),(by first|rfl|(simp;done)|(simp [*];done)),H',⟨by first|omega|exact Nat.le_refl _⟩,⟨by (with_reducible repeat (first|refine z5 ?_ _|refine z8 ?_|refine z4 ?_ _));exact BK101.out⟩,⟨by (with_reducible repeat (first|refine z5 ?_ _|refine z8 ?_|refine z4 ?_ _));exact BK102.out⟩,⟨by (with_reducible repeat (first|refine z5 ?_ _|refine z8 ?_|refine z4 ?_ _));exact BK103.out⟩,⟨by repeat (first|(with_reducible first|exact HB.out|apply z2|apply z0|apply z1|refine z7 ?_ GE101.out|refine z7 ?_ GE102.out|refine z7 ?_ GE103.out)|exact HB.out)⟩⟩
 case rest =>
  clear HC4
  (try clear c1);(try clear p2);(try clear c4);(try clear c9);(try clear c11);(try clear c12);(try clear c15);(try clear c18);(try clear c19);(try clear hcz13_0);(try clear hcz13_1);(try clear hcz16_0);(try clear hcz16_1);(try clear hcz20_0);(try clear hcz20_1);(try clear hfz13_0);(try clear hfz13_1);(try clear hfz16_0);(try clear hfz16_1);(try clear hfz20_0);(try clear hfz20_1)
  obtain ⟨kq,x10_3,rfl,HA,HJ3,BK101,BK102,BK103,HB⟩:=hcut
  cases kq with
  | zero=>exact absurd HA.out (by simp [zM.j0])
  | succ kj3 =>
   have H:=HA.out
   clear HA
   simp only [zM.j0] at H
   by_cases c22 : x10_3 = true
   · subst c22
     have H1 : (some (0,0)) = some (r1,r2):=by rw [if_pos rfl] at H;exact H
     clear H
     have H:=H1
     clear H1
     simp only [Option.some.injEq,Prod.mk.injEq] at H
     obtain ⟨rfl,rfl⟩:=H
     have hnb23:=NB103_101.out
     have hnc23:=NB101_103.out
     have hnb24:=NB103_102.out
     have hnc24:=NB102_103.out
     have hcz25_0 : wc.cell? ⟨gb103,0,none⟩ = some (.int .u64 0):=(za BK103.out 0).trans rfl
     have hcz25_1 : wc.cell? ⟨gb103,1,none⟩ = some (.int .u64 0):=(za BK103.out 1).trans rfl
     have hfz25_0:=zb BK103.out 0
     have hfz25_1:=zb BK103.out 1
     go_wp2
     repeat (go_quiet (fail);try go_wp2)
     refine bodyPost_ret (results_cell_row rfl _ _ gb103 51 #[.int .u64 0,.int .u64 0] (0,0) _ rfl (by (with_reducible repeat (first|refine z5 ?_ _|refine z8 ?_|refine z4 ?_ _));refine zH (cs:=#[.int .u64 0,.int .u64 0]) ?_ 1 _ rfl;(with_reducible repeat (first|refine z5 ?_ _|refine z8 ?_|refine z4 ?_ _));refine zH (cs:=#[.int .u64 0,.int .u64 0]) ?_ 0 _ rfl;(with_reducible repeat (first|refine z5 ?_ _|refine z8 ?_|refine z4 ?_ _));exact BK103.out) Try.underlying51 rfl (by kernel_rfl)) rfl ?_
     exact ⟨by first|rfl|(simp [zf,zg] <;> rfl)|(simp [*,zf,zg] <;> rfl),by repeat (first|(with_reducible first|exact HB.out|apply z2|apply z0|apply z1|refine z7 ?_ GE101.out|refine z7 ?_ GE102.out|refine z7 ?_ GE103.out)|exact HB.out)⟩
   replace c22:=Bool.eq_false_iff.mpr c22
   subst c22
   have H1 : (if a0 ≤ 6 then ((zv.f kj3 a0 a1_1 a2_1).bind fun t106=>(some (0,t106))) else ((zv.f kj3 6 a1_0 a2_0).bind fun t107=>((zv.f kj3 6 a1_1 a2_1).bind fun t108=>((zv.f kj3 6 (Go.bits .xor .u64 a1_0 a1_1) (Go.bits .xor .u64 a2_0 a2_1)).bind fun t109=>((zC.f kj3 6 t107).bind fun t110=>(some (Go.bits .xor .u64 (Go.bits .xor .u64 (Go.bits .xor .u64 t109 t107) t108) t110,Go.bits .xor .u64 t108 t107))))))) = some (r1,r2):=by rw [if_neg (show ¬ (false = true) by decide)] at H;exact H
   clear H
   have H:=H1
   clear H1
   by_cases c26 : a0 ≤ 6
   · rw [if_pos c26] at H
     have c26b0 : decide (a0 ≤ 6) = true:=decide_eq_true c26
     clear c26
     replace H:=Option.bind_eq_some_iff.mp H
     obtain ⟨t106,A270,H⟩:=H
     replace H : (some (0,t106)) = some (r1,r2):=H
     have A27:=z3.mk A270
     clear A270
     simp only [Option.some.injEq,Prod.mk.injEq] at H
     obtain ⟨rfl,rfl⟩:=H
     have hnb28:=NB101_102.out
     have hnc28:=NB102_101.out
     have hnb29:=NB101_103.out
     have hnc29:=NB103_101.out
     have hcz30_0 : wc.cell? ⟨gb101,0,none⟩ = some (.int .u64 a1_0):=(za BK101.out 0).trans rfl
     have hcz30_1 : wc.cell? ⟨gb101,1,none⟩ = some (.int .u64 a1_1):=(za BK101.out 1).trans rfl
     have hfz30_0:=zb BK101.out 0
     have hfz30_1:=zb BK101.out 1
     have hnb31:=NB102_103.out
     have hnc31:=NB103_102.out
     have hcz32_0 : wc.cell? ⟨gb102,0,none⟩ = some (.int .u64 a2_0):=(za BK102.out 0).trans rfl
     have hcz32_1 : wc.cell? ⟨gb102,1,none⟩ = some (.int .u64 a2_1):=(za BK102.out 1).trans rfl
     have hfz32_0:=zb BK102.out 0
     have hfz32_1:=zb BK102.out 1
     go_wp2_with (first|(go_at_call 82;(with_reducible refine (zv.calls kj3 a0 a1_1 a2_1 t106 _ A27.out).mono ?_);rintro e w' ⟨rfl,⟨nd,rfl⟩⟩;(try first|exact ⟨rfl,_,World.drewN_drewN _ _ _⟩|exact ⟨rfl,_,Eq.trans (World.drewN_drewN _ _ _) (congrArg (World.drewN _) (Nat.add_assoc _ _ _))⟩);have hcz33_0 : wc.cell? ⟨gb103,0,none⟩ = some (.int .u64 0):=(za BK103.out 0).trans rfl;have hcz33_1 : wc.cell? ⟨gb103,1,none⟩ = some (.int .u64 0):=(za BK103.out 1).trans rfl;have hfz33_0:=zb BK103.out 0;have hfz33_1:=zb BK103.out 1))
     repeat (go_quiet (first|(go_at_call 82;(with_reducible refine (zv.calls kj3 a0 a1_1 a2_1 t106 _ A27.out).mono ?_);rintro e w' ⟨rfl,⟨nd,rfl⟩⟩;(try first|exact ⟨rfl,_,World.drewN_drewN _ _ _⟩|exact ⟨rfl,_,Eq.trans (World.drewN_drewN _ _ _) (congrArg (World.drewN _) (Nat.add_assoc _ _ _))⟩);have hcz33_0 : wc.cell? ⟨gb103,0,none⟩ = some (.int .u64 0):=(za BK103.out 0).trans rfl;have hcz33_1 : wc.cell? ⟨gb103,1,none⟩ = some (.int .u64 0):=(za BK103.out 1).trans rfl;have hfz33_0:=zb BK103.out 0;have hfz33_1:=zb BK103.out 1));try go_wp2_with (first|(go_at_call 82;(with_reducible refine (zv.calls kj3 a0 a1_1 a2_1 t106 _ A27.out).mono ?_);rintro e w' ⟨rfl,⟨nd,rfl⟩⟩;(try first|exact ⟨rfl,_,World.drewN_drewN _ _ _⟩|exact ⟨rfl,_,Eq.trans (World.drewN_drewN _ _ _) (congrArg (World.drewN _) (Nat.add_assoc _ _ _))⟩);have hcz33_0 : wc.cell? ⟨gb103,0,none⟩ = some (.int .u64 0):=(za BK103.out 0).trans rfl;have hcz33_1 : wc.cell? ⟨gb103,1,none⟩ = some (.int .u64 0):=(za BK103.out 1).trans rfl;have hfz33_0:=zb BK103.out 0;have hfz33_1:=zb BK103.out 1)))
     refine bodyPost_ret (results_cell_row rfl _ _ gb103 51 #[.int .u64 0,.int .u64 t106] (0,0) _ rfl (by (with_reducible repeat (first|refine z5 ?_ _|refine z8 ?_|refine z4 ?_ _));refine zH (cs:=#[.int .u64 0,.int .u64 0]) ?_ 1 _ rfl;(with_reducible repeat (first|refine z5 ?_ _|refine z8 ?_|refine z4 ?_ _));refine zH (cs:=#[.int .u64 0,.int .u64 0]) ?_ 0 _ rfl;(with_reducible repeat (first|refine z5 ?_ _|refine z8 ?_|refine z4 ?_ _));exact BK103.out) Try.underlying51 rfl (by kernel_rfl)) rfl ?_
     exact ⟨by first|rfl|(simp [zf,zg] <;> rfl)|(simp [*,zf,zg] <;> rfl),by repeat (first|(with_reducible first|exact HB.out|apply z2|apply z0|apply z1|refine z7 ?_ GE101.out|refine z7 ?_ GE102.out|refine z7 ?_ GE103.out)|exact HB.out)⟩
   rw [if_neg c26] at H
   have c26b0 : decide (a0 ≤ 6) = false:=decide_eq_false c26
   clear c26
   replace H:=Option.bind_eq_some_iff.mp H
   obtain ⟨t107,A340,H⟩:=H
   replace H : ((zv.f kj3 6 a1_1 a2_1).bind fun t108=>((zv.f kj3 6 (Go.bits .xor .u64 a1_0 a1_1) (Go.bits .xor .u64 a2_0 a2_1)).bind fun t109=>((zC.f kj3 6 t107).bind fun t110=>(some (Go.bits .xor .u64 (Go.bits .xor .u64 (Go.bits .xor .u64 t109 t107) t108) t110,Go.bits .xor .u64 t108 t107))))) = some (r1,r2):=H
   have A34:=z3.mk A340
   clear A340
   replace H:=Option.bind_eq_some_iff.mp H
   obtain ⟨t108,A350,H⟩:=H
   replace H : ((zv.f kj3 6 (Go.bits .xor .u64 a1_0 a1_1) (Go.bits .xor .u64 a2_0 a2_1)).bind fun t109=>((zC.f kj3 6 t107).bind fun t110=>(some (Go.bits .xor .u64 (Go.bits .xor .u64 (Go.bits .xor .u64 t109 t107) t108) t110,Go.bits .xor .u64 t108 t107)))) = some (r1,r2):=H
   have A35:=z3.mk A350
   clear A350
   replace H:=Option.bind_eq_some_iff.mp H
   obtain ⟨t109,A360,H⟩:=H
   replace H : ((zC.f kj3 6 t107).bind fun t110=>(some (Go.bits .xor .u64 (Go.bits .xor .u64 (Go.bits .xor .u64 t109 t107) t108) t110,Go.bits .xor .u64 t108 t107))) = some (r1,r2):=H
   have A36:=z3.mk A360
   clear A360
   replace H:=Option.bind_eq_some_iff.mp H
   obtain ⟨t110,A370,H⟩:=H
   replace H : (some (Go.bits .xor .u64 (Go.bits .xor .u64 (Go.bits .xor .u64 t109 t107) t108) t110,Go.bits .xor .u64 t108 t107)) = some (r1,r2):=H
   have A37:=z3.mk A370
   clear A370
   simp only [Option.some.injEq,Prod.mk.injEq] at H
   obtain ⟨rfl,rfl⟩:=H
   have hnb38:=NB101_102.out
   have hnc38:=NB102_101.out
   have hnb39:=NB101_103.out
   have hnc39:=NB103_101.out
   have hcz40_0 : wc.cell? ⟨gb101,0,none⟩ = some (.int .u64 a1_0):=(za BK101.out 0).trans rfl
   have hcz40_1 : wc.cell? ⟨gb101,1,none⟩ = some (.int .u64 a1_1):=(za BK101.out 1).trans rfl
   have hfz40_0:=zb BK101.out 0
   have hfz40_1:=zb BK101.out 1
   have hnb41:=NB102_103.out
   have hnc41:=NB103_102.out
   have hcz42_0 : wc.cell? ⟨gb102,0,none⟩ = some (.int .u64 a2_0):=(za BK102.out 0).trans rfl
   have hcz42_1 : wc.cell? ⟨gb102,1,none⟩ = some (.int .u64 a2_1):=(za BK102.out 1).trans rfl
   have hfz42_0:=zb BK102.out 0
   have hfz42_1:=zb BK102.out 1
   go_wp2_with (first|(go_at_call 82;(with_reducible refine (zv.calls kj3 6 a1_0 a2_0 t107 _ A34.out).mono ?_);rintro e w' ⟨rfl,⟨nd,rfl⟩⟩;(try first|exact ⟨rfl,_,World.drewN_drewN _ _ _⟩|exact ⟨rfl,_,Eq.trans (World.drewN_drewN _ _ _) (congrArg (World.drewN _) (Nat.add_assoc _ _ _))⟩))|(go_at_call 82;(with_reducible refine (zv.calls kj3 6 a1_1 a2_1 t108 _ A35.out).mono ?_);rintro e w' ⟨rfl,⟨nd,rfl⟩⟩;(try first|exact ⟨rfl,_,World.drewN_drewN _ _ _⟩|exact ⟨rfl,_,Eq.trans (World.drewN_drewN _ _ _) (congrArg (World.drewN _) (Nat.add_assoc _ _ _))⟩))|(go_at_call 82;(with_reducible refine (zv.calls kj3 6 (Go.bits .xor .u64 a1_0 a1_1) (Go.bits .xor .u64 a2_0 a2_1) t109 _ A36.out).mono ?_);rintro e w' ⟨rfl,⟨nd,rfl⟩⟩;(try first|exact ⟨rfl,_,World.drewN_drewN _ _ _⟩|exact ⟨rfl,_,Eq.trans (World.drewN_drewN _ _ _) (congrArg (World.drewN _) (Nat.add_assoc _ _ _))⟩))|(go_at_call 83;(with_reducible refine (zC.calls kj3 6 t107 t110 _ A37.out).mono ?_);rintro e w' ⟨rfl,⟨nd,rfl⟩⟩;(try first|exact ⟨rfl,_,World.drewN_drewN _ _ _⟩|exact ⟨rfl,_,Eq.trans (World.drewN_drewN _ _ _) (congrArg (World.drewN _) (Nat.add_assoc _ _ _))⟩);have hcz43_0 : wc.cell? ⟨gb103,0,none⟩ = some (.int .u64 0):=(za BK103.out 0).trans rfl;have hcz43_1 : wc.cell? ⟨gb103,1,none⟩ = some (.int .u64 0):=(za BK103.out 1).trans rfl;have hfz43_0:=zb BK103.out 0;have hfz43_1:=zb BK103.out 1))
   repeat (go_quiet (first|(go_at_call 82;(with_reducible refine (zv.calls kj3 6 a1_0 a2_0 t107 _ A34.out).mono ?_);rintro e w' ⟨rfl,⟨nd,rfl⟩⟩;(try first|exact ⟨rfl,_,World.drewN_drewN _ _ _⟩|exact ⟨rfl,_,Eq.trans (World.drewN_drewN _ _ _) (congrArg (World.drewN _) (Nat.add_assoc _ _ _))⟩))|(go_at_call 82;(with_reducible refine (zv.calls kj3 6 a1_1 a2_1 t108 _ A35.out).mono ?_);rintro e w' ⟨rfl,⟨nd,rfl⟩⟩;(try first|exact ⟨rfl,_,World.drewN_drewN _ _ _⟩|exact ⟨rfl,_,Eq.trans (World.drewN_drewN _ _ _) (congrArg (World.drewN _) (Nat.add_assoc _ _ _))⟩))|(go_at_call 82;(with_reducible refine (zv.calls kj3 6 (Go.bits .xor .u64 a1_0 a1_1) (Go.bits .xor .u64 a2_0 a2_1) t109 _ A36.out).mono ?_);rintro e w' ⟨rfl,⟨nd,rfl⟩⟩;(try first|exact ⟨rfl,_,World.drewN_drewN _ _ _⟩|exact ⟨rfl,_,Eq.trans (World.drewN_drewN _ _ _) (congrArg (World.drewN _) (Nat.add_assoc _ _ _))⟩))|(go_at_call 83;(with_reducible refine (zC.calls kj3 6 t107 t110 _ A37.out).mono ?_);rintro e w' ⟨rfl,⟨nd,rfl⟩⟩;(try first|exact ⟨rfl,_,World.drewN_drewN _ _ _⟩|exact ⟨rfl,_,Eq.trans (World.drewN_drewN _ _ _) (congrArg (World.drewN _) (Nat.add_assoc _ _ _))⟩);have hcz43_0 : wc.cell? ⟨gb103,0,none⟩ = some (.int .u64 0):=(za BK103.out 0).trans rfl;have hcz43_1 : wc.cell? ⟨gb103,1,none⟩ = some (.int .u64 0):=(za BK103.out 1).trans rfl;have hfz43_0:=zb BK103.out 0;have hfz43_1:=zb BK103.out 1));try go_wp2_with (first|(go_at_call 82;(with_reducible refine (zv.calls kj3 6 a1_0 a2_0 t107 _ A34.out).mono ?_);rintro e w' ⟨rfl,⟨nd,rfl⟩⟩;(try first|exact ⟨rfl,_,World.drewN_drewN _ _ _⟩|exact ⟨rfl,_,Eq.trans (World.drewN_drewN _ _ _) (congrArg (World.drewN _) (Nat.add_assoc _ _ _))⟩))|(go_at_call 82;(with_reducible refine (zv.calls kj3 6 a1_1 a2_1 t108 _ A35.out).mono ?_);rintro e w' ⟨rfl,⟨nd,rfl⟩⟩;(try first|exact ⟨rfl,_,World.drewN_drewN _ _ _⟩|exact ⟨rfl,_,Eq.trans (World.drewN_drewN _ _ _) (congrArg (World.drewN _) (Nat.add_assoc _ _ _))⟩))|(go_at_call 82;(with_reducible refine (zv.calls kj3 6 (Go.bits .xor .u64 a1_0 a1_1) (Go.bits .xor .u64 a2_0 a2_1) t109 _ A36.out).mono ?_);rintro e w' ⟨rfl,⟨nd,rfl⟩⟩;(try first|exact ⟨rfl,_,World.drewN_drewN _ _ _⟩|exact ⟨rfl,_,Eq.trans (World.drewN_drewN _ _ _) (congrArg (World.drewN _) (Nat.add_assoc _ _ _))⟩))|(go_at_call 83;(with_reducible refine (zC.calls kj3 6 t107 t110 _ A37.out).mono ?_);rintro e w' ⟨rfl,⟨nd,rfl⟩⟩;(try first|exact ⟨rfl,_,World.drewN_drewN _ _ _⟩|exact ⟨rfl,_,Eq.trans (World.drewN_drewN _ _ _) (congrArg (World.drewN _) (Nat.add_assoc _ _ _))⟩);have hcz43_0 : wc.cell? ⟨gb103,0,none⟩ = some (.int .u64 0):=(za BK103.out 0).trans rfl;have hcz43_1 : wc.cell? ⟨gb103,1,none⟩ = some (.int .u64 0):=(za BK103.out 1).trans rfl;have hfz43_0:=zb BK103.out 0;have hfz43_1:=zb BK103.out 1)))
   refine bodyPost_ret (results_cell_row rfl _ _ gb103 51 #[.int .u64 (Go.bits .xor .u64 (Go.bits .xor .u64 (Go.bits .xor .u64 t109 t107) t108) t110),.int .u64 (Go.bits .xor .u64 t108 t107)] (0,0) _ rfl (by (with_reducible repeat (first|refine z5 ?_ _|refine z8 ?_|refine z4 ?_ _));refine zH (cs:=#[.int .u64 (Go.bits .xor .u64 (Go.bits .xor .u64 (Go.bits .xor .u64 t109 t107) t108) t110),.int .u64 0]) ?_ 1 _ rfl;(with_reducible repeat (first|refine z5 ?_ _|refine z8 ?_|refine z4 ?_ _));refine zH (cs:=#[.int .u64 0,.int .u64 0]) ?_ 0 _ rfl;(with_reducible repeat (first|refine z5 ?_ _|refine z8 ?_|refine z4 ?_ _));exact BK103.out) Try.underlying51 rfl (by kernel_rfl)) rfl ?_
   exact ⟨by first|rfl|(simp [zf,zg] <;> rfl)|(simp [*,zf,zg] <;> rfl),by repeat (first|(with_reducible first|exact HB.out|apply z2|apply z0|apply z1|refine z7 ?_ GE101.out|refine z7 ?_ GE102.out|refine z7 ?_ GE103.out)|exact HB.out)⟩
end Go.Proofs.Ytngcaphdkgihmaa.P
namespace Go.Proofs.Ytngcaphdkgihmaa.P
open Go.RowKit Go.Proofs.YtngcaphdkgihmaaW.PrintWords Go.Proofs.YtngcaphdkgihmaaW.PrintLast Go.Proofs.YtngcaphdkgihmaaW.PrintMore
attribute [local go_sem] zS zU z12 z13 zK zL zT zV   -- for this text's walks alone
set_option linter.unusedVariables false
set_option linter.unusedSimpArgs false
def zI.f (k : Nat) (a0 : Int) (a1_0 : Int) (a1_1 : Int) (a2_0 : Int) (a2_1 : Int) (a3_0 : Int) (a3_1 : Int) : Option (Int × Int):=(z1r.f a1_0 a1_1 a2_0 a2_1).bind fun bt105=>((zM.f k a0 a3_0 a3_1 bt105.1 bt105.2).bind fun bt107=>((z1r.f a1_0 a1_1 bt107.1 bt107.2).bind fun bt109=>(some (bt109.1,bt109.2))))
theorem zI.mono : ∀ a0 a1 a2 a3 a4 a5 a6 k,LeO (zI.f k a0 a1 a2 a3 a4 a5 a6) (zI.f (k + 1) a0 a1 a2 a3 a4 a5 a6):=by
 intro a0 a1 a2 a3 a4 a5 a6 k
 unfold zI.f
 repeat' first
  | (with_reducible exact zM.mono _ _ _ _ _ _)
  | (with_reducible exact LeO.refl _)
  | (with_reducible exact LeO.none _)
  | (with_reducible refine LeO.ite ?_ ?_)
  | (with_reducible refine LeO.bind ?_ (fun _=>?_))
  | exact zM.mono _ _ _ _ _ _
  | exact LeO.none _
  | refine LeO.ite ?_ ?_
  | refine LeO.bind ?_ (fun _=>?_)
def zI.T1 : Bool × List (List Nat × List Nat):=(true,[([],[]),([],[]),([],[]),([],[]),([],[]),([3,4],[3,4]),([1,2,5,5],[1,2,5]),([0,6,6],[0,6]),([7,7,0,1,2,3,4,5,6,7],[7])])
def zI.B1 : List Nat:=[0,0,0,0,0,24,62,127,255]
theorem zI.tab1 : rtab .any (opsOf Try.f86 1) = zI.T1:=by kernel_rfl
theorem zI.bits1 : waitsOk zI.T1.2 zI.B1 = true:=by kernel_rfl
set_option maxHeartbeats 8000000 in
set_option maxRecDepth 100000 in
theorem zI.calls (k : Nat) (a0 : Int) (a1_0 : Int) (a1_1 : Int) (a2_0 : Int) (a2_1 : Int) (a3_0 : Int) (a3_1 : Int) (r1 : Int) (r2 : Int) (w : World) (h : zI.f k a0 a1_0 a1_1 a2_0 a2_1 a3_0 a3_1 = some (r1,r2)) :
 Calls Try.prog 86 #[.int .i64 a0,.agg #[.int .u64 a1_0,.int .u64 a1_1],.agg #[.int .u64 a2_0,.int .u64 a2_1],.agg #[.int .u64 a3_0,.int .u64 a3_1]] w fun e w'=>e = .returned (.agg #[.int .u64 r1,.int .u64 r2]) ∧ Below w.heap.size w w':=by
 have hu51:=Try.underlying51
 have HB:=z3.mk (Below.refl w.heap.size w)
 have H : ((z1r.f a1_0 a1_1 a2_0 a2_1).bind fun bt105=>((zM.f k a0 a3_0 a3_1 bt105.1 bt105.2).bind fun bt107=>((z1r.f a1_0 a1_1 bt107.1 bt107.2).bind fun bt109=>(some (bt109.1,bt109.2))))) = some (r1,r2):=h
 clear h
 replace H:=Option.bind_eq_some_iff.mp H
 obtain ⟨⟨t105,t106⟩,A50,H⟩:=H
 replace H : ((zM.f k a0 a3_0 a3_1 t105 t106).bind fun bt107=>((z1r.f a1_0 a1_1 bt107.1 bt107.2).bind fun bt109=>(some (bt109.1,bt109.2)))) = some (r1,r2):=H
 have A5:=z3.mk A50
 clear A50
 replace H:=Option.bind_eq_some_iff.mp H
 obtain ⟨⟨t107,t108⟩,A60,H⟩:=H
 replace H : ((z1r.f a1_0 a1_1 t107 t108).bind fun bt109=>(some (bt109.1,bt109.2))) = some (r1,r2):=H
 have A6:=z3.mk A60
 clear A60
 replace H:=Option.bind_eq_some_iff.mp H
 obtain ⟨⟨t109,t110⟩,A70,H⟩:=H
 replace H : (some (t109,t110)) = some (r1,r2):=H
 have A7:=z3.mk A70
 clear A70
 simp only [Option.some.injEq,Prod.mk.injEq] at H
 obtain ⟨rfl,rfl⟩:=H
 go_enter Try.func86,Try.ntmps86
 try go_wp2_with (first|((with_reducible refine zA (N:=5) rfl ?_);refine zy ?hg (N:=5) ?hd (cs:=#[.int .u64 a1_0,.int .u64 a1_1]) (t:=51) ?hr ?_;(case hd=>rfl);(case hg=>rfl);(case hr=>first|(go_simp;done)|(go_simp;rfl));intro gb101 hg w8 hbox hb;have n0_:=z3.mk (zc (by repeat (first|(with_reducible first|exact HB.out|apply z2|apply z0|apply z1)|exact HB.out)) hb);have n1_:=z3.mk (hbox);have n2_:=z3.mk ((by rw [hg];exact (zd (by repeat (first|(with_reducible first|exact HB.out|apply z2|apply z0|apply z1)|exact HB.out))) : w.heap.size ≤ gb101));have n3_:=z3.mk ((by rw [hg];exact (zd (by repeat (first|(with_reducible first|exact HB.out|apply z2|apply z0|apply z1)|exact HB.out))) : w.heap.size ≤ gb101));clear HB;have HB:=n0_;have BK101:=n1_;have GW101:=n2_;have GE101:=n3_;clear n0_ n1_ n2_ n3_;clear hb hbox hg)|((with_reducible refine zA (N:=6) rfl ?_);refine zy ?hg (N:=6) ?hd (cs:=#[.int .u64 a2_0,.int .u64 a2_1]) (t:=51) ?hr ?_;(case hd=>rfl);(case hg=>rfl);(case hr=>first|(go_simp;done)|(go_simp;rfl));intro gb102 hg w9 hbox hb;have n0_:=z3.mk (ze (g:=gb101) (o:=.cells #[.int .u64 a1_0,.int .u64 a1_1] 51 (0,0)) (by (with_reducible repeat (first|refine z5 ?_ _|refine z8 ?_|refine z4 ?_ _));exact BK101.out) hb);have n1_:=z3.mk (zc (by repeat (first|(with_reducible first|exact HB.out|apply z2|apply z0|apply z1|refine z7 ?_ GE101.out)|exact HB.out)) hb);have n2_:=z3.mk (hbox);have n3_:=z3.mk ((by rw [hg];exact (zd (by repeat (first|(with_reducible first|exact HB.out|apply z2|apply z0|apply z1|refine z7 ?_ GE101.out)|exact HB.out))) : w.heap.size ≤ gb102));have n4_:=z3.mk ((by rw [hg];exact (zd (by repeat (first|(with_reducible first|exact HB.out|apply z2|apply z0|apply z1|refine z7 ?_ GE101.out)|exact HB.out))) : w.heap.size ≤ gb102));have n5_:=z3.mk ((by rw [hg];exact Nat.ne_of_lt (zJ (g:=gb101) (o:=.cells #[.int .u64 a1_0,.int .u64 a1_1] 51 (0,0)) (by (with_reducible repeat (first|refine z5 ?_ _|refine z8 ?_|refine z4 ?_ _));exact BK101.out)) : gb101 ≠ gb102));have n6_:=z3.mk ((by rw [hg];exact Nat.ne_of_gt (zJ (g:=gb101) (o:=.cells #[.int .u64 a1_0,.int .u64 a1_1] 51 (0,0)) (by (with_reducible repeat (first|refine z5 ?_ _|refine z8 ?_|refine z4 ?_ _));exact BK101.out)) : gb102 ≠ gb101));clear BK101;clear HB;have BK101:=n0_;have HB:=n1_;have BK102:=n2_;have GW102:=n3_;have GE102:=n4_;have NB101_102:=n5_;have NB102_101:=n6_;clear n0_ n1_ n2_ n3_ n4_ n5_ n6_;clear hb hbox hg)|((with_reducible refine zA (N:=7) rfl ?_);refine zy ?hg (N:=7) ?hd (cs:=#[.int .u64 a3_0,.int .u64 a3_1]) (t:=51) ?hr ?_;(case hd=>rfl);(case hg=>rfl);(case hr=>first|(go_simp;done)|(go_simp;rfl));intro gb103 hg w10 hbox hb;have n0_:=z3.mk (ze (g:=gb101) (o:=.cells #[.int .u64 a1_0,.int .u64 a1_1] 51 (0,0)) (by (with_reducible repeat (first|refine z5 ?_ _|refine z8 ?_|refine z4 ?_ _));exact BK101.out) hb);have n1_:=z3.mk (ze (g:=gb102) (o:=.cells #[.int .u64 a2_0,.int .u64 a2_1] 51 (0,0)) (by (with_reducible repeat (first|refine z5 ?_ _|refine z8 ?_|refine z4 ?_ _));exact BK102.out) hb);have n2_:=z3.mk (zc (by repeat (first|(with_reducible first|exact HB.out|apply z2|apply z0|apply z1|refine z7 ?_ GE101.out|refine z7 ?_ GE102.out)|exact HB.out)) hb);have n3_:=z3.mk (hbox);have n4_:=z3.mk ((by rw [hg];exact (zd (by repeat (first|(with_reducible first|exact HB.out|apply z2|apply z0|apply z1|refine z7 ?_ GE101.out|refine z7 ?_ GE102.out)|exact HB.out))) : w.heap.size ≤ gb103));have n5_:=z3.mk ((by rw [hg];exact (zd (by repeat (first|(with_reducible first|exact HB.out|apply z2|apply z0|apply z1|refine z7 ?_ GE101.out|refine z7 ?_ GE102.out)|exact HB.out))) : w.heap.size ≤ gb103));have n6_:=z3.mk ((by rw [hg];exact Nat.ne_of_lt (zJ (g:=gb101) (o:=.cells #[.int .u64 a1_0,.int .u64 a1_1] 51 (0,0)) (by (with_reducible repeat (first|refine z5 ?_ _|refine z8 ?_|refine z4 ?_ _));exact BK101.out)) : gb101 ≠ gb103));have n7_:=z3.mk ((by rw [hg];exact Nat.ne_of_gt (zJ (g:=gb101) (o:=.cells #[.int .u64 a1_0,.int .u64 a1_1] 51 (0,0)) (by (with_reducible repeat (first|refine z5 ?_ _|refine z8 ?_|refine z4 ?_ _));exact BK101.out)) : gb103 ≠ gb101));have n8_:=z3.mk ((by rw [hg];exact Nat.ne_of_lt (zJ (g:=gb102) (o:=.cells #[.int .u64 a2_0,.int .u64 a2_1] 51 (0,0)) (by (with_reducible repeat (first|refine z5 ?_ _|refine z8 ?_|refine z4 ?_ _));exact BK102.out)) : gb102 ≠ gb103));have n9_:=z3.mk ((by rw [hg];exact Nat.ne_of_gt (zJ (g:=gb102) (o:=.cells #[.int .u64 a2_0,.int .u64 a2_1] 51 (0,0)) (by (with_reducible repeat (first|refine z5 ?_ _|refine z8 ?_|refine z4 ?_ _));exact BK102.out)) : gb103 ≠ gb102));clear BK101;clear BK102;clear HB;have BK101:=n0_;have BK102:=n1_;have HB:=n2_;have BK103:=n3_;have GW103:=n4_;have GE103:=n5_;have NB101_103:=n6_;have NB103_101:=n7_;have NB102_103:=n8_;have NB103_102:=n9_;clear n0_ n1_ n2_ n3_ n4_ n5_ n6_ n7_ n8_ n9_;clear hb hbox hg)|((with_reducible refine zA (N:=8) rfl ?_);refine zy ?hg (N:=8) ?hd (cs:=#[.int .u64 0,.int .u64 0]) (t:=51) ?hr ?_;(case hd=>rfl);(case hg=>rfl);(case hr=>first|(go_simp;done)|(go_simp;rfl));intro gb104 hg w11 hbox hb;have n0_:=z3.mk (ze (g:=gb101) (o:=.cells #[.int .u64 a1_0,.int .u64 a1_1] 51 (0,0)) (by (with_reducible repeat (first|refine z5 ?_ _|refine z8 ?_|refine z4 ?_ _));exact BK101.out) hb);have n1_:=z3.mk (ze (g:=gb102) (o:=.cells #[.int .u64 a2_0,.int .u64 a2_1] 51 (0,0)) (by (with_reducible repeat (first|refine z5 ?_ _|refine z8 ?_|refine z4 ?_ _));exact BK102.out) hb);have n2_:=z3.mk (ze (g:=gb103) (o:=.cells #[.int .u64 a3_0,.int .u64 a3_1] 51 (0,0)) (by (with_reducible repeat (first|refine z5 ?_ _|refine z8 ?_|refine z4 ?_ _));exact BK103.out) hb);have n3_:=z3.mk (zc (by repeat (first|(with_reducible first|exact HB.out|apply z2|apply z0|apply z1|refine z7 ?_ GE101.out|refine z7 ?_ GE102.out|refine z7 ?_ GE103.out)|exact HB.out)) hb);have n4_:=z3.mk (hbox);have n5_:=z3.mk ((by rw [hg];exact (zd (by repeat (first|(with_reducible first|exact HB.out|apply z2|apply z0|apply z1|refine z7 ?_ GE101.out|refine z7 ?_ GE102.out|refine z7 ?_ GE103.out)|exact HB.out))) : w.heap.size ≤ gb104));have n6_:=z3.mk ((by rw [hg];exact (zd (by repeat (first|(with_reducible first|exact HB.out|apply z2|apply z0|apply z1|refine z7 ?_ GE101.out|refine z7 ?_ GE102.out|refine z7 ?_ GE103.out)|exact HB.out))) : w.heap.size ≤ gb104));have n7_:=z3.mk ((by rw [hg];exact Nat.ne_of_lt (zJ (g:=gb101) (o:=.cells #[.int .u64 a1_0,.int .u64 a1_1] 51 (0,0)) (by (with_reducible repeat (first|refine z5 ?_ _|refine z8 ?_|refine z4 ?_ _));exact BK101.out)) : gb101 ≠ gb104));have n8_:=z3.mk ((by rw [hg];exact Nat.ne_of_gt (zJ (g:=gb101) (o:=.cells #[.int .u64 a1_0,.int .u64 a1_1] 51 (0,0)) (by (with_reducible repeat (first|refine z5 ?_ _|refine z8 ?_|refine z4 ?_ _));exact BK101.out)) : gb104 ≠ gb101));have n9_:=z3.mk ((by rw [hg];exact Nat.ne_of_lt (zJ (g:=gb102) (o:=.cells #[.int .u64 a2_0,.int .u64 a2_1] 51 (0,0)) (by (with_reducible repeat (first|refine z5 ?_ _|refine z8 ?_|refine z4 ?_ _));exact BK102.out)) : gb102 ≠ gb104));have n10_:=z3.mk ((by rw [hg];exact Nat.ne_of_gt (zJ (g:=gb102) (o:=.cells #[.int .u64 a2_0,.int .u64 a2_1] 51 (0,0)) (by (with_reducible repeat (first|refine z5 ?_ _|refine z8 ?_|refine z4 ?_ _));exact BK102.out)) : gb104 ≠ gb102));have n11_:=z3.mk ((by rw [hg];exact Nat.ne_of_lt (zJ (g:=gb103) (o:=.cells #[.int .u64 a3_0,.int .u64 a3_1] 51 (0,0)) (by (with_reducible repeat (first|refine z5 ?_ _|refine z8 ?_|refine z4 ?_ _));exact BK103.out)) : gb103 ≠ gb104));have n12_:=z3.mk ((by rw [hg];exact Nat.ne_of_gt (zJ (g:=gb103) (o:=.cells #[.int .u64 a3_0,.int .u64 a3_1] 51 (0,0)) (by (with_reducible repeat (first|refine z5 ?_ _|refine z8 ?_|refine z4 ?_ _));exact BK103.out)) : gb104 ≠ gb103));clear BK101;clear BK102;clear BK103;clear HB;have BK101:=n0_;have BK102:=n1_;have BK103:=n2_;have HB:=n3_;have BK104:=n4_;have GW104:=n5_;have GE104:=n6_;have NB101_104:=n7_;have NB104_101:=n8_;have NB102_104:=n9_;have NB104_102:=n10_;have NB103_104:=n11_;have NB104_103:=n12_;clear n0_ n1_ n2_ n3_ n4_ n5_ n6_ n7_ n8_ n9_ n10_ n11_ n12_;clear hb hbox hg))
 have n0_:=z3.mk (z8 BK101.out)
 have n1_:=z3.mk (z8 BK102.out)
 have n2_:=z3.mk (z8 BK103.out)
 have n3_:=z3.mk (z8 BK104.out)
 have n4_:=z3.mk (z1 HB.out)
 clear BK101
 clear BK102
 clear BK103
 clear BK104
 clear HB
 have BK101:=n0_
 have BK102:=n1_
 have BK103:=n2_
 have BK104:=n3_
 have HB:=n4_
 clear n0_ n1_ n2_ n3_ n4_
 refine start_ (n:=9) (S:=fun w'=>w'.cell? ⟨gb101,0,none⟩ = some (.int .u64 a1_0) ∧ w'.cell? ⟨gb101,1,none⟩ = some (.int .u64 a1_1) ∧ w'.cell? ⟨gb103,0,none⟩ = some (.int .u64 a3_0) ∧ w'.cell? ⟨gb103,1,none⟩ = some (.int .u64 a3_1) ∧ w'.cell? ⟨gb102,0,none⟩ = some (.int .u64 a2_0) ∧ w'.cell? ⟨gb102,1,none⟩ = some (.int .u64 a2_1)) (ds:=[]) #[false,false,false,false,false,false,false,false,false] (by kernel_rfl) rfl rfl ⟨(za BK101.out 0).trans rfl,(za BK101.out 1).trans rfl,(za BK103.out 0).trans rfl,(za BK103.out 1).trans rfl,(za BK102.out 0).trans rfl,(za BK102.out 1).trans rfl⟩ (fun hHeld=>?_);refine z1A zI.tab1 zI.bits1 (fun HT_ HW_=>?_)
 generalize w11.drew = w12 at BK101 BK102 BK103 BK104 HB hHeld ⊢
 refine pure_ (i:=1) (N:=some 10) (v:=?_) (a':=?_) #[false,true,false,false,false,false,false,false,false] rfl rfl (zR HT_.out (by kernel_rfl)) (fun _ _ _ h=>h) (Or.inl ⟨by rfl,?_⟩) ?_ ?_
 rotate_left
 · intro w'
   go_simp
   with_reducible rfl
 rotate_left
 · simp only [Act.put,List.setIfInBounds_toArray,List.set_cons_zero,List.set_cons_succ,zD,zF]
   rfl
 refine take_ (i:=0) (N:=some 9) (v:=?_) (a':=?_) #[true,true,false,false,false,false,false,false,false] rfl rfl (z1k HT_.out HW_.out (by kernel_rfl)) (fun _ _ _ h=>h) (Or.inl ⟨by rfl,?_⟩) hHeld ?_ ?_
 rotate_left
 · rintro w' ⟨s0,s1,s2,s3,s4,s5⟩
   go_simp
   with_reducible rfl
 rotate_left
 · simp only [Act.put,List.setIfInBounds_toArray,List.set_cons_zero,List.set_cons_succ,zD,zF]
   rfl
 refine take_ (i:=2) (N:=some 11) (v:=?_) (a':=?_) #[true,true,true,false,false,false,false,false,false] rfl rfl (z1k HT_.out HW_.out (by kernel_rfl)) (fun _ _ _ h=>h) (Or.inl ⟨by rfl,?_⟩) hHeld ?_ ?_
 rotate_left
 · rintro w' ⟨s0,s1,s2,s3,s4,s5⟩
   go_simp
   with_reducible rfl
 rotate_left
 · simp only [Act.put,List.setIfInBounds_toArray,List.set_cons_zero,List.set_cons_succ,zD,zF]
   rfl
 refine take_ (i:=3) (N:=some 12) (v:=?_) (a':=?_) #[true,true,true,true,false,false,false,false,false] rfl rfl (z1k HT_.out HW_.out (by kernel_rfl)) (fun _ _ _ h=>h) (Or.inl ⟨by rfl,?_⟩) hHeld ?_ ?_
 rotate_left
 · rintro w' ⟨s0,s1,s2,s3,s4,s5⟩
   go_simp
   with_reducible rfl
 rotate_left
 · simp only [Act.put,List.setIfInBounds_toArray,List.set_cons_zero,List.set_cons_succ,zD,zF]
   rfl
 refine take_ (i:=4) (N:=some 13) (v:=?_) (a':=?_) #[true,true,true,true,true,false,false,false,false] rfl rfl (z1k HT_.out HW_.out (by kernel_rfl)) (fun _ _ _ h=>h) (Or.inl ⟨by rfl,?_⟩) hHeld ?_ ?_
 rotate_left
 · rintro w' ⟨s0,s1,s2,s3,s4,s5⟩
   go_simp
   with_reducible rfl
 rotate_left
 · simp only [Act.put,List.setIfInBounds_toArray,List.set_cons_zero,List.set_cons_succ,zD,zF]
   rfl
 refine one_ (i:=5) (N:=some 14) #[true,true,true,true,true,true,false,false,false] rfl rfl (z1w HT_.out (by kernel_rfl)) (by decide) (fun K hK=>?_)
 refine goes_ Try.func40 (by kernel_rfl) rfl #[.agg #[.int .u64 a1_0,.int .u64 a1_1],.agg #[.int .u64 a2_0,.int .u64 a2_1]] (by rfl) rfl rfl (by (try simp only [List.map_toArray,List.map_cons,List.map_nil]);first|done|rfl|(simp only [List.length_drop,List.length_take];rfl)) ?_
 with_reducible refine (z1r.calls a1_0 a1_1 a2_0 a2_1 t105 t106 _ A5.out).mono ?_
 rintro e w13 ⟨rfl,hb⟩
 refine ⟨_,rfl,?_⟩
 have n0_:=z3.mk (ze (g:=gb101) (o:=.cells #[.int .u64 a1_0,.int .u64 a1_1] 51 (0,0)) (by (with_reducible repeat (first|refine z5 ?_ _|refine z8 ?_|refine z4 ?_ _));exact BK101.out) hb)
 have n1_:=z3.mk (ze (g:=gb102) (o:=.cells #[.int .u64 a2_0,.int .u64 a2_1] 51 (0,0)) (by (with_reducible repeat (first|refine z5 ?_ _|refine z8 ?_|refine z4 ?_ _));exact BK102.out) hb)
 have n2_:=z3.mk (ze (g:=gb103) (o:=.cells #[.int .u64 a3_0,.int .u64 a3_1] 51 (0,0)) (by (with_reducible repeat (first|refine z5 ?_ _|refine z8 ?_|refine z4 ?_ _));exact BK103.out) hb)
 have n3_:=z3.mk (ze (g:=gb104) (o:=.cells #[.int .u64 0,.int .u64 0] 51 (0,0)) (by (with_reducible repeat (first|refine z5 ?_ _|refine z8 ?_|refine z4 ?_ _));exact BK104.out) hb)
 have n4_:=z3.mk (zc (by repeat (first|(with_reducible first|exact HB.out|apply z2|apply z0|apply z1|refine z7 ?_ GE101.out|refine z7 ?_ GE102.out|refine z7 ?_ GE103.out|refine z7 ?_ GE104.out)|exact HB.out)) hb)
 clear BK101
 clear BK102
 clear BK103
 clear BK104
 clear HB
 have BK101:=n0_
 have BK102:=n1_
 have BK103:=n2_
 have BK104:=n3_
 have HB:=n4_
 clear n0_ n1_ n2_ n3_ n4_
 (try clear hb)
 (try clear hb2)
 (try clear hk)
 (try clear hi)
 refine hK.out _ _ ⟨(za BK101.out 0).trans rfl,(za BK101.out 1).trans rfl,(za BK103.out 0).trans rfl,(za BK103.out 1).trans rfl,(za BK102.out 0).trans rfl,(za BK102.out 1).trans rfl⟩ (fun hHeld=>?_)
 clear hK K
 refine norm_ (a':=?_) ?_ ?_
 rotate_left
 · show Act.put _ (some 14) _ = _
   simp only [Act.put,List.setIfInBounds_toArray,List.set_cons_zero,List.set_cons_succ,zD,zF]
   rfl
 refine one_ (i:=6) (N:=some 15) #[true,true,true,true,true,true,true,false,false] rfl rfl (z1w HT_.out (by kernel_rfl)) (by decide) (fun K hK=>?_)
 refine goes_ Try.func41 (by kernel_rfl) rfl #[.int .i64 a0,.agg #[.int .u64 a3_0,.int .u64 a3_1],.agg #[.int .u64 t105,.int .u64 t106]] (by rfl) rfl rfl (by (try simp only [List.map_toArray,List.map_cons,List.map_nil]);first|done|rfl|(simp only [List.length_drop,List.length_take];rfl)) ?_
 with_reducible refine (zM.calls k a0 a3_0 a3_1 t105 t106 t107 t108 _ A6.out).mono ?_
 rintro e w14 ⟨rfl,hb⟩
 refine ⟨_,rfl,?_⟩
 have n0_:=z3.mk (ze (g:=gb101) (o:=.cells #[.int .u64 a1_0,.int .u64 a1_1] 51 (0,0)) (by (with_reducible repeat (first|refine z5 ?_ _|refine z8 ?_|refine z4 ?_ _));exact BK101.out) hb)
 have n1_:=z3.mk (ze (g:=gb102) (o:=.cells #[.int .u64 a2_0,.int .u64 a2_1] 51 (0,0)) (by (with_reducible repeat (first|refine z5 ?_ _|refine z8 ?_|refine z4 ?_ _));exact BK102.out) hb)
 have n2_:=z3.mk (ze (g:=gb103) (o:=.cells #[.int .u64 a3_0,.int .u64 a3_1] 51 (0,0)) (by (with_reducible repeat (first|refine z5 ?_ _|refine z8 ?_|refine z4 ?_ _));exact BK103.out) hb)
 have n3_:=z3.mk (ze (g:=gb104) (o:=.cells #[.int .u64 0,.int .u64 0] 51 (0,0)) (by (with_reducible repeat (first|refine z5 ?_ _|refine z8 ?_|refine z4 ?_ _));exact BK104.out) hb)
 have n4_:=z3.mk (zc (by repeat (first|(with_reducible first|exact HB.out|apply z2|apply z0|apply z1|refine z7 ?_ GE101.out|refine z7 ?_ GE102.out|refine z7 ?_ GE103.out|refine z7 ?_ GE104.out)|exact HB.out)) hb)
 clear BK101
 clear BK102
 clear BK103
 clear BK104
 clear HB
 have BK101:=n0_
 have BK102:=n1_
 have BK103:=n2_
 have BK104:=n3_
 have HB:=n4_
 clear n0_ n1_ n2_ n3_ n4_
 (try clear hb)
 (try clear hb2)
 (try clear hk)
 (try clear hi)
 refine hK.out _ _ ⟨(za BK101.out 0).trans rfl,(za BK101.out 1).trans rfl,(za BK103.out 0).trans rfl,(za BK103.out 1).trans rfl,(za BK102.out 0).trans rfl,(za BK102.out 1).trans rfl⟩ (fun hHeld=>?_)
 clear hK K
 refine norm_ (a':=?_) ?_ ?_
 rotate_left
 · show Act.put _ (some 15) _ = _
   simp only [Act.put,List.setIfInBounds_toArray,List.set_cons_zero,List.set_cons_succ,zD,zF]
   rfl
 refine one_ (i:=7) (N:=some 16) #[true,true,true,true,true,true,true,true,false] rfl rfl (z1w HT_.out (by kernel_rfl)) (by decide) (fun K hK=>?_)
 refine goes_ Try.func40 (by kernel_rfl) rfl #[.agg #[.int .u64 a1_0,.int .u64 a1_1],.agg #[.int .u64 t107,.int .u64 t108]] (by rfl) rfl rfl (by (try simp only [List.map_toArray,List.map_cons,List.map_nil]);first|done|rfl|(simp only [List.length_drop,List.length_take];rfl)) ?_
 with_reducible refine (z1r.calls a1_0 a1_1 t107 t108 t109 t110 _ A7.out).mono ?_
 rintro e w15 ⟨rfl,hb⟩
 refine ⟨_,rfl,?_⟩
 have n0_:=z3.mk (ze (g:=gb101) (o:=.cells #[.int .u64 a1_0,.int .u64 a1_1] 51 (0,0)) (by (with_reducible repeat (first|refine z5 ?_ _|refine z8 ?_|refine z4 ?_ _));exact BK101.out) hb)
 have n1_:=z3.mk (ze (g:=gb102) (o:=.cells #[.int .u64 a2_0,.int .u64 a2_1] 51 (0,0)) (by (with_reducible repeat (first|refine z5 ?_ _|refine z8 ?_|refine z4 ?_ _));exact BK102.out) hb)
 have n2_:=z3.mk (ze (g:=gb103) (o:=.cells #[.int .u64 a3_0,.int .u64 a3_1] 51 (0,0)) (by (with_reducible repeat (first|refine z5 ?_ _|refine z8 ?_|refine z4 ?_ _));exact BK103.out) hb)
 have n3_:=z3.mk (ze (g:=gb104) (o:=.cells #[.int .u64 0,.int .u64 0] 51 (0,0)) (by (with_reducible repeat (first|refine z5 ?_ _|refine z8 ?_|refine z4 ?_ _));exact BK104.out) hb)
 have n4_:=z3.mk (zc (by repeat (first|(with_reducible first|exact HB.out|apply z2|apply z0|apply z1|refine z7 ?_ GE101.out|refine z7 ?_ GE102.out|refine z7 ?_ GE103.out|refine z7 ?_ GE104.out)|exact HB.out)) hb)
 clear BK101
 clear BK102
 clear BK103
 clear BK104
 clear HB
 have BK101:=n0_
 have BK102:=n1_
 have BK103:=n2_
 have BK104:=n3_
 have HB:=n4_
 clear n0_ n1_ n2_ n3_ n4_
 (try clear hb)
 (try clear hb2)
 (try clear hk)
 (try clear hi)
 refine hK.out _ _ ⟨(za BK101.out 0).trans rfl,(za BK101.out 1).trans rfl,(za BK103.out 0).trans rfl,(za BK103.out 1).trans rfl,(za BK102.out 0).trans rfl,(za BK102.out 1).trans rfl⟩ (fun hHeld=>?_)
 clear hK K
 refine norm_ (a':=?_) ?_ ?_
 rotate_left
 · show Act.put _ (some 16) _ = _
   simp only [Act.put,List.setIfInBounds_toArray,List.set_cons_zero,List.set_cons_succ,zD,zF]
   rfl
 refine one_ (i:=8) (N:=none) #[true,true,true,true,true,true,true,true,true] rfl rfl (z1w HT_.out (by kernel_rfl)) (by decide) (fun K hK=>?_)
 have hs16 : w15.cell? ⟨gb104,0,none⟩ = some (.int .u64 0):=(za BK104.out 0).trans rfl
 have hfs16:=zb BK104.out 0
 have hns16_0:=NB101_104.out
 have hns16_1:=NB102_104.out
 have hns16_2:=NB103_104.out
 have hms16_0:=NB104_101.out
 have hms16_1:=NB104_102.out
 have hms16_2:=NB104_103.out
 have hs17 : w15.cell? ⟨gb104,1,none⟩ = some (.int .u64 0):=(za BK104.out 1).trans rfl
 have hfs17:=zb BK104.out 1
 have hns17_0:=NB101_104.out
 have hns17_1:=NB102_104.out
 have hns17_2:=NB103_104.out
 have hms17_0:=NB104_101.out
 have hms17_1:=NB104_102.out
 have hms17_2:=NB104_103.out
 refine skip_ (w1:=?_) (by rfl) rfl ?_ ?_
 rotate_left
 · go_simp
   rfl
 refine hK.out _ _ ⟨((z1h (p:=⟨gb104,_,none⟩) NB101_104.out _).trans (((z1h (p:=⟨gb104,_,none⟩) NB101_104.out _).trans (hHeld.1)))),((z1h (p:=⟨gb104,_,none⟩) NB101_104.out _).trans (((z1h (p:=⟨gb104,_,none⟩) NB101_104.out _).trans (hHeld.2.1)))),((z1h (p:=⟨gb104,_,none⟩) NB103_104.out _).trans (((z1h (p:=⟨gb104,_,none⟩) NB103_104.out _).trans (hHeld.2.2.1)))),((z1h (p:=⟨gb104,_,none⟩) NB103_104.out _).trans (((z1h (p:=⟨gb104,_,none⟩) NB103_104.out _).trans (hHeld.2.2.2.1)))),((z1h (p:=⟨gb104,_,none⟩) NB102_104.out _).trans (((z1h (p:=⟨gb104,_,none⟩) NB102_104.out _).trans (hHeld.2.2.2.2.1)))),((z1h (p:=⟨gb104,_,none⟩) NB102_104.out _).trans (((z1h (p:=⟨gb104,_,none⟩) NB102_104.out _).trans (hHeld.2.2.2.2.2))))⟩ (fun hHeld=>?_)
 clear hK K
 refine done_ (z1X HT_.out (by kernel_rfl)) ?_
 try go_wp2
 refine bodyPost_ret (results_cell_row rfl _ _ gb104 51 #[.int .u64 t109,.int .u64 t110] (0,0) _ rfl (by (with_reducible repeat (first|refine z5 ?_ _|refine z8 ?_|refine z4 ?_ _));refine zH (cs:=#[.int .u64 t109,.int .u64 0]) ?_ 1 _ rfl;(with_reducible repeat (first|refine z5 ?_ _|refine z8 ?_|refine z4 ?_ _));refine zH (cs:=#[.int .u64 0,.int .u64 0]) ?_ 0 _ rfl;(with_reducible repeat (first|refine z5 ?_ _|refine z8 ?_|refine z4 ?_ _));exact BK104.out) Try.underlying51 rfl (by kernel_rfl)) rfl ?_
 exact ⟨by first|rfl|(simp [zf,zg] <;> rfl)|(simp [*,zf,zg] <;> rfl),by repeat (first|(with_reducible first|exact HB.out|apply z2|apply z0|apply z1|refine z7 ?_ GE101.out|refine z7 ?_ GE102.out|refine z7 ?_ GE103.out|refine z7 ?_ GE104.out)|exact HB.out)⟩
end Go.Proofs.Ytngcaphdkgihmaa.P
namespace Go.Proofs.Ytngcaphdkgihmaa.P
open Go.RowKit Go.Proofs.YtngcaphdkgihmaaW.PrintWords Go.Proofs.YtngcaphdkgihmaaW.PrintLast Go.Proofs.YtngcaphdkgihmaaW.PrintMore
attribute [local go_sem] zS zU z12 z13 zK zL zT zV   -- for this text's walks alone
set_option linter.unusedVariables false
set_option linter.unusedSimpArgs false
mutual
def zu.l0 : Nat → Int → List (S51) → List (S51) → Int → Int → Option ((List (S51)) × Int)
 | 0,_,_,_,_,_=>none
 | k + 1,x0,x9,x23,x24,x25=>if x25 < x24 then (if 0 ≤ x25 then (if x25 < (x23.length : Int) then (zu.l1 k x0 x9 (wrap64 ((x9.length : Int) / 2)) x23 x24 x25 (wrap64 ((x9.length : Int) / 2)) 0 ((zE x23 x25).f0) ((zE x23 x25).f1)) else (none)) else (none)) else (some (x9,0))
def zu.l1 : Nat → Int → List (S51) → Int → List (S51) → Int → Int → Int → Int → Int → Int → Option ((List (S51)) × Int)
 | 0,_,_,_,_,_,_,_,_,_,_=>none
 | k + 1,x0,x9,x12,x23,x24,x25,x32,x33,x107000,x107001=>if x33 < x32 then (if 0 ≤ (wrap64 (2 * x33)) then (if (wrap64 (2 * x33)) < (x9.length : Int) then (if 0 ≤ (wrap64 ((wrap64 (2 * x33)) + 1)) then (if (wrap64 ((wrap64 (2 * x33)) + 1)) < (x9.length : Int) then ((zI.f k x0 ((zE x9 (wrap64 (2 * x33))).f0) ((zE x9 (wrap64 (2 * x33))).f1) ((zE x9 (wrap64 ((wrap64 (2 * x33)) + 1))).f0) ((zE x9 (wrap64 ((wrap64 (2 * x33)) + 1))).f1) x107000 x107001).bind fun bt109=>(if 0 ≤ x33 then (if x33 < (x9.length : Int) then (zu.l1 k x0 (x9.set (x33 : Int).toNat (⟨bt109.1,bt109.2⟩ : S51)) x12 x23 x24 x25 x32 (wrap64 (x33 + 1)) x107000 x107001) else (none)) else (none))) else (none)) else (none)) else (none)) else (none)) else (if 0 ≤ x12 then (if x12 ≤ (x9.length : Int) then (zu.l0 k x0 (x9.take (x12 : Int).toNat) x23 x24 (wrap64 (x25 + 1))) else (none)) else (none))
end
def zu.f (k : Nat) (a0 : Int) (l1 : List (S51)) (l2 : List (S51)) : Option ((List (S51)) × Int):=(zW.f k a0 l1 l2).bind fun t101=>(if t101 = 0 then ((z1a.f l1).bind fun t102=>(zu.l0 k a0 t102 l2 (l2.length : Int) 0)) else (some (([] : List (S51)),t101)))
theorem zu.zX : ∀ k,(∀ y0 y1 y2 y3 y4,LeO (zu.l0 k y0 y1 y2 y3 y4) (zu.l0 (k + 1) y0 y1 y2 y3 y4)) ∧ (∀ y0 y1 y2 y3 y4 y5 y6 y7 y8 y9,LeO (zu.l1 k y0 y1 y2 y3 y4 y5 y6 y7 y8 y9) (zu.l1 (k + 1) y0 y1 y2 y3 y4 y5 y6 y7 y8 y9))
 | 0=>⟨fun _ _ _ _ _ r h=>by simp [zu.l0] at h,fun _ _ _ _ _ _ _ _ _ _ r h=>by simp [zu.l1] at h⟩
 | k + 1=>by
  obtain ⟨ih0,ih1⟩:=zu.zX k
  refine ⟨?_,?_⟩
  · intro y0 y1 y2 y3 y4
    unfold zu.l0
    repeat' first
    | (with_reducible exact ih0 _ _ _ _ _)
    | (with_reducible exact ih1 _ _ _ _ _ _ _ _ _ _)
    | (with_reducible exact zW.mono _ _ _ _)
    | (with_reducible exact zI.mono _ _ _ _ _ _ _ _)
    | (with_reducible exact LeO.refl _)
    | (with_reducible exact LeO.none _)
    | (with_reducible refine LeO.ite ?_ ?_)
    | (with_reducible refine LeO.bind ?_ (fun _=>?_))
    | exact ih0 _ _ _ _ _
    | exact ih1 _ _ _ _ _ _ _ _ _ _
    | exact zW.mono _ _ _ _
    | exact zI.mono _ _ _ _ _ _ _ _
    | exact LeO.none _
    | refine LeO.ite ?_ ?_
    | refine LeO.bind ?_ (fun _=>?_)
  · intro y0 y1 y2 y3 y4 y5 y6 y7 y8 y9
    unfold zu.l1
    repeat' first
    | (with_reducible exact ih0 _ _ _ _ _)
    | (with_reducible exact ih1 _ _ _ _ _ _ _ _ _ _)
    | (with_reducible exact zW.mono _ _ _ _)
    | (with_reducible exact zI.mono _ _ _ _ _ _ _ _)
    | (with_reducible exact LeO.refl _)
    | (with_reducible exact LeO.none _)
    | (with_reducible refine LeO.ite ?_ ?_)
    | (with_reducible refine LeO.bind ?_ (fun _=>?_))
    | exact ih0 _ _ _ _ _
    | exact ih1 _ _ _ _ _ _ _ _ _ _
    | exact zW.mono _ _ _ _
    | exact zI.mono _ _ _ _ _ _ _ _
    | exact LeO.none _
    | refine LeO.ite ?_ ?_
    | refine LeO.bind ?_ (fun _=>?_)
theorem zu.mono : ∀ a0 a1 a2 k,LeO (zu.f k a0 a1 a2) (zu.f (k + 1) a0 a1 a2):=by
 intro a0 a1 a2 k
 obtain ⟨ih0,ih1⟩:=zu.zX k
 unfold zu.f
 repeat' first
  | (with_reducible exact ih0 _ _ _ _ _)
  | (with_reducible exact ih1 _ _ _ _ _ _ _ _ _ _)
  | (with_reducible exact zW.mono _ _ _ _)
  | (with_reducible exact zI.mono _ _ _ _ _ _ _ _)
  | (with_reducible exact LeO.refl _)
  | (with_reducible exact LeO.none _)
  | (with_reducible refine LeO.ite ?_ ?_)
  | (with_reducible refine LeO.bind ?_ (fun _=>?_))
  | exact ih0 _ _ _ _ _
  | exact ih1 _ _ _ _ _ _ _ _ _ _
  | exact zW.mono _ _ _ _
  | exact zI.mono _ _ _ _ _ _ _ _
  | exact LeO.none _
  | refine LeO.ite ?_ ?_
  | refine LeO.bind ?_ (fun _=>?_)
def zu.T12 : Bool × List (List Nat × List Nat):=(true,[([],[]),([],[]),([],[]),([],[]),([],[]),([4],[4]),([3,5],[3,5]),([6],[6]),([],[]),([],[]),([9],[9]),([10],[10]),([8,11],[8,11]),([12],[12]),([],[]),([2,7,13,14],[2,7,13,14]),([0,1,0,1,2,3,4,5,6,7,8,9,10,11,12,13,14,15],[0,1]),([16,15,15,0,1,2,3,4,5,6,7,8,9,10,11,12,13,14,15],[15,16])])
def zu.B12 : List Nat:=[0,0,0,0,0,16,56,120,0,0,512,1536,3840,7936,0,32764,65535,131071]
theorem zu.tab12 : rtab .any (opsOf Try.f51 12) = zu.T12:=by kernel_rfl
theorem zu.bits12 : waitsOk zu.T12.2 zu.B12 = true:=by kernel_rfl
set_option maxHeartbeats 8000000 in
set_option maxRecDepth 100000 in
theorem zu.calls (k : Nat) (a0 : Int) (A1 : Option Addr) (c1 : Nat) (l1 : List (S51)) (A2 : Option Addr) (c2 : Nat) (l2 : List (S51)) (r1 : List (S51)) (r2 : Int) (w : World) (hr1 : Kd.C k51 w A1 l1.length l1) (hc1 : l1.length ≤ c1) (hr2 : Kd.C k51 w A2 l2.length l2) (hc2 : l2.length ≤ c2) (h : zu.f k a0 l1 l2 = some (r1,r2)) :
 Calls Try.prog 51 #[.int .i64 a0,.slice A1 l1.length c1,.slice A2 l2.length c2] w fun e w'=>∃ v0_ : Value,e = .returned (.tuple #[v0_,.int .i64 r2]) ∧ Kd.R k51 51 w' w.heap.size (fun _=>True) v0_ r1 ∧ Below w.heap.size w w':=by
 have hu51:=Try.underlying51
 have HR1:=z3.mk hr1
 have HC1:=z3.mk hc1
 clear hr1 hc1
 have HR2:=z3.mk hr2
 have HC2:=z3.mk hc2
 clear hr2 hc2
 have HB:=z3.mk (Below.refl w.heap.size w)
 have H : ((zW.f k a0 l1 l2).bind fun t101=>(if t101 = 0 then ((z1a.f l1).bind fun t102=>(zu.l0 k a0 t102 l2 (l2.length : Int) 0)) else (some (([] : List (S51)),t101)))) = some (r1,r2):=h
 clear h
 replace H:=Option.bind_eq_some_iff.mp H
 obtain ⟨t101,A40,H⟩:=H
 replace H : (if t101 = 0 then ((z1a.f l1).bind fun t102=>(zu.l0 k a0 t102 l2 (l2.length : Int) 0)) else (some (([] : List (S51)),t101))) = some (r1,r2):=H
 have A4:=z3.mk A40
 clear A40
 by_cases c5 : t101 = 0
 rotate_left
 · rw [if_neg c5] at H
   have c5b0 : (t101 == 0) = false:=beq_eq_false_iff_ne.mpr c5
   have c5b1 : (t101 != 0) = true:=bne_iff_ne.mpr c5
   simp only [Option.some.injEq,Prod.mk.injEq] at H
   obtain ⟨rfl,rfl⟩:=H
   go_enter Try.func51,Try.ntmps51
   go_wp2_with (first|((with_reducible refine zt (f:=85) rfl ?_);refine goesL_ (some 17) rfl rfl Try.func85 (by kernel_rfl) rfl #[.int .i64 a0,.slice A1 l1.length c1,.slice A2 l2.length c2] rfl (by (try simp only [List.map_toArray,List.map_cons,List.map_nil]);first|done|rfl|(simp only [List.length_drop,List.length_take];rfl)) ?_;(with_reducible refine (zW.calls k a0 _ _ l1 _ _ l2 t101 _ ?side1 ?side2 ?side3 ?side4 A4.out).mono ?_);(case side1=>repeat (first|exact HR1.out|(with_reducible refine Kd.z18 ?_ _)|(with_reducible refine Kd.z19 ?_ _)|(with_reducible refine Kd.z1g ?_)));(case side2=>exact HC1.out);(case side3=>repeat (first|exact HR2.out|(with_reducible refine Kd.z18 ?_ _)|(with_reducible refine Kd.z19 ?_ _)|(with_reducible refine Kd.z1g ?_)));(case side4=>exact HC2.out);rintro e w33 ⟨rfl,hb⟩;refine ⟨_,rfl,?_⟩;have n0_:=z3.mk (zc (by repeat (first|(with_reducible first|exact HB.out|apply z2|apply z0|apply z1)|exact HB.out)) hb);clear HB;have HB:=n0_;clear n0_;(try clear hb);(try clear hb2);(try clear hk);(try clear hi)))
   go_ret2
   exact ⟨_,by first|rfl|(simp [zf,zg] <;> rfl)|(simp [*,zf,zg] <;> rfl),by first|exact Kd.z3B _ _ _ _ _|exact Kd.N_nil _ _ _ _ _|exact Kd.V_nil _ _ _ _ _|exact Kd.Q_nil _ _ _ _ _|exact Kd.S_nil _ _ _ _ _,by repeat (first|(with_reducible first|exact HB.out|apply z2|apply z0|apply z1)|exact HB.out)⟩
 rw [if_pos c5] at H
 have c5b0 : (t101 == 0) = true:=beq_iff_eq.mpr c5
 have c5b1 : (t101 != 0) = false:=bne_eq_false_iff_eq.mpr c5
 clear c5
 replace H:=Option.bind_eq_some_iff.mp H
 obtain ⟨t102,A60,H⟩:=H
 replace H : (zu.l0 k a0 t102 l2 (l2.length : Int) 0) = some (r1,r2):=H
 have A6:=z3.mk A60
 clear A60
 have H':=z3.mk H
 clear H
 go_enter Try.func51,Try.ntmps51
 go_wp2_with (first|((with_reducible refine zt (f:=85) rfl ?_);refine goesL_ (some 17) rfl rfl Try.func85 (by kernel_rfl) rfl #[.int .i64 a0,.slice A1 l1.length c1,.slice A2 l2.length c2] rfl (by (try simp only [List.map_toArray,List.map_cons,List.map_nil]);first|done|rfl|(simp only [List.length_drop,List.length_take];rfl)) ?_;(with_reducible refine (zW.calls k a0 _ _ l1 _ _ l2 t101 _ ?side1 ?side2 ?side3 ?side4 A4.out).mono ?_);(case side1=>repeat (first|exact HR1.out|(with_reducible refine Kd.z18 ?_ _)|(with_reducible refine Kd.z19 ?_ _)|(with_reducible refine Kd.z1g ?_)));(case side2=>exact HC1.out);(case side3=>repeat (first|exact HR2.out|(with_reducible refine Kd.z18 ?_ _)|(with_reducible refine Kd.z19 ?_ _)|(with_reducible refine Kd.z1g ?_)));(case side4=>exact HC2.out);rintro e w7 ⟨rfl,hb⟩;refine ⟨_,rfl,?_⟩;have n0_:=z3.mk (zc (by repeat (first|(with_reducible first|exact HB.out|apply z2|apply z0|apply z1)|exact HB.out)) hb);clear HB;have HB:=n0_;clear n0_;(try clear hb);(try clear hb2);(try clear hk);(try clear hi))|((with_reducible refine zt (f:=64) rfl ?_);refine goesL_ (some 22) rfl rfl Try.func64 (by kernel_rfl) rfl #[.slice A1 l1.length c1] rfl (by (try simp only [List.map_toArray,List.map_cons,List.map_nil]);first|done|rfl|(simp only [List.length_drop,List.length_take];rfl)) ?_;(with_reducible refine (z1a.calls _ _ l1 t102 _ ?side1 ?side2 A6.out).mono ?_);(case side1=>repeat (first|exact (Kd.z1f HR1.out HB.out)|(with_reducible refine Kd.z18 ?_ _)|(with_reducible refine Kd.z19 ?_ _)|(with_reducible refine Kd.z1g ?_)));(case side2=>exact HC1.out);rintro e w8 ⟨v103,rfl,ho0,hb⟩;refine ⟨_,rfl,?_⟩;have n0_:=z3.mk (Kd.z1s ho0 (zd (by repeat (first|(with_reducible first|exact HB.out|apply z2|apply z0|apply z1)|exact HB.out))));have n1_:=z3.mk (zc (by repeat (first|(with_reducible first|exact HB.out|apply z2|apply z0|apply z1)|exact HB.out)) hb);clear HB;have HO104:=n0_;have HB:=n1_;clear n0_ n1_;(try clear hb);(try clear hb2);(try clear hk);(try clear hi);(try clear ho0)))
 go_loopg [9,25] k (fun kq v9 v25 w'=>∃ (x9_1 : List (S51)) (x25_1 : Int),v25 = .int .i64 x25_1 ∧ z3 (zu.l0 kq a0 x9_1 l2 (l2.length : Int) x25_1 = some (r1,r2)) ∧ z3 (kq ≤ k) ∧ z3 (Kd.R k51 51 w' w.heap.size (fun _=>True) v9 x9_1) ∧ z3 (Below w.heap.size w w'))
 case atStart=>exact ⟨(t102),(0),(by first|rfl|(simp;done)|(simp [*];done)),H',⟨Nat.le_refl _⟩,⟨by (with_reducible repeat (first|apply Kd.zP|apply Kd.zQ|apply Kd.z10));exact HO104.out⟩,⟨by repeat (first|(with_reducible first|exact HB.out|apply z2|apply z0|apply z1)|exact HB.out)⟩⟩
 case round =>
  clear H'
  (try clear c1);(try clear c2);(try clear p2);(try clear c5);(try clear c5b0);(try clear c5b1);(try clear c6);(try clear c8)
  obtain ⟨x9_1,x25_1,rfl,HA,HK1,HO_9,HB⟩:=hrel
  cases gk with
  | zero=>exact absurd HA.out (by simp [zu.l0])
  | succ k1 =>
   have H:=HA.out
   clear HA
   simp only [zu.l0] at H
   by_cases c9 : x25_1 < (l2.length : Int)
   rotate_left
   · rw [if_neg c9] at H
     have c9b0 : decide (x25_1 < (l2.length : Int)) = false:=decide_eq_false c9
     clear c9
     simp only [Option.some.injEq,Prod.mk.injEq] at H
     obtain ⟨rfl,rfl⟩:=H
     go_wp2
     go_ret2
     exact ⟨_,by first|rfl|(simp [zf,zg] <;> rfl)|(simp [*,zf,zg] <;> rfl),by (with_reducible repeat (first|apply Kd.zP|apply Kd.zQ|apply Kd.z10));exact HO_9.out,by repeat (first|(with_reducible first|exact HB.out|apply z2|apply z0|apply z1)|exact HB.out)⟩
   rw [if_pos c9] at H
   have c9b0 : decide (x25_1 < (l2.length : Int)) = true:=decide_eq_true c9
   clear c9
   by_cases c10 : 0 ≤ x25_1
   rotate_left
   · rw [if_neg c10] at H
     exact absurd H (by simp)
   rw [if_pos c10] at H
   have c10b0 : decide (0 ≤ x25_1) = true:=decide_eq_true c10
   clear c10
   by_cases c11 : x25_1 < (l2.length : Int)
   rotate_left
   · rw [if_neg c11] at H
     exact absurd H (by simp)
   rw [if_pos c11] at H
   have c11b0 : decide (x25_1 < (l2.length : Int)) = true:=decide_eq_true c11
   clear c11
   obtain ⟨ji12,hji12⟩ : ∃ j_ : Int,(wrap64 ((x9_1.length : Int) / 2)) = j_:=⟨_,rfl⟩
   replace H : (zu.l1 k1 a0 x9_1 ji12 l2 (l2.length : Int) x25_1 ji12 0 ((zE l2 x25_1).f0) ((zE l2 x25_1).f1)) = some (r1,r2):=by first|(rw [hji12] at H;exact H)|(simp only [hji12] at H ⊢;exact H)
   have hji12w : (IntKind.i64.wrap ((x9_1.length : Int) / 2)) = ji12:=(zD _).trans hji12
   have H':=z3.mk H
   clear H
   have p105 : 0 ≤ (x25_1 : Int):=of_decide_eq_true (by first|(with_reducible assumption)|assumption)
   have q105 : x25_1 < (l2.length : Int):=of_decide_eq_true (by first|(with_reducible assumption)|assumption)
   obtain ⟨ad105,e105,hx105_0,hx105_1⟩:=z26 HR2.out x25_1 p105 q105
   cases e105
   replace hx105_0:=(HB.out.cell (World.block_lt_of_cell? w _ hx105_0)).trans hx105_0
   replace hx105_1:=(HB.out.cell (World.block_lt_of_cell? w _ hx105_1)).trans hx105_1
   replace p105:=eq_true p105
   replace q105:=eq_true q105
   go_wp2_with (first|((with_reducible refine zA (N:=11) rfl ?_);refine zy ?hg (N:=11) ?hd (cs:=#[.int .u64 0,.int .u64 0]) (t:=51) ?hr ?_;(case hd=>rfl);(case hg=>rfl);(case hr=>first|(go_simp;done)|(go_simp;rfl));intro gb106 hg w13 hbox hb;have n0_:=z3.mk (Kd.z1e (Kd.z1F (by (with_reducible repeat (first|apply Kd.zP|apply Kd.zQ|apply Kd.z10));exact HO_9.out) gb106 (Nat.le_of_eq hg.symm)) hb);have n1_:=z3.mk (zc (by repeat (first|(with_reducible first|exact HB.out|apply z2|apply z0|apply z1)|exact HB.out)) hb);have n2_:=z3.mk (hbox);have n3_:=z3.mk ((by rw [hg];exact (zd (by repeat (first|(with_reducible first|exact HB.out|apply z2|apply z0|apply z1)|exact HB.out))) : w.heap.size ≤ gb106));have n4_:=z3.mk ((by rw [hg];exact (zd (by repeat (first|(with_reducible first|exact HB.out|apply z2|apply z0|apply z1)|exact HB.out))) : w.heap.size ≤ gb106));clear HO_9;clear HB;have HO_9:=n0_;have HB:=n1_;have BK106:=n2_;have GW106:=n3_;have GE106:=n4_;clear n0_ n1_ n2_ n3_ n4_;clear hb hbox hg;have hcz14_0 : w13.cell? ⟨gb106,0,none⟩ = some (.int .u64 0):=(za BK106.out 0).trans rfl;have hcz14_1 : w13.cell? ⟨gb106,1,none⟩ = some (.int .u64 0):=(za BK106.out 1).trans rfl;have hfz14_0:=zb BK106.out 0;have hfz14_1:=zb BK106.out 1;obtain ⟨Ao15,co15,eo15⟩:=Kd.z1p HO_9.out;subst eo15))
   go_loopg [33] k1 (fun kq v33 w'=>∃ (x9_2 : List (S51)) (x33_2 : Int) (x107000_2 : Int) (x107001_2 : Int),v33 = .int .i64 x33_2 ∧ z3 (zu.l1 kq a0 x9_2 ji12 l2 (l2.length : Int) x25_1 ji12 x33_2 x107000_2 x107001_2 = some (r1,r2)) ∧ z3 (kq ≤ k1) ∧ z3 (Kd.R k51 51 w' w.heap.size (fun k_=>k_ ≠ gb106) (.slice Ao15 x9_1.length co15) x9_2) ∧ z3 (w'.heap[gb106]? = some (.cells #[.int .u64 x107000_2,.int .u64 x107001_2] 51 (0,0))) ∧ z3 (Below w.heap.size w w'))
   case atStart=>exact ⟨(x9_1),(0),((zE l2 x25_1).f0),((zE l2 x25_1).f1),(by first|rfl|(simp;done)|(simp [*];done)),H',⟨Nat.le_refl _⟩,⟨by (with_reducible repeat (first|apply Kd.zP|apply Kd.zQ|apply Kd.z10));exact Kd.z1L (Kd.z3A (p:=⟨gb106,1,none⟩) (Kd.z3A (p:=⟨gb106,0,none⟩) (Kd.z1L HO_9.out (fun k_ hk=>(⟨hk,hk.2⟩ : _ ∧ k_ ≠ gb106))) (fun _ hk=>hk.2) (.int .u64 ((zE l2 x25_1).f0))) (fun _ hk=>hk.2) (.int .u64 ((zE l2 x25_1).f1))) (fun _ hk=>hk.1.2)⟩,⟨by (with_reducible repeat (first|refine z5 ?_ _|refine z8 ?_|refine z4 ?_ _));refine zH (cs:=#[.int .u64 ((zE l2 x25_1).f0),.int .u64 0]) ?_ 1 _ rfl;(with_reducible repeat (first|refine z5 ?_ _|refine z8 ?_|refine z4 ?_ _));refine zH (cs:=#[.int .u64 0,.int .u64 0]) ?_ 0 _ rfl;(with_reducible repeat (first|refine z5 ?_ _|refine z8 ?_|refine z4 ?_ _));exact BK106.out⟩,⟨by repeat (first|(with_reducible first|exact HB.out|apply z2|apply z0|apply z1|refine z7 ?_ GE106.out)|exact HB.out)⟩⟩
   case round =>
    clear H'
    (try clear c1);(try clear p1);(try clear q1);(try clear hx1);(try clear c2);(try clear p2);(try clear c5);(try clear c5b0);(try clear c5b1);(try clear c6);(try clear p6);(try clear c8);(try clear c9);(try clear c9b0);(try clear c10);(try clear c10b0);(try clear p10);(try clear q10);(try clear hx10);(try clear c11);(try clear c11b0);(try clear hcz14_0);(try clear hcz14_1);(try clear hfz14_0);(try clear hfz14_1);(try clear hx105_0);(try clear hx105_1);(try clear p105);(try clear p2);(try clear q105)
    obtain ⟨x9_2,x33_2,x107000_2,x107001_2,rfl,HA,HK2,HO_9,BK106,HB⟩:=hrel
    have hl9_2:=(Kd.z11 HO_9.out).1
    rw [hl9_2] at HO_9
    (try simp only [hl9_2])
    (try simp only [hl9_2] at BK106)
    cases gk with
    | zero=>exact absurd HA.out (by simp [zu.l1])
    | succ k2 =>
     have H:=HA.out
     clear HA
     simp only [zu.l1] at H
     by_cases c16 : x33_2 < ji12
     rotate_left
     · rw [if_neg c16] at H
       have c16b0 : decide (x33_2 < ji12) = false:=decide_eq_false c16
       clear c16
       by_cases c30 : 0 ≤ ji12
       rotate_left
       · rw [if_neg c30] at H
         exact absurd H (by simp)
       rw [if_pos c30] at H
       have c30b0:=eq_true c30
       have c30b1 : decide (0 ≤ ji12) = true:=decide_eq_true c30
       clear c30
       by_cases c31 : ji12 ≤ (x9_2.length : Int)
       rotate_left
       · rw [if_neg c31] at H
         exact absurd H (by simp)
       rw [if_pos c31] at H
       have c31b0:=eq_true c31
       have c31b1 : decide (ji12 ≤ (x9_2.length : Int)) = true:=decide_eq_true c31
       clear c31
       obtain ⟨y112,hy112⟩ : ∃ y_ : List (S51),y_ = (x9_2.take (ji12 : Int).toNat):=⟨_,rfl⟩
       replace H : (zu.l0 k2 a0 y112 l2 (l2.length : Int) (wrap64 (x25_1 + 1))) = some (r1,r2):=by first|(rw [hy112];with_reducible exact H)|(have H2_:=(Option.bind_some _ _).symm.trans H;rw [hy112];with_reducible exact H2_)|(have H2_:=(Option.bind_some _ _).symm.trans H;with_reducible exact H2_)|with_reducible exact H|(rw [hy112];exact H)|exact H
       have Ny112:=z3.mk hy112
       clear hy112
       have H':=z3.mk H
       clear H
       have q32 : (ji12 : Int) ≤ ((x9_2.length : Int) : Int):=of_decide_eq_true (by first|(with_reducible assumption)|assumption)
       obtain ⟨i032,hi032,_,hsz32,_⟩:=info_parts info51
       have hcut32:=cut_to (P:=Try.prog) 37 51 .i64 Try.underlying37 hi032 Ao15 x9_2.length co15 ji12 (of_decide_eq_true (by first|(with_reducible assumption)|assumption)) q32 (Kd.z11 HO_9.out).2.1
       have hr32:=Kd.R_take (m:=(ji12 : Int).toNat) HO_9.out (by omega)
       have hy32 : y112.length = (ji12 : Int).toNat:=(by rw [Ny112.out,List.length_take];omega)
       rw [← Ny112.out] at hr32
       rw [← hy32] at hr32 hcut32
       clear hy32 hi032 hsz32 HO_9
       have HO114:=z3.mk hr32
       clear hr32
       replace q32:=eq_true q32
       go_wp2
       (try simp only [← hl9_2])
       go_roundg k2
       case measure=>have:=HK1.out;have:=HK2.out;omega
       case rel=>exact ⟨(y112),(wrap64 (x25_1 + 1)),(by first|rfl|(simp;done)|(simp [*];done)),H',⟨by have:=HK1.out;have:=HK2.out;omega⟩,⟨by (try simp only [hl9_2]);(with_reducible repeat (first|apply Kd.zP|apply Kd.zQ|apply Kd.z10));exact Kd.z1L HO114.out (fun _ hk=>trivial)⟩,⟨by repeat (first|(with_reducible first|exact HB.out|apply z2|apply z0|apply z1|refine z7 ?_ GE106.out)|exact HB.out)⟩⟩
     rw [if_pos c16] at H
     have c16b0 : decide (x33_2 < ji12) = true:=decide_eq_true c16
     clear c16
     obtain ⟨ji17,hji17⟩ : ∃ j_ : Int,(wrap64 (2 * x33_2)) = j_:=⟨_,rfl⟩
     replace H : (if 0 ≤ (ji17) then (if (ji17) < (x9_2.length : Int) then (if 0 ≤ (wrap64 ((ji17) + 1)) then (if (wrap64 ((ji17) + 1)) < (x9_2.length : Int) then ((zI.f k2 a0 ((zE x9_2 (ji17)).f0) ((zE x9_2 (ji17)).f1) ((zE x9_2 (wrap64 ((ji17) + 1))).f0) ((zE x9_2 (wrap64 ((ji17) + 1))).f1) x107000_2 x107001_2).bind fun bt109=>(if 0 ≤ x33_2 then (if x33_2 < (x9_2.length : Int) then (zu.l1 k2 a0 (x9_2.set (x33_2 : Int).toNat (⟨bt109.1,bt109.2⟩ : S51)) ji12 l2 (l2.length : Int) x25_1 ji12 (wrap64 (x33_2 + 1)) x107000_2 x107001_2) else (none)) else (none))) else (none)) else (none)) else (none)) else (none)) = some (r1,r2):=by first|(rw [hji17] at H;exact H)|(simp only [hji17] at H ⊢;exact H)
     have hji17w : (IntKind.i64.wrap (2 * x33_2)) = ji17:=(zD _).trans hji17
     by_cases c18 : 0 ≤ (ji17)
     rotate_left
     · rw [if_neg c18] at H
       exact absurd H (by simp)
     rw [if_pos c18] at H
     have c18b0 : decide (0 ≤ (ji17)) = true:=decide_eq_true c18
     clear c18
     by_cases c19 : (ji17) < (x9_2.length : Int)
     rotate_left
     · rw [if_neg c19] at H
       exact absurd H (by simp)
     rw [if_pos c19] at H
     have c19b0 : decide ((ji17) < (x9_2.length : Int)) = true:=decide_eq_true c19
     clear c19
     obtain ⟨ji20,hji20⟩ : ∃ j_ : Int,(wrap64 ((ji17) + 1)) = j_:=⟨_,rfl⟩
     replace H : (if 0 ≤ (ji20) then (if (ji20) < (x9_2.length : Int) then ((zI.f k2 a0 ((zE x9_2 (ji17)).f0) ((zE x9_2 (ji17)).f1) ((zE x9_2 (ji20)).f0) ((zE x9_2 (ji20)).f1) x107000_2 x107001_2).bind fun bt109=>(if 0 ≤ x33_2 then (if x33_2 < (x9_2.length : Int) then (zu.l1 k2 a0 (x9_2.set (x33_2 : Int).toNat (⟨bt109.1,bt109.2⟩ : S51)) ji12 l2 (l2.length : Int) x25_1 ji12 (wrap64 (x33_2 + 1)) x107000_2 x107001_2) else (none)) else (none))) else (none)) else (none)) = some (r1,r2):=by first|(rw [hji20] at H;exact H)|(simp only [hji20] at H ⊢;exact H)
     have hji20w : (IntKind.i64.wrap ((ji17) + 1)) = ji20:=(zD _).trans hji20
     by_cases c21 : 0 ≤ (ji20)
     rotate_left
     · rw [if_neg c21] at H
       exact absurd H (by simp)
     rw [if_pos c21] at H
     have c21b0 : decide (0 ≤ (ji20)) = true:=decide_eq_true c21
     clear c21
     by_cases c22 : (ji20) < (x9_2.length : Int)
     rotate_left
     · rw [if_neg c22] at H
       exact absurd H (by simp)
     rw [if_pos c22] at H
     have c22b0 : decide ((ji20) < (x9_2.length : Int)) = true:=decide_eq_true c22
     clear c22
     replace H:=Option.bind_eq_some_iff.mp H
     obtain ⟨⟨t109,t110⟩,A230,H⟩:=H
     replace H : (if 0 ≤ x33_2 then (if x33_2 < (x9_2.length : Int) then (zu.l1 k2 a0 (x9_2.set (x33_2 : Int).toNat (⟨t109,t110⟩ : S51)) ji12 l2 (l2.length : Int) x25_1 ji12 (wrap64 (x33_2 + 1)) x107000_2 x107001_2) else (none)) else (none)) = some (r1,r2):=H
     have A23:=z3.mk A230
     clear A230
     by_cases c24 : 0 ≤ x33_2
     rotate_left
     · rw [if_neg c24] at H
       exact absurd H (by simp)
     rw [if_pos c24] at H
     have c24b0 : decide (0 ≤ x33_2) = true:=decide_eq_true c24
     clear c24
     by_cases c25 : x33_2 < (x9_2.length : Int)
     rotate_left
     · rw [if_neg c25] at H
       exact absurd H (by simp)
     rw [if_pos c25] at H
     have c25b0 : decide (x33_2 < (x9_2.length : Int)) = true:=decide_eq_true c25
     clear c25
     obtain ⟨y111,hy111⟩ : ∃ y_ : List (S51),y_ = (x9_2.set (x33_2 : Int).toNat (⟨t109,t110⟩ : S51)):=⟨_,rfl⟩
     replace H : (zu.l1 k2 a0 y111 ji12 l2 (l2.length : Int) x25_1 ji12 (wrap64 (x33_2 + 1)) x107000_2 x107001_2) = some (r1,r2):=by first|(rw [hy111];with_reducible exact H)|(have H2_:=(Option.bind_some _ _).symm.trans H;rw [hy111];with_reducible exact H2_)|(have H2_:=(Option.bind_some _ _).symm.trans H;with_reducible exact H2_)|with_reducible exact H|(rw [hy111];exact H)|exact H
     have Ny111:=z3.mk hy111
     clear hy111
     have H':=z3.mk H
     clear H
     try go_wp2
     have n0_:=z3.mk (Kd.z10 HO_9.out)
     have n1_:=z3.mk (z8 BK106.out)
     have n2_:=z3.mk (z1 HB.out)
     clear HO_9
     clear BK106
     clear HB
     have HO_9:=n0_
     have BK106:=n1_
     have HB:=n2_
     clear n0_ n1_ n2_
     have p107 : 0 ≤ ((ji17) : Int):=of_decide_eq_true (by first|(with_reducible assumption)|assumption)
     have q107 : (ji17) < (x9_2.length : Int):=of_decide_eq_true (by first|(with_reducible assumption)|assumption)
     obtain ⟨ad107,e107,hx107_0,hx107_1⟩:=z26 (Kd.z11 HO_9.out).2.2 (ji17) p107 q107
     cases e107
     replace p107:=eq_true p107
     replace q107:=eq_true q107
     have p108 : 0 ≤ ((ji20) : Int):=of_decide_eq_true (by first|(with_reducible assumption)|assumption)
     have q108 : (ji20) < (x9_2.length : Int):=of_decide_eq_true (by first|(with_reducible assumption)|assumption)
     obtain ⟨ad108,e108,hx108_0,hx108_1⟩:=z26 (Kd.z11 HO_9.out).2.2 (ji20) p108 q108
     obtain rfl : ad107 = ad108:=(by injection e108)
     replace p108:=eq_true p108
     replace q108:=eq_true q108
     refine start_ (n:=18) (S:=fun w'=>w'.cell? ⟨gb106,0,none⟩ = some (.int .u64 x107000_2) ∧ w'.cell? ⟨gb106,1,none⟩ = some (.int .u64 x107001_2) ∧ w'.cell? (ad107.add (((ji17)).toNat * 2)) = some (.int .u64 ((zE x9_2 (ji17)).f0)) ∧ w'.cell? ⟨(ad107.add (((ji17)).toNat * 2)).block,(ad107.add (((ji17)).toNat * 2)).off + 1,none⟩ = some (.int .u64 ((zE x9_2 (ji17)).f1)) ∧ w'.cell? (ad107.add (((ji20)).toNat * 2)) = some (.int .u64 ((zE x9_2 (ji20)).f0)) ∧ w'.cell? ⟨(ad107.add (((ji20)).toNat * 2)).block,(ad107.add (((ji20)).toNat * 2)).off + 1,none⟩ = some (.int .u64 ((zE x9_2 (ji20)).f1))) (ds:=[17]) #[false,false,false,false,false,false,false,false,false,false,false,false,false,false,false,false,false,false] (by kernel_rfl) rfl rfl ⟨(za BK106.out 0).trans rfl,(za BK106.out 1).trans rfl,hx107_0,hx107_1,hx108_0,hx108_1⟩ (fun hHeld=>?_);refine z1A zu.tab12 zu.bits12 (fun HT_ HW_=>?_)
     generalize wr.drew = w27 at HO_9 BK106 HB hx107_0 hx107_1 hx108_0 hx108_1 hHeld ⊢
     refine pure_ (i:=0) (N:=some 36) (v:=?_) (a':=?_) #[true,false,false,false,false,false,false,false,false,false,false,false,false,false,false,false,false,false] rfl rfl (zR HT_.out (by kernel_rfl)) (fun _ _ _ h=>h) (Or.inl ⟨by rfl,?_⟩) ?_ ?_
     rotate_left
     · intro w'
       go_simp
       with_reducible rfl
     rotate_left
     · simp only [Act.put,List.setIfInBounds_toArray,List.set_cons_zero,List.set_cons_succ,zD,zF]
       rfl
     refine pure_ (i:=1) (N:=some 37) (v:=?_) (a':=?_) #[true,true,false,false,false,false,false,false,false,false,false,false,false,false,false,false,false,false] rfl rfl (zR HT_.out (by kernel_rfl)) (fun _ _ _ h=>h) (Or.inl ⟨by rfl,?_⟩) ?_ ?_
     rotate_left
     · intro w'
       go_simp
       with_reducible rfl
     rotate_left
     · simp only [Act.put,List.setIfInBounds_toArray,List.set_cons_zero,List.set_cons_succ,zD,zF]
       rfl
     refine pure_ (i:=2) (N:=some 38) (v:=?_) (a':=?_) #[true,true,true,false,false,false,false,false,false,false,false,false,false,false,false,false,false,false] rfl rfl (zR HT_.out (by kernel_rfl)) (fun _ _ _ h=>h) (Or.inl ⟨by rfl,?_⟩) ?_ ?_
     rotate_left
     · intro w'
       go_simp
       with_reducible rfl
     rotate_left
     · simp only [Act.put,List.setIfInBounds_toArray,List.set_cons_zero,List.set_cons_succ,zD,zF]
       rfl
     refine pure_ (i:=3) (N:=some 39) (v:=?_) (a':=?_) #[true,true,true,true,false,false,false,false,false,false,false,false,false,false,false,false,false,false] rfl rfl (zR HT_.out (by kernel_rfl)) (fun _ _ _ h=>h) (Or.inl ⟨by rfl,?_⟩) ?_ ?_
     rotate_left
     · intro w'
       go_simp
       with_reducible rfl
     rotate_left
     · simp only [Act.put,List.setIfInBounds_toArray,List.set_cons_zero,List.set_cons_succ,zD,zF]
       rfl
     refine pure_ (i:=4) (N:=some 40) (v:=?_) (a':=?_) #[true,true,true,true,true,false,false,false,false,false,false,false,false,false,false,false,false,false] rfl rfl (zR HT_.out (by kernel_rfl)) (fun _ _ _ h=>h) (Or.inl ⟨by rfl,?_⟩) ?_ ?_
     rotate_left
     · intro w'
       go_simp
       with_reducible rfl
     rotate_left
     · simp only [Act.put,List.setIfInBounds_toArray,List.set_cons_zero,List.set_cons_succ,zD,zF]
       rfl
     refine pure_ (i:=5) (N:=some 41) (v:=?_) (a':=?_) #[true,true,true,true,true,true,false,false,false,false,false,false,false,false,false,false,false,false] rfl rfl (zR HT_.out (by kernel_rfl)) (fun _ _ _ h=>h) (Or.inl ⟨by rfl,?_⟩) ?_ ?_
     rotate_left
     · intro w'
       go_simp
       with_reducible rfl
     rotate_left
     · simp only [Act.put,List.setIfInBounds_toArray,List.set_cons_zero,List.set_cons_succ,zD,zF]
       rfl
     refine pure_ (i:=6) (N:=some 42) (v:=?_) (a':=?_) #[true,true,true,true,true,true,true,false,false,false,false,false,false,false,false,false,false,false] rfl rfl (zR HT_.out (by kernel_rfl)) (fun _ _ _ h=>h) (Or.inl ⟨by rfl,?_⟩) ?_ ?_
     rotate_left
     · intro w'
       go_simp
       with_reducible rfl
     rotate_left
     · simp only [Act.put,List.setIfInBounds_toArray,List.set_cons_zero,List.set_cons_succ,zD,zF]
       rfl
     refine pure_ (i:=8) (N:=some 44) (v:=?_) (a':=?_) #[true,true,true,true,true,true,true,false,true,false,false,false,false,false,false,false,false,false] rfl rfl (zR HT_.out (by kernel_rfl)) (fun _ _ _ h=>h) (Or.inl ⟨by rfl,?_⟩) ?_ ?_
     rotate_left
     · intro w'
       go_simp
       with_reducible rfl
     rotate_left
     · simp only [Act.put,List.setIfInBounds_toArray,List.set_cons_zero,List.set_cons_succ,zD,zF]
       rfl
     refine pure_ (i:=9) (N:=some 45) (v:=?_) (a':=?_) #[true,true,true,true,true,true,true,false,true,true,false,false,false,false,false,false,false,false] rfl rfl (zR HT_.out (by kernel_rfl)) (fun _ _ _ h=>h) (Or.inl ⟨by rfl,?_⟩) ?_ ?_
     rotate_left
     · intro w'
       go_simp
       with_reducible rfl
     rotate_left
     · simp only [Act.put,List.setIfInBounds_toArray,List.set_cons_zero,List.set_cons_succ,zD,zF]
       rfl
     refine pure_ (i:=10) (N:=some 46) (v:=?_) (a':=?_) #[true,true,true,true,true,true,true,false,true,true,true,false,false,false,false,false,false,false] rfl rfl (zR HT_.out (by kernel_rfl)) (fun _ _ _ h=>h) (Or.inl ⟨by rfl,?_⟩) ?_ ?_
     rotate_left
     · intro w'
       go_simp
       with_reducible rfl
     rotate_left
     · simp only [Act.put,List.setIfInBounds_toArray,List.set_cons_zero,List.set_cons_succ,zD,zF]
       rfl
     refine pure_ (i:=11) (N:=some 47) (v:=?_) (a':=?_) #[true,true,true,true,true,true,true,false,true,true,true,true,false,false,false,false,false,false] rfl rfl (zR HT_.out (by kernel_rfl)) (fun _ _ _ h=>h) (Or.inl ⟨by rfl,?_⟩) ?_ ?_
     rotate_left
     · intro w'
       go_simp
       with_reducible rfl
     rotate_left
     · simp only [Act.put,List.setIfInBounds_toArray,List.set_cons_zero,List.set_cons_succ,zD,zF]
       rfl
     refine pure_ (i:=12) (N:=some 48) (v:=?_) (a':=?_) #[true,true,true,true,true,true,true,false,true,true,true,true,true,false,false,false,false,false] rfl rfl (zR HT_.out (by kernel_rfl)) (fun _ _ _ h=>h) (Or.inl ⟨by rfl,?_⟩) ?_ ?_
     rotate_left
     · intro w'
       go_simp
       with_reducible rfl
     rotate_left
     · simp only [Act.put,List.setIfInBounds_toArray,List.set_cons_zero,List.set_cons_succ,zD,zF]
       rfl
     refine take_ (i:=7) (N:=some 43) (v:=?_) (a':=?_) #[true,true,true,true,true,true,true,true,true,true,true,true,true,false,false,false,false,false] rfl rfl (z1k HT_.out HW_.out (by kernel_rfl)) (fun _ _ _ h=>h) (Or.inl ⟨by rfl,?_⟩) hHeld ?_ ?_
     rotate_left
     · rintro w' ⟨s0,s1,s2,s3,s4,s5⟩
       go_simp
       with_reducible rfl
     rotate_left
     · simp only [Act.put,List.setIfInBounds_toArray,List.set_cons_zero,List.set_cons_succ,zD,zF]
       rfl
     refine take_ (i:=13) (N:=some 49) (v:=?_) (a':=?_) #[true,true,true,true,true,true,true,true,true,true,true,true,true,true,false,false,false,false] rfl rfl (z1k HT_.out HW_.out (by kernel_rfl)) (fun _ _ _ h=>h) (Or.inl ⟨by rfl,?_⟩) hHeld ?_ ?_
     rotate_left
     · rintro w' ⟨s0,s1,s2,s3,s4,s5⟩
       go_simp
       with_reducible rfl
     rotate_left
     · simp only [Act.put,List.setIfInBounds_toArray,List.set_cons_zero,List.set_cons_succ,zD,zF]
       rfl
     refine take_ (i:=14) (N:=some 50) (v:=?_) (a':=?_) #[true,true,true,true,true,true,true,true,true,true,true,true,true,true,true,false,false,false] rfl rfl (z1k HT_.out HW_.out (by kernel_rfl)) (fun _ _ _ h=>h) (Or.inl ⟨by rfl,?_⟩) hHeld ?_ ?_
     rotate_left
     · rintro w' ⟨s0,s1,s2,s3,s4,s5⟩
       go_simp
       with_reducible rfl
     rotate_left
     · simp only [Act.put,List.setIfInBounds_toArray,List.set_cons_zero,List.set_cons_succ,zD,zF]
       rfl
     refine one_ (i:=15) (N:=some 51) #[true,true,true,true,true,true,true,true,true,true,true,true,true,true,true,true,false,false] rfl rfl (z1w HT_.out (by kernel_rfl)) (by decide) (fun K hK=>?_)
     refine goes_ Try.func86 (by kernel_rfl) rfl #[.int .i64 a0,.agg #[.int .u64 ((zE x9_2 (ji17)).f0),.int .u64 ((zE x9_2 (ji17)).f1)],.agg #[.int .u64 ((zE x9_2 (ji20)).f0),.int .u64 ((zE x9_2 (ji20)).f1)],.agg #[.int .u64 x107000_2,.int .u64 x107001_2]] (by rfl) rfl rfl (by (try simp only [List.map_toArray,List.map_cons,List.map_nil]);first|done|(simp only [hji17,hji20];rfl)|rfl|(simp only [List.length_drop,List.length_take];rfl)) ?_
     with_reducible refine (zI.calls k2 a0 ((zE x9_2 (ji17)).f0) ((zE x9_2 (ji17)).f1) ((zE x9_2 (ji20)).f0) ((zE x9_2 (ji20)).f1) x107000_2 x107001_2 t109 t110 _ A23.out).mono ?_
     rintro e w28 ⟨rfl,hb⟩
     have HS2_:=(hb.cell (World.block_lt_of_cell? _ _ (hHeld.2.2.1))).trans (hHeld.2.2.1)
     have HS3_:=(hb.cell (World.block_lt_of_cell? _ _ (hHeld.2.2.2.1))).trans (hHeld.2.2.2.1)
     have HS4_:=(hb.cell (World.block_lt_of_cell? _ _ (hHeld.2.2.2.2.1))).trans (hHeld.2.2.2.2.1)
     have HS5_:=(hb.cell (World.block_lt_of_cell? _ _ (hHeld.2.2.2.2.2))).trans (hHeld.2.2.2.2.2)
     refine ⟨_,rfl,?_⟩
     have n0_:=z3.mk (Kd.z1e (by (with_reducible repeat (first|apply Kd.zP|apply Kd.zQ|apply Kd.z10));exact HO_9.out) hb)
     have n1_:=z3.mk (ze (g:=gb106) (o:=.cells #[.int .u64 x107000_2,.int .u64 x107001_2] 51 (0,0)) (by (with_reducible repeat (first|refine z5 ?_ _|refine z8 ?_|refine z4 ?_ _));exact BK106.out) hb)
     have n2_:=z3.mk (zc (by repeat (first|(with_reducible first|exact HB.out|apply z2|apply z0|apply z1|refine z7 ?_ GE106.out)|exact HB.out)) hb)
     clear HO_9
     clear BK106
     clear HB
     have HO_9:=n0_
     have BK106:=n1_
     have HB:=n2_
     clear n0_ n1_ n2_
     (try clear hb)
     (try clear hb2)
     (try clear hk)
     (try clear hi)
     have p26 : 0 ≤ (x33_2 : Int):=of_decide_eq_true (by first|(with_reducible assumption)|assumption)
     have q26 : (x33_2 : Int) < ((x9_2.length : Int) : Int):=of_decide_eq_true (by first|(with_reducible assumption)|assumption)
     obtain ⟨go26,co26,eo26,gb26,gl26,cl26,HG26⟩:=Kd.R_form HO_9.out (by omega)
     (first|cases eo26|(injection eo26 with ea_ en_ ec_;(first|subst ea_|(injection ea_ with ea_;subst ea_));subst ec_;clear en_))
     have GB26:=z3.mk gb26
     have GG26:=z3.mk HG26
     clear gb26 gl26 HG26
     (first|simp only [z25] at hx107_0|skip)
     (first|simp only [z25] at hx107_1|skip)
     (first|simp only [z25] at hx108_0|skip)
     (first|simp only [z25] at hx108_1|skip)
     obtain ⟨ce26,hcl26,hM26,hcc26,hfr26⟩:=Kd.R_elem HO_9.out z51 (x33_2 : Int) p26 q26
     obtain rfl:=z2S hM26
     have hx26_0 : World.cell? _ ⟨go26,(x33_2 : Int).toNat * 2,none⟩ = some (.int .u64 ((zE x9_2 x33_2).f0)):=hcc26 0 _ rfl
     have hx26_1 : World.cell? _ ⟨go26,(x33_2 : Int).toNat * 2 + 1,none⟩ = some (.int .u64 ((zE x9_2 x33_2).f1)):=hcc26 1 _ rfl
     have hf26_0 : World.frozen? _ ⟨go26,(x33_2 : Int).toNat * 2,none⟩ = false:=hfr26 0
     have hf26_1 : World.frozen? _ ⟨go26,(x33_2 : Int).toNat * 2 + 1,none⟩ = false:=hfr26 1
     clear hcl26 hcc26 hfr26 hM26
     replace p26:=eq_true p26
     replace q26:=eq_true q26
     obtain ⟨ce29,hcl29,hM29,hcc29,hfr29⟩:=Kd.R_elem HO_9.out z51 (x33_2 : Int) (of_decide_eq_true (by first|(with_reducible assumption)|assumption)) (by have h_ : (x33_2 : Int) < ((x9_2.length : Int) : Int):=of_decide_eq_true (by first|(with_reducible assumption)|assumption);first|exact h_|(have e_:=(Kd.z11 HO_9.out).1;omega)|simpa using h_)
     obtain rfl:=z2S hM29
     have HP29:=(Kd.R_seg HO_9.out (x33_2 : Int) (of_decide_eq_true (by first|(with_reducible assumption)|assumption)) (by have h_ : (x33_2 : Int) < ((x9_2.length : Int) : Int):=of_decide_eq_true (by first|(with_reducible assumption)|assumption);first|exact h_|(have e_:=(Kd.z11 HO_9.out).1;omega)|simpa using h_) (seg:=[.int .u64 t109,.int .u64 t110]) (j:=0) hcl29 hcc29 (show 2 ≤ 2 from by decide) (x':=(⟨t109,t110⟩ : S51)) (z1I _ _ _ (⟨t109,t110⟩ : S51) ) (fun _ hk=>hk)).1
     rw [← Ny111.out] at HP29
     have HQ29:=z3.mk HP29
     clear hcl29 hcc29 hfr29 hM29 HP29
     refine hK.out _ _ ⟨(za BK106.out 0).trans rfl,(za BK106.out 1).trans rfl,HS2_,HS3_,HS4_,HS5_⟩ (fun hHeld=>?_)
     clear hK K
     refine norm_ (a':=?_) ?_ ?_
     rotate_left
     · show Act.put _ (some 51) _ = _
       simp only [Act.put,List.setIfInBounds_toArray,List.set_cons_zero,List.set_cons_succ,zD,zF]
       rfl
     refine pure_ (i:=16) (N:=some 52) (v:=?_) (a':=?_) #[true,true,true,true,true,true,true,true,true,true,true,true,true,true,true,true,true,false] rfl rfl (zR HT_.out (by kernel_rfl)) (fun _ _ _ h=>h) (Or.inl ⟨by rfl,?_⟩) ?_ ?_
     rotate_left
     · intro w'
       go_simp
       with_reducible rfl
     rotate_left
     · simp only [Act.put,List.setIfInBounds_toArray,List.set_cons_zero,List.set_cons_succ,zD,zF]
       rfl
     refine last_ (i:=17) (N:=none) #[true,true,true,true,true,true,true,true,true,true,true,true,true,true,true,true,true,true] rfl rfl (z1w HT_.out (by kernel_rfl)) (by decide) (fun K hK=>?_)
     refine skip_ (w1:=?_) (by rfl) rfl ?_ ?_
     rotate_left
     · go_simp
       rfl
     refine hK.out _ _ ?_
     clear hK K
     refine done_ (z1X HT_.out (by kernel_rfl)) ?_
     try go_wp2
     (try simp only [← hl9_2])
     go_roundg k2
     case measure=>have:=HK1.out;have:=HK2.out;omega
     case rel=>exact ⟨(y111),(wrap64 (x33_2 + 1)),(x107000_2),(x107001_2),(by first|rfl|(simp;done)|(simp [*];done)),H',⟨by have:=HK1.out;have:=HK2.out;omega⟩,⟨by (try simp only [hl9_2]);(with_reducible repeat (first|apply Kd.zP|apply Kd.zQ|apply Kd.z10));exact HQ29.out⟩,⟨by (try simp only [hl9_2]);(with_reducible repeat (first|refine z5 ?_ _|refine z8 ?_|refine z4 ?_ _));refine z14 ?_ (by have h_:=Kd.R_away HO_9.out (fun _ hk=>hk);intro e_;exact h_ (by rw [e_];rfl)) _;(with_reducible repeat (first|refine z5 ?_ _|refine z8 ?_|refine z4 ?_ _));refine z14 ?_ (by have h_:=Kd.R_away HO_9.out (fun _ hk=>hk);intro e_;exact h_ (by rw [e_];rfl)) _;(with_reducible repeat (first|refine z5 ?_ _|refine z8 ?_|refine z4 ?_ _));exact BK106.out⟩,⟨by repeat (first|(with_reducible first|exact HB.out|apply z2|apply z0|apply z1|refine z7 ?_ GB26.out|refine z7 ?_ GB26.out|refine z7 ?_ GE106.out)|exact HB.out)⟩⟩
end Go.Proofs.Ytngcaphdkgihmaa.P

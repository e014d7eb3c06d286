/- Own text: merged by wip/tools/pack.py out of what the law WeaveGathers reaches. -/
import Derived.Test.YtngcaphdkgihmaaProg
import Derived.Below
import Derived.Deep.Draws
import Derived.Deep.AppendLies
import Derived.Maps.AppendAt
import Derived.OwnWalk
import Derived.Laws.BytesArg
import Derived.Laws.MakeOwn
import Derived.Laws.OwnMore
import Derived.Deep.OwnRows
import Derived.Tactics
import Derived.Lib.ConvBytes
import Derived.Laws.Slices
import Derived.WalkKit
import Derived.KernelRfl
import Derived.RowKit3
import Derived.Deep.LoopGhost
import Derived.Deep.QuietTactic
import Derived.BigQuiet
import Derived.WideLaws
import Derived.Deep.DeepCutAuto
import Derived.Deep.CutBlock
import Derived.Deep.RegionHeld3
import Derived.Laws.Rows
import Derived.Lib.AppendStr
import Derived.ArgAppend
import Derived.Laws.IdiomCopy
import Derived.OrdersHeld
import Derived.Laws.BitsLemmas
import Derived.RowKit
import Derived.Test.YtngcaphdkgihmaaMWeaveGathersa
namespace Go.Proofs.Ytngcaphdkgihmaa.P
open Go.RowKit Go.Proofs.YtngcaphdkgihmaaW.PrintWords Go.Proofs.YtngcaphdkgihmaaW.PrintLast Go.Proofs.YtngcaphdkgihmaaW.PrintMore
attribute [local go_sem] zW zY z15 z16 zQ zR zX zZ   -- for this text's walks alone
set_option linter.unusedVariables false
set_option linter.unusedSimpArgs false
def errW : Option Int → Value
 | none=>.nilIface
 | some c=>.iface 0 (.int .i64 c)
theorem zg : errW none = .nilIface:=rfl
theorem zh (c : Int) : errW (some c) = .iface 0 (.int .i64 c):=rfl
theorem info3 : (Try.prog.info? 3).map (fun i=>(i.zero,i.size,i.bytes)) = some (some (.int .i64 0),1,8):=by kernel_rfl
theorem info4 : (Try.prog.info? 4).map (fun i=>(i.zero,i.size,i.bytes)) = some (some (.bool false),1,1):=by kernel_rfl
theorem info37 : (Try.prog.info? 37).map (fun i=>(i.zero,i.size,i.bytes)) = some (some (.slice none 0 0),1,24):=by kernel_rfl
theorem info49 : (Try.prog.info? 49).map (fun i=>(i.zero,i.size,i.bytes)) = some (some (.int .u64 0),1,8):=by kernel_rfl
theorem info51 : (Try.prog.info? 51).map (fun i=>(i.zero,i.size,i.bytes)) = some (some (.agg #[(.int .u64 0),(.int .u64 0)]),2,16):=by kernel_rfl
theorem info61 : (Try.prog.info? 61).map (fun i=>(i.zero,i.size,i.bytes)) = some (some (.agg #[(.int .u64 0),(.int .u64 0)]),2,16):=by kernel_rfl
theorem info87 : (Try.prog.info? 87).map (fun i=>(i.zero,i.size,i.bytes)) = some (some (.agg #[(.int .i64 0),(.int .i64 0),(.int .i64 0),(.int .u64 0),(.int .u64 0)]),5,40):=by kernel_rfl
theorem info92 : (Try.prog.info? 92).map (fun i=>(i.zero,i.size,i.bytes)) = some (some (.slice none 0 0),1,24):=by kernel_rfl
theorem info114 : (Try.prog.info? 114).map (fun i=>(i.zero,i.size,i.bytes)) = some (some (.agg #[(.int .i64 0),(.int .i64 0),(.int .i64 0),(.int .u64 0),(.int .u64 0)]),5,40):=by kernel_rfl
-- the values' own types
structure S23 where
 f0 : Int
 f1 : Int
 f2 : Int
def z23 : S23:=⟨(0 : Int),(0 : Int),(0 : Int)⟩
def k23 : Kd S23:=Kd.iso (Kd.pair (Kd.int .i64) (Kd.pair (Kd.int .i64) (Kd.int .i64))) (fun x : S23=>(x.f0,x.f1,x.f2))
theorem k23_open {w : World} {x : S23} {cs : List Value} (h : k23.K w x cs) : cs = [.int .i64 x.f0,.int .i64 x.f1,.int .i64 x.f2]:=by
 obtain ⟨_,_,rfl,rfl,⟨_,_,rfl,rfl,rfl⟩⟩:=h
 exact rfl
theorem k23_openM {w : World} {base : Nat} {ok : Nat → Prop} {x : S23} {cs : List Value} (h : k23.M w base ok x cs) : cs = [.int .i64 x.f0,.int .i64 x.f1,.int .i64 x.f2]:=by
 obtain ⟨_,_,rfl,rfl,⟨_,_,rfl,rfl,rfl⟩⟩:=h
 exact rfl
theorem k23_mk (w : World) (x : S23)  : k23.K w x [.int .i64 x.f0,.int .i64 x.f1,.int .i64 x.f2]:=⟨[.int .i64 x.f0],[.int .i64 x.f1,.int .i64 x.f2],rfl,rfl,⟨[.int .i64 x.f1],[.int .i64 x.f2],rfl,rfl,rfl⟩⟩
theorem k23_mkM (w : World) (base : Nat) (ok : Nat → Prop) (x : S23)  : k23.M w base ok x [.int .i64 x.f0,.int .i64 x.f1,.int .i64 x.f2]:=⟨[.int .i64 x.f0],[.int .i64 x.f1,.int .i64 x.f2],rfl,rfl,⟨[.int .i64 x.f1],[.int .i64 x.f2],rfl,rfl,rfl⟩⟩
theorem k23_mkF (W : World) (ok : Nat → Prop) (x : S23) : Kd.FK k23 W ok x [.int .i64 x.f0,.int .i64 x.f1,.int .i64 x.f2]:=fun W2 _=>k23_mk W2 x
def z5M (xs : List S23) (i : Int) : S23:=xs.getD i.toNat z23
theorem at_T23 {w : World} {A : Option Addr} {n : Nat} {xs : List S23} (h : Kd.C k23 w A n xs) (i : Int) (h0 : 0 ≤ i) (h1 : i < n) : ∃ ad , A = some ad ∧ w.cell? (ad.add (i.toNat * 3)) = some (.int .i64 (z5M xs i).f0) ∧ w.cell? ⟨(ad.add (i.toNat * 3)).block,(ad.add (i.toNat * 3)).off + 1,none⟩ = some (.int .i64 (z5M xs i).f1) ∧ w.cell? ⟨(ad.add (i.toNat * 3)).block,(ad.add (i.toNat * 3)).off + 2,none⟩ = some (.int .i64 (z5M xs i).f2):=by
 obtain ⟨ad,c,e,_,hK,hc0⟩:=Kd.z30 h z23 i h0 h1
 have hc : ∀ j u,c[j]? = some u → w.cell? (ad.add (i.toNat * 3 + j)) = some u:=hc0
 obtain rfl:=k23_open hK
 exact ⟨ad,e,hc 0 _ rfl,by rw [← z1n _ _ 1 (by omega)];exact hc 1 _ rfl,by rw [← z1n _ _ 2 (by omega)];exact hc 2 _ rfl⟩
def rd_L3 (xs : List (List Bool)) (i : Int) : (List Bool):=xs.getD i.toNat ([] : List Bool)
theorem at_L3 {w : World} {A : Option Addr} {n : Nat} {xs : List (List Bool)} (h : Kd.C (Kd.slice 4 Kd.bool) w A n xs) (i : Int) (h0 : 0 ≤ i) (h1 : i < n) : ∃ ad A0 c0,A = some ad ∧ w.cell? (ad.add i.toNat) = some (.slice A0 (rd_L3 xs i).length c0) ∧ (rd_L3 xs i).length ≤ c0 ∧ Kd.bool.C w A0 (rd_L3 xs i).length (rd_L3 xs i):=by
 obtain ⟨ad,c,e,_,hK,hc0⟩:=Kd.z30 h ([] : List Bool) i h0 h1
 have hc : ∀ j u,c[j]? = some u → w.cell? (ad.add (i.toNat * 1 + j)) = some u:=hc0
 obtain ⟨A0,c0,rfl,l0,g0⟩:=hK
 exact ⟨ad,A0,c0,e,by have hq:=hc 0 _ rfl;rwa [Nat.mul_one,Nat.add_zero] at hq,l0,g0⟩
structure S51 where
 f0 : Int
 f1 : Int
def z51 : S51:=⟨(0 : Int),(0 : Int)⟩
def k51 : Kd S51:=Kd.iso (Kd.pair (Kd.int .u64) (Kd.int .u64)) (fun x : S51=>(x.f0,x.f1))
theorem z4E {w : World} {x : S51} {cs : List Value} (h : k51.K w x cs) : cs = [.int .u64 x.f0,.int .u64 x.f1]:=by
 obtain ⟨_,_,rfl,rfl,rfl⟩:=h
 exact rfl
theorem z2f {w : World} {base : Nat} {ok : Nat → Prop} {x : S51} {cs : List Value} (h : k51.M w base ok x cs) : cs = [.int .u64 x.f0,.int .u64 x.f1]:=by
 obtain ⟨_,_,rfl,rfl,rfl⟩:=h
 exact rfl
theorem k51_mk (w : World) (x : S51)  : k51.K w x [.int .u64 x.f0,.int .u64 x.f1]:=⟨[.int .u64 x.f0],[.int .u64 x.f1],rfl,rfl,rfl⟩
theorem z1j (w : World) (base : Nat) (ok : Nat → Prop) (x : S51)  : k51.M w base ok x [.int .u64 x.f0,.int .u64 x.f1]:=⟨[.int .u64 x.f0],[.int .u64 x.f1],rfl,rfl,rfl⟩
theorem k51_mkF (W : World) (ok : Nat → Prop) (x : S51) : Kd.FK k51 W ok x [.int .u64 x.f0,.int .u64 x.f1]:=fun W2 _=>k51_mk W2 x
def zx (xs : List S51) (i : Int) : S51:=xs.getD i.toNat z51
theorem z2b {w : World} {A : Option Addr} {n : Nat} {xs : List S51} (h : Kd.C k51 w A n xs) (i : Int) (h0 : 0 ≤ i) (h1 : i < n) : ∃ ad , A = some ad ∧ w.cell? (ad.add (i.toNat * 2)) = some (.int .u64 (zx xs i).f0) ∧ w.cell? ⟨(ad.add (i.toNat * 2)).block,(ad.add (i.toNat * 2)).off + 1,none⟩ = some (.int .u64 (zx xs i).f1):=by
 obtain ⟨ad,c,e,_,hK,hc0⟩:=Kd.z30 h z51 i h0 h1
 have hc : ∀ j u,c[j]? = some u → w.cell? (ad.add (i.toNat * 2 + j)) = some u:=hc0
 obtain rfl:=z4E hK
 exact ⟨ad,e,hc 0 _ rfl,by rw [← z1n _ _ 1 (by omega)];exact hc 1 _ rfl⟩
def rd_L6 (xs : List (List S51)) (i : Int) : (List S51):=xs.getD i.toNat ([] : List S51)
theorem at_L6 {w : World} {A : Option Addr} {n : Nat} {xs : List (List S51)} (h : Kd.C (Kd.slice 51 k51) w A n xs) (i : Int) (h0 : 0 ≤ i) (h1 : i < n) : ∃ ad A0 c0,A = some ad ∧ w.cell? (ad.add i.toNat) = some (.slice A0 (rd_L6 xs i).length c0) ∧ (rd_L6 xs i).length ≤ c0 ∧ k51.C w A0 (rd_L6 xs i).length (rd_L6 xs i):=by
 obtain ⟨ad,c,e,_,hK,hc0⟩:=Kd.z30 h ([] : List S51) i h0 h1
 have hc : ∀ j u,c[j]? = some u → w.cell? (ad.add (i.toNat * 1 + j)) = some u:=hc0
 obtain ⟨A0,c0,rfl,l0,g0⟩:=hK
 exact ⟨ad,A0,c0,e,by have hq:=hc 0 _ rfl;rwa [Nat.mul_one,Nat.add_zero] at hq,l0,g0⟩
structure S61 where
 f0 : Int
 f1 : Int
def z61 : S61:=⟨(0 : Int),(0 : Int)⟩
def k61 : Kd S61:=Kd.iso (Kd.pair (Kd.int .u64) (Kd.int .u64)) (fun x : S61=>(x.f0,x.f1))
theorem z4F {w : World} {x : S61} {cs : List Value} (h : k61.K w x cs) : cs = [.int .u64 x.f0,.int .u64 x.f1]:=by
 obtain ⟨_,_,rfl,rfl,rfl⟩:=h
 exact rfl
theorem z5z {w : World} {base : Nat} {ok : Nat → Prop} {x : S61} {cs : List Value} (h : k61.M w base ok x cs) : cs = [.int .u64 x.f0,.int .u64 x.f1]:=by
 obtain ⟨_,_,rfl,rfl,rfl⟩:=h
 exact rfl
theorem k61_mk (w : World) (x : S61)  : k61.K w x [.int .u64 x.f0,.int .u64 x.f1]:=⟨[.int .u64 x.f0],[.int .u64 x.f1],rfl,rfl,rfl⟩
theorem z3I (w : World) (base : Nat) (ok : Nat → Prop) (x : S61)  : k61.M w base ok x [.int .u64 x.f0,.int .u64 x.f1]:=⟨[.int .u64 x.f0],[.int .u64 x.f1],rfl,rfl,rfl⟩
theorem k61_mkF (W : World) (ok : Nat → Prop) (x : S61) : Kd.FK k61 W ok x [.int .u64 x.f0,.int .u64 x.f1]:=fun W2 _=>k61_mk W2 x
def z12 (xs : List S61) (i : Int) : S61:=xs.getD i.toNat z61
theorem z2N {w : World} {A : Option Addr} {n : Nat} {xs : List S61} (h : Kd.C k61 w A n xs) (i : Int) (h0 : 0 ≤ i) (h1 : i < n) : ∃ ad , A = some ad ∧ w.cell? (ad.add (i.toNat * 2)) = some (.int .u64 (z12 xs i).f0) ∧ w.cell? ⟨(ad.add (i.toNat * 2)).block,(ad.add (i.toNat * 2)).off + 1,none⟩ = some (.int .u64 (z12 xs i).f1):=by
 obtain ⟨ad,c,e,_,hK,hc0⟩:=Kd.z30 h z61 i h0 h1
 have hc : ∀ j u,c[j]? = some u → w.cell? (ad.add (i.toNat * 2 + j)) = some u:=hc0
 obtain rfl:=z4F hK
 exact ⟨ad,e,hc 0 _ rfl,by rw [← z1n _ _ 1 (by omega)];exact hc 1 _ rfl⟩
structure S64 where
 f0 : (List S51)
 f1 : (List S51)
def z64 : S64:=⟨([] : List S51),([] : List S51)⟩
def k64 : Kd S64:=Kd.iso (Kd.pair (Kd.slice 51 k51) (Kd.slice 51 k51)) (fun x : S64=>(x.f0,x.f1))
theorem z2V {w : World} {x : S64} {cs : List Value} (h : k64.K w x cs) : ∃ A0 c0 A1 c1,cs = [.slice A0 x.f0.length c0,.slice A1 x.f1.length c1] ∧ x.f0.length ≤ c0 ∧ k51.C w A0 x.f0.length x.f0 ∧ x.f1.length ≤ c1 ∧ k51.C w A1 x.f1.length x.f1:=by
 obtain ⟨_,_,rfl,⟨A0,c0,rfl,l0,g0⟩,⟨A1,c1,rfl,l1,g1⟩⟩:=h
 exact ⟨A0,c0,A1,c1,rfl,l0,g0,l1,g1⟩
theorem k64_openM {w : World} {base : Nat} {ok : Nat → Prop} {x : S64} {cs : List Value} (h : k64.M w base ok x cs) : ∃ v0 v1,cs = [v0,v1] ∧ k51.R 51 w base ok v0 x.f0 ∧ k51.R 51 w base ok v1 x.f1:=by
 obtain ⟨_,_,rfl,⟨v0,rfl,g0⟩,⟨v1,rfl,g1⟩⟩:=h
 exact ⟨v0,v1,rfl,g0,g1⟩
theorem k64_mk (w : World) (x : S64) {A0 : Option Addr} {c0 : Nat} (l0 : x.f0.length ≤ c0) (g0 : k51.C w A0 x.f0.length x.f0) {A1 : Option Addr} {c1 : Nat} (l1 : x.f1.length ≤ c1) (g1 : k51.C w A1 x.f1.length x.f1) : k64.K w x [.slice A0 x.f0.length c0,.slice A1 x.f1.length c1]:=⟨[.slice A0 x.f0.length c0],[.slice A1 x.f1.length c1],rfl,⟨A0,c0,rfl,l0,g0⟩,⟨A1,c1,rfl,l1,g1⟩⟩
theorem k64_mkM (w : World) (base : Nat) (ok : Nat → Prop) (x : S64) {v0 : Value} (g0 : k51.R 51 w base ok v0 x.f0) {v1 : Value} (g1 : k51.R 51 w base ok v1 x.f1) : k64.M w base ok x [v0,v1]:=⟨[v0],[v1],rfl,⟨v0,rfl,g0⟩,⟨v1,rfl,g1⟩⟩
theorem k64_openF {W : World} {ok : Nat → Prop} {x : S64} {cs : List Value} (h : Kd.FK k64 W ok x cs) : ∃ A0 c0 A1 c1,cs = [.slice A0 x.f0.length c0,.slice A1 x.f1.length c1] ∧ x.f0.length ≤ c0 ∧ Kd.F k51 W ok A0 x.f0.length x.f0 ∧ x.f1.length ≤ c1 ∧ Kd.F k51 W ok A1 x.f1.length x.f1:=by
 obtain ⟨A0,c0,A1,c1,rfl,l0,_,l1,_⟩:=z2V (Kd.z4o h)
 exact ⟨A0,c0,A1,c1,rfl,l0,(fun W' hW=>by obtain ⟨A0_,c0_,A1_,c1_,he,l0_,g0_,l1_,g1_⟩:=z2V (h W' hW);injection (Option.some.inj (show some (Value.slice A0 x.f0.length c0) = some (Value.slice A0_ x.f0.length c0_) from congrArg (fun l=>l[0]?) he)) with ha_ _ _;rw [ha_];exact g0_),l1,(fun W' hW=>by obtain ⟨A0_,c0_,A1_,c1_,he,l0_,g0_,l1_,g1_⟩:=z2V (h W' hW);injection (Option.some.inj (show some (Value.slice A1 x.f1.length c1) = some (Value.slice A1_ x.f1.length c1_) from congrArg (fun l=>l[1]?) he)) with ha_ _ _;rw [ha_];exact g1_)⟩
theorem k64_mkF (W : World) (ok : Nat → Prop) (x : S64) {A0 : Option Addr} {c0 : Nat} (l0 : x.f0.length ≤ c0) (g0 : Kd.F k51 W ok A0 x.f0.length x.f0) {A1 : Option Addr} {c1 : Nat} (l1 : x.f1.length ≤ c1) (g1 : Kd.F k51 W ok A1 x.f1.length x.f1) : Kd.FK k64 W ok x [.slice A0 x.f0.length c0,.slice A1 x.f1.length c1]:=fun W2 hW=>k64_mk W2 x l0 (g0 W2 hW) l1 (g1 W2 hW)
def z2O (xs : List S64) (i : Int) : S64:=xs.getD i.toNat z64
theorem at_T64 {w : World} {A : Option Addr} {n : Nat} {xs : List S64} (h : Kd.C k64 w A n xs) (i : Int) (h0 : 0 ≤ i) (h1 : i < n) : ∃ ad A0 c0 A1 c1,A = some ad ∧ w.cell? (ad.add (i.toNat * 2)) = some (.slice A0 (z2O xs i).f0.length c0) ∧ w.cell? ⟨(ad.add (i.toNat * 2)).block,(ad.add (i.toNat * 2)).off + 1,none⟩ = some (.slice A1 (z2O xs i).f1.length c1) ∧ (z2O xs i).f0.length ≤ c0 ∧ k51.C w A0 (z2O xs i).f0.length (z2O xs i).f0 ∧ (z2O xs i).f1.length ≤ c1 ∧ k51.C w A1 (z2O xs i).f1.length (z2O xs i).f1:=by
 obtain ⟨ad,c,e,_,hK,hc0⟩:=Kd.z30 h z64 i h0 h1
 have hc : ∀ j u,c[j]? = some u → w.cell? (ad.add (i.toNat * 2 + j)) = some u:=hc0
 obtain ⟨A0,c0,A1,c1,rfl,l0,g0,l1,g1⟩:=z2V hK
 exact ⟨ad,A0,c0,A1,c1,e,hc 0 _ rfl,by rw [← z1n _ _ 1 (by omega)];exact hc 1 _ rfl,l0,g0,l1,g1⟩
structure S66 where
 f0 : (List S51)
 f1 : (List S51)
def z66 : S66:=⟨([] : List S51),([] : List S51)⟩
def k66 : Kd S66:=Kd.iso (Kd.pair (Kd.slice 51 k51) (Kd.slice 51 k51)) (fun x : S66=>(x.f0,x.f1))
theorem z2W {w : World} {x : S66} {cs : List Value} (h : k66.K w x cs) : ∃ A0 c0 A1 c1,cs = [.slice A0 x.f0.length c0,.slice A1 x.f1.length c1] ∧ x.f0.length ≤ c0 ∧ k51.C w A0 x.f0.length x.f0 ∧ x.f1.length ≤ c1 ∧ k51.C w A1 x.f1.length x.f1:=by
 obtain ⟨_,_,rfl,⟨A0,c0,rfl,l0,g0⟩,⟨A1,c1,rfl,l1,g1⟩⟩:=h
 exact ⟨A0,c0,A1,c1,rfl,l0,g0,l1,g1⟩
theorem k66_openM {w : World} {base : Nat} {ok : Nat → Prop} {x : S66} {cs : List Value} (h : k66.M w base ok x cs) : ∃ v0 v1,cs = [v0,v1] ∧ k51.R 51 w base ok v0 x.f0 ∧ k51.R 51 w base ok v1 x.f1:=by
 obtain ⟨_,_,rfl,⟨v0,rfl,g0⟩,⟨v1,rfl,g1⟩⟩:=h
 exact ⟨v0,v1,rfl,g0,g1⟩
theorem k66_mk (w : World) (x : S66) {A0 : Option Addr} {c0 : Nat} (l0 : x.f0.length ≤ c0) (g0 : k51.C w A0 x.f0.length x.f0) {A1 : Option Addr} {c1 : Nat} (l1 : x.f1.length ≤ c1) (g1 : k51.C w A1 x.f1.length x.f1) : k66.K w x [.slice A0 x.f0.length c0,.slice A1 x.f1.length c1]:=⟨[.slice A0 x.f0.length c0],[.slice A1 x.f1.length c1],rfl,⟨A0,c0,rfl,l0,g0⟩,⟨A1,c1,rfl,l1,g1⟩⟩
theorem k66_mkM (w : World) (base : Nat) (ok : Nat → Prop) (x : S66) {v0 : Value} (g0 : k51.R 51 w base ok v0 x.f0) {v1 : Value} (g1 : k51.R 51 w base ok v1 x.f1) : k66.M w base ok x [v0,v1]:=⟨[v0],[v1],rfl,⟨v0,rfl,g0⟩,⟨v1,rfl,g1⟩⟩
theorem k66_openF {W : World} {ok : Nat → Prop} {x : S66} {cs : List Value} (h : Kd.FK k66 W ok x cs) : ∃ A0 c0 A1 c1,cs = [.slice A0 x.f0.length c0,.slice A1 x.f1.length c1] ∧ x.f0.length ≤ c0 ∧ Kd.F k51 W ok A0 x.f0.length x.f0 ∧ x.f1.length ≤ c1 ∧ Kd.F k51 W ok A1 x.f1.length x.f1:=by
 obtain ⟨A0,c0,A1,c1,rfl,l0,_,l1,_⟩:=z2W (Kd.z4o h)
 exact ⟨A0,c0,A1,c1,rfl,l0,(fun W' hW=>by obtain ⟨A0_,c0_,A1_,c1_,he,l0_,g0_,l1_,g1_⟩:=z2W (h W' hW);injection (Option.some.inj (show some (Value.slice A0 x.f0.length c0) = some (Value.slice A0_ x.f0.length c0_) from congrArg (fun l=>l[0]?) he)) with ha_ _ _;rw [ha_];exact g0_),l1,(fun W' hW=>by obtain ⟨A0_,c0_,A1_,c1_,he,l0_,g0_,l1_,g1_⟩:=z2W (h W' hW);injection (Option.some.inj (show some (Value.slice A1 x.f1.length c1) = some (Value.slice A1_ x.f1.length c1_) from congrArg (fun l=>l[1]?) he)) with ha_ _ _;rw [ha_];exact g1_)⟩
theorem k66_mkF (W : World) (ok : Nat → Prop) (x : S66) {A0 : Option Addr} {c0 : Nat} (l0 : x.f0.length ≤ c0) (g0 : Kd.F k51 W ok A0 x.f0.length x.f0) {A1 : Option Addr} {c1 : Nat} (l1 : x.f1.length ≤ c1) (g1 : Kd.F k51 W ok A1 x.f1.length x.f1) : Kd.FK k66 W ok x [.slice A0 x.f0.length c0,.slice A1 x.f1.length c1]:=fun W2 hW=>k66_mk W2 x l0 (g0 W2 hW) l1 (g1 W2 hW)
def z2P (xs : List S66) (i : Int) : S66:=xs.getD i.toNat z66
theorem at_T66 {w : World} {A : Option Addr} {n : Nat} {xs : List S66} (h : Kd.C k66 w A n xs) (i : Int) (h0 : 0 ≤ i) (h1 : i < n) : ∃ ad A0 c0 A1 c1,A = some ad ∧ w.cell? (ad.add (i.toNat * 2)) = some (.slice A0 (z2P xs i).f0.length c0) ∧ w.cell? ⟨(ad.add (i.toNat * 2)).block,(ad.add (i.toNat * 2)).off + 1,none⟩ = some (.slice A1 (z2P xs i).f1.length c1) ∧ (z2P xs i).f0.length ≤ c0 ∧ k51.C w A0 (z2P xs i).f0.length (z2P xs i).f0 ∧ (z2P xs i).f1.length ≤ c1 ∧ k51.C w A1 (z2P xs i).f1.length (z2P xs i).f1:=by
 obtain ⟨ad,c,e,_,hK,hc0⟩:=Kd.z30 h z66 i h0 h1
 have hc : ∀ j u,c[j]? = some u → w.cell? (ad.add (i.toNat * 2 + j)) = some u:=hc0
 obtain ⟨A0,c0,A1,c1,rfl,l0,g0,l1,g1⟩:=z2W hK
 exact ⟨ad,A0,c0,A1,c1,e,hc 0 _ rfl,by rw [← z1n _ _ 1 (by omega)];exact hc 1 _ rfl,l0,g0,l1,g1⟩
structure S87 where
 f0 : Int
 f1 : Int
 f2 : Int
 f3 : S51
def z87 : S87:=⟨(0 : Int),(0 : Int),(0 : Int),z51⟩
def k87 : Kd S87:=Kd.iso (Kd.pair (Kd.int .i64) (Kd.pair (Kd.int .i64) (Kd.pair (Kd.int .i64) k51))) (fun x : S87=>(x.f0,x.f1,x.f2,x.f3))
theorem k87_open {w : World} {x : S87} {cs : List Value} (h : k87.K w x cs) : cs = [.int .i64 x.f0,.int .i64 x.f1,.int .i64 x.f2,.int .u64 x.f3.f0,.int .u64 x.f3.f1]:=by
 obtain ⟨_,_,rfl,rfl,⟨_,_,rfl,rfl,⟨_,_,rfl,rfl,s3⟩⟩⟩:=h
 obtain rfl:=z4E s3
 exact rfl
theorem k87_openM {w : World} {base : Nat} {ok : Nat → Prop} {x : S87} {cs : List Value} (h : k87.M w base ok x cs) : cs = [.int .i64 x.f0,.int .i64 x.f1,.int .i64 x.f2,.int .u64 x.f3.f0,.int .u64 x.f3.f1]:=by
 obtain ⟨_,_,rfl,rfl,⟨_,_,rfl,rfl,⟨_,_,rfl,rfl,s3⟩⟩⟩:=h
 obtain rfl:=z2f s3
 exact rfl
theorem k87_mk (w : World) (x : S87)  : k87.K w x [.int .i64 x.f0,.int .i64 x.f1,.int .i64 x.f2,.int .u64 x.f3.f0,.int .u64 x.f3.f1]:=⟨[.int .i64 x.f0],[.int .i64 x.f1,.int .i64 x.f2,.int .u64 x.f3.f0,.int .u64 x.f3.f1],rfl,rfl,⟨[.int .i64 x.f1],[.int .i64 x.f2,.int .u64 x.f3.f0,.int .u64 x.f3.f1],rfl,rfl,⟨[.int .i64 x.f2],[.int .u64 x.f3.f0,.int .u64 x.f3.f1],rfl,rfl,(k51_mk w x.f3 )⟩⟩⟩
theorem k87_mkM (w : World) (base : Nat) (ok : Nat → Prop) (x : S87)  : k87.M w base ok x [.int .i64 x.f0,.int .i64 x.f1,.int .i64 x.f2,.int .u64 x.f3.f0,.int .u64 x.f3.f1]:=⟨[.int .i64 x.f0],[.int .i64 x.f1,.int .i64 x.f2,.int .u64 x.f3.f0,.int .u64 x.f3.f1],rfl,rfl,⟨[.int .i64 x.f1],[.int .i64 x.f2,.int .u64 x.f3.f0,.int .u64 x.f3.f1],rfl,rfl,⟨[.int .i64 x.f2],[.int .u64 x.f3.f0,.int .u64 x.f3.f1],rfl,rfl,(z1j w base ok x.f3 )⟩⟩⟩
theorem k87_mkF (W : World) (ok : Nat → Prop) (x : S87) : Kd.FK k87 W ok x [.int .i64 x.f0,.int .i64 x.f1,.int .i64 x.f2,.int .u64 x.f3.f0,.int .u64 x.f3.f1]:=fun W2 _=>k87_mk W2 x
def z4a (xs : List S87) (i : Int) : S87:=xs.getD i.toNat z87
theorem at_T87 {w : World} {A : Option Addr} {n : Nat} {xs : List S87} (h : Kd.C k87 w A n xs) (i : Int) (h0 : 0 ≤ i) (h1 : i < n) : ∃ ad , A = some ad ∧ w.cell? (ad.add (i.toNat * 5)) = some (.int .i64 (z4a xs i).f0) ∧ w.cell? ⟨(ad.add (i.toNat * 5)).block,(ad.add (i.toNat * 5)).off + 1,none⟩ = some (.int .i64 (z4a xs i).f1) ∧ w.cell? ⟨(ad.add (i.toNat * 5)).block,(ad.add (i.toNat * 5)).off + 2,none⟩ = some (.int .i64 (z4a xs i).f2) ∧ w.cell? ⟨(ad.add (i.toNat * 5)).block,(ad.add (i.toNat * 5)).off + 3,none⟩ = some (.int .u64 (z4a xs i).f3.f0) ∧ w.cell? ⟨(ad.add (i.toNat * 5)).block,(ad.add (i.toNat * 5)).off + 4,none⟩ = some (.int .u64 (z4a xs i).f3.f1):=by
 obtain ⟨ad,c,e,_,hK,hc0⟩:=Kd.z30 h z87 i h0 h1
 have hc : ∀ j u,c[j]? = some u → w.cell? (ad.add (i.toNat * 5 + j)) = some u:=hc0
 obtain rfl:=k87_open hK
 exact ⟨ad,e,hc 0 _ rfl,by rw [← z1n _ _ 1 (by omega)];exact hc 1 _ rfl,by rw [← z1n _ _ 2 (by omega)];exact hc 2 _ rfl,by rw [← z1n _ _ 3 (by omega)];exact hc 3 _ rfl,by rw [← z1n _ _ 4 (by omega)];exact hc 4 _ rfl⟩
structure S114 where
 f0 : Int
 f1 : Int
 f2 : Int
 f3 : S61
def z114 : S114:=⟨(0 : Int),(0 : Int),(0 : Int),z61⟩
def k114 : Kd S114:=Kd.iso (Kd.pair (Kd.int .i64) (Kd.pair (Kd.int .i64) (Kd.pair (Kd.int .i64) k61))) (fun x : S114=>(x.f0,x.f1,x.f2,x.f3))
theorem z5y {w : World} {x : S114} {cs : List Value} (h : k114.K w x cs) : cs = [.int .i64 x.f0,.int .i64 x.f1,.int .i64 x.f2,.int .u64 x.f3.f0,.int .u64 x.f3.f1]:=by
 obtain ⟨_,_,rfl,rfl,⟨_,_,rfl,rfl,⟨_,_,rfl,rfl,s3⟩⟩⟩:=h
 obtain rfl:=z4F s3
 exact rfl
theorem k114_openM {w : World} {base : Nat} {ok : Nat → Prop} {x : S114} {cs : List Value} (h : k114.M w base ok x cs) : cs = [.int .i64 x.f0,.int .i64 x.f1,.int .i64 x.f2,.int .u64 x.f3.f0,.int .u64 x.f3.f1]:=by
 obtain ⟨_,_,rfl,rfl,⟨_,_,rfl,rfl,⟨_,_,rfl,rfl,s3⟩⟩⟩:=h
 obtain rfl:=z5z s3
 exact rfl
theorem k114_mk (w : World) (x : S114)  : k114.K w x [.int .i64 x.f0,.int .i64 x.f1,.int .i64 x.f2,.int .u64 x.f3.f0,.int .u64 x.f3.f1]:=⟨[.int .i64 x.f0],[.int .i64 x.f1,.int .i64 x.f2,.int .u64 x.f3.f0,.int .u64 x.f3.f1],rfl,rfl,⟨[.int .i64 x.f1],[.int .i64 x.f2,.int .u64 x.f3.f0,.int .u64 x.f3.f1],rfl,rfl,⟨[.int .i64 x.f2],[.int .u64 x.f3.f0,.int .u64 x.f3.f1],rfl,rfl,(k61_mk w x.f3 )⟩⟩⟩
theorem k114_mkM (w : World) (base : Nat) (ok : Nat → Prop) (x : S114)  : k114.M w base ok x [.int .i64 x.f0,.int .i64 x.f1,.int .i64 x.f2,.int .u64 x.f3.f0,.int .u64 x.f3.f1]:=⟨[.int .i64 x.f0],[.int .i64 x.f1,.int .i64 x.f2,.int .u64 x.f3.f0,.int .u64 x.f3.f1],rfl,rfl,⟨[.int .i64 x.f1],[.int .i64 x.f2,.int .u64 x.f3.f0,.int .u64 x.f3.f1],rfl,rfl,⟨[.int .i64 x.f2],[.int .u64 x.f3.f0,.int .u64 x.f3.f1],rfl,rfl,(z3I w base ok x.f3 )⟩⟩⟩
theorem k114_mkF (W : World) (ok : Nat → Prop) (x : S114) : Kd.FK k114 W ok x [.int .i64 x.f0,.int .i64 x.f1,.int .i64 x.f2,.int .u64 x.f3.f0,.int .u64 x.f3.f1]:=fun W2 _=>k114_mk W2 x
def z3a (xs : List S114) (i : Int) : S114:=xs.getD i.toNat z114
theorem at_T114 {w : World} {A : Option Addr} {n : Nat} {xs : List S114} (h : Kd.C k114 w A n xs) (i : Int) (h0 : 0 ≤ i) (h1 : i < n) : ∃ ad , A = some ad ∧ w.cell? (ad.add (i.toNat * 5)) = some (.int .i64 (z3a xs i).f0) ∧ w.cell? ⟨(ad.add (i.toNat * 5)).block,(ad.add (i.toNat * 5)).off + 1,none⟩ = some (.int .i64 (z3a xs i).f1) ∧ w.cell? ⟨(ad.add (i.toNat * 5)).block,(ad.add (i.toNat * 5)).off + 2,none⟩ = some (.int .i64 (z3a xs i).f2) ∧ w.cell? ⟨(ad.add (i.toNat * 5)).block,(ad.add (i.toNat * 5)).off + 3,none⟩ = some (.int .u64 (z3a xs i).f3.f0) ∧ w.cell? ⟨(ad.add (i.toNat * 5)).block,(ad.add (i.toNat * 5)).off + 4,none⟩ = some (.int .u64 (z3a xs i).f3.f1):=by
 obtain ⟨ad,c,e,_,hK,hc0⟩:=Kd.z30 h z114 i h0 h1
 have hc : ∀ j u,c[j]? = some u → w.cell? (ad.add (i.toNat * 5 + j)) = some u:=hc0
 obtain rfl:=z5y hK
 exact ⟨ad,e,hc 0 _ rfl,by rw [← z1n _ _ 1 (by omega)];exact hc 1 _ rfl,by rw [← z1n _ _ 2 (by omega)];exact hc 2 _ rfl,by rw [← z1n _ _ 3 (by omega)];exact hc 3 _ rfl,by rw [← z1n _ _ 4 (by omega)];exact hc 4 _ rfl⟩
def z4I (xs : List (List S87)) (i : Int) : (List S87):=xs.getD i.toNat ([] : List S87)
theorem at_L12 {w : World} {A : Option Addr} {n : Nat} {xs : List (List S87)} (h : Kd.C (Kd.slice 87 k87) w A n xs) (i : Int) (h0 : 0 ≤ i) (h1 : i < n) : ∃ ad A0 c0,A = some ad ∧ w.cell? (ad.add i.toNat) = some (.slice A0 (z4I xs i).length c0) ∧ (z4I xs i).length ≤ c0 ∧ k87.C w A0 (z4I xs i).length (z4I xs i):=by
 obtain ⟨ad,c,e,_,hK,hc0⟩:=Kd.z30 h ([] : List S87) i h0 h1
 have hc : ∀ j u,c[j]? = some u → w.cell? (ad.add (i.toNat * 1 + j)) = some u:=hc0
 obtain ⟨A0,c0,rfl,l0,g0⟩:=hK
 exact ⟨ad,A0,c0,e,by have hq:=hc 0 _ rfl;rwa [Nat.mul_one,Nat.add_zero] at hq,l0,g0⟩
structure S79 where
 f0 : Int
 f1 : Int
def z79 : S79:=⟨(0 : Int),(0 : Int)⟩
def k79 : Kd S79:=Kd.iso (Kd.pair (Kd.int .i64) (Kd.int .i64)) (fun x : S79=>(x.f0,x.f1))
theorem k79_open {w : World} {x : S79} {cs : List Value} (h : k79.K w x cs) : cs = [.int .i64 x.f0,.int .i64 x.f1]:=by
 obtain ⟨_,_,rfl,rfl,rfl⟩:=h
 exact rfl
theorem k79_openM {w : World} {base : Nat} {ok : Nat → Prop} {x : S79} {cs : List Value} (h : k79.M w base ok x cs) : cs = [.int .i64 x.f0,.int .i64 x.f1]:=by
 obtain ⟨_,_,rfl,rfl,rfl⟩:=h
 exact rfl
theorem k79_mk (w : World) (x : S79)  : k79.K w x [.int .i64 x.f0,.int .i64 x.f1]:=⟨[.int .i64 x.f0],[.int .i64 x.f1],rfl,rfl,rfl⟩
theorem k79_mkM (w : World) (base : Nat) (ok : Nat → Prop) (x : S79)  : k79.M w base ok x [.int .i64 x.f0,.int .i64 x.f1]:=⟨[.int .i64 x.f0],[.int .i64 x.f1],rfl,rfl,rfl⟩
theorem k79_mkF (W : World) (ok : Nat → Prop) (x : S79) : Kd.FK k79 W ok x [.int .i64 x.f0,.int .i64 x.f1]:=fun W2 _=>k79_mk W2 x
def rd_T79 (xs : List S79) (i : Int) : S79:=xs.getD i.toNat z79
theorem at_T79 {w : World} {A : Option Addr} {n : Nat} {xs : List S79} (h : Kd.C k79 w A n xs) (i : Int) (h0 : 0 ≤ i) (h1 : i < n) : ∃ ad , A = some ad ∧ w.cell? (ad.add (i.toNat * 2)) = some (.int .i64 (rd_T79 xs i).f0) ∧ w.cell? ⟨(ad.add (i.toNat * 2)).block,(ad.add (i.toNat * 2)).off + 1,none⟩ = some (.int .i64 (rd_T79 xs i).f1):=by
 obtain ⟨ad,c,e,_,hK,hc0⟩:=Kd.z30 h z79 i h0 h1
 have hc : ∀ j u,c[j]? = some u → w.cell? (ad.add (i.toNat * 2 + j)) = some u:=hc0
 obtain rfl:=k79_open hK
 exact ⟨ad,e,hc 0 _ rfl,by rw [← z1n _ _ 1 (by omega)];exact hc 1 _ rfl⟩
end Go.Proofs.Ytngcaphdkgihmaa.P
namespace Go.Proofs.Ytngcaphdkgihmaa.P
open Go.RowKit Go.Proofs.YtngcaphdkgihmaaW.PrintWords Go.Proofs.YtngcaphdkgihmaaW.PrintLast Go.Proofs.YtngcaphdkgihmaaW.PrintMore
attribute [local go_sem] zW zY z15 z16 zQ zR zX zZ   -- for this text's walks alone
set_option linter.unusedVariables false
set_option linter.unusedSimpArgs false
def z1l.f (a0_0 : Int) (a0_1 : Int) (a1_0 : Int) (a1_1 : Int) : Option (Int × Int):=some (Go.bits .xor .u64 a0_0 a1_0,Go.bits .xor .u64 a0_1 a1_1)
set_option maxHeartbeats 8000000 in
set_option maxRecDepth 100000 in
theorem z1l.calls (a0_0 : Int) (a0_1 : Int) (a1_0 : Int) (a1_1 : Int) (r1 : Int) (r2 : Int) (w : World) (h : z1l.f a0_0 a0_1 a1_0 a1_1 = some (r1,r2)) :
 Calls Try.prog 40 #[.agg #[.int .u64 a0_0,.int .u64 a0_1],.agg #[.int .u64 a1_0,.int .u64 a1_1]] w fun e w'=>e = .returned (.agg #[.int .u64 r1,.int .u64 r2]) ∧ Below w.heap.size w w':=by
 have hu51:=Try.underlying51
 have HB:=z3.mk (Below.refl w.heap.size w)
 have H : (some (Go.bits .xor .u64 a0_0 a1_0,Go.bits .xor .u64 a0_1 a1_1)) = some (r1,r2):=h
 clear h
 simp only [Option.some.injEq,Prod.mk.injEq] at H
 obtain ⟨rfl,rfl⟩:=H
 go_enter Try.func40,Try.ntmps40
 go_wp2_with (first|((with_reducible refine zE (N:=2) rfl ?_);refine zC ?hg (N:=2) ?hd (cs:=#[.int .u64 a0_0,.int .u64 a0_1]) (t:=51) ?hr ?_;(case hd=>rfl);(case hg=>rfl);(case hr=>first|(go_simp;done)|(go_simp;rfl));intro gb101 hg w3 hbox hb;have n0_:=z3.mk (zb (by repeat (first|(with_reducible first|exact HB.out|apply z2|apply z0|apply z1)|exact HB.out)) hb);have n1_:=z3.mk (hbox);have n2_:=z3.mk ((by rw [hg];exact (zc (by repeat (first|(with_reducible first|exact HB.out|apply z2|apply z0|apply z1)|exact HB.out))) : w.heap.size ≤ gb101));have n3_:=z3.mk ((by rw [hg];exact (zc (by repeat (first|(with_reducible first|exact HB.out|apply z2|apply z0|apply z1)|exact HB.out))) : w.heap.size ≤ gb101));clear HB;have HB:=n0_;have BK101:=n1_;have GW101:=n2_;have GE101:=n3_;clear n0_ n1_ n2_ n3_;clear hb hbox hg)|((with_reducible refine zE (N:=3) rfl ?_);refine zC ?hg (N:=3) ?hd (cs:=#[.int .u64 a1_0,.int .u64 a1_1]) (t:=51) ?hr ?_;(case hd=>rfl);(case hg=>rfl);(case hr=>first|(go_simp;done)|(go_simp;rfl));intro gb102 hg w4 hbox hb;have n0_:=z3.mk (zn (g:=gb101) (o:=.cells #[.int .u64 a0_0,.int .u64 a0_1] 51 (0,0)) (by (with_reducible repeat (first|refine z5 ?_ _|refine z8 ?_|refine z4 ?_ _));exact BK101.out) hb);have n1_:=z3.mk (zb (by repeat (first|(with_reducible first|exact HB.out|apply z2|apply z0|apply z1|refine z6 ?_ GE101.out)|exact HB.out)) hb);have n2_:=z3.mk (hbox);have n3_:=z3.mk ((by rw [hg];exact (zc (by repeat (first|(with_reducible first|exact HB.out|apply z2|apply z0|apply z1|refine z6 ?_ GE101.out)|exact HB.out))) : w.heap.size ≤ gb102));have n4_:=z3.mk ((by rw [hg];exact (zc (by repeat (first|(with_reducible first|exact HB.out|apply z2|apply z0|apply z1|refine z6 ?_ GE101.out)|exact HB.out))) : w.heap.size ≤ gb102));have n5_:=z3.mk ((by rw [hg];exact Nat.ne_of_lt (zO (g:=gb101) (o:=.cells #[.int .u64 a0_0,.int .u64 a0_1] 51 (0,0)) (by (with_reducible repeat (first|refine z5 ?_ _|refine z8 ?_|refine z4 ?_ _));exact BK101.out)) : gb101 ≠ gb102));have n6_:=z3.mk ((by rw [hg];exact Nat.ne_of_gt (zO (g:=gb101) (o:=.cells #[.int .u64 a0_0,.int .u64 a0_1] 51 (0,0)) (by (with_reducible repeat (first|refine z5 ?_ _|refine z8 ?_|refine z4 ?_ _));exact BK101.out)) : gb102 ≠ gb101));clear BK101;clear HB;have BK101:=n0_;have HB:=n1_;have BK102:=n2_;have GW102:=n3_;have GE102:=n4_;have NB101_102:=n5_;have NB102_101:=n6_;clear n0_ n1_ n2_ n3_ n4_ n5_ n6_;clear hb hbox hg)|((with_reducible refine zE (N:=4) rfl ?_);refine zC ?hg (N:=4) ?hd (cs:=#[.int .u64 0,.int .u64 0]) (t:=51) ?hr ?_;(case hd=>rfl);(case hg=>rfl);(case hr=>first|(go_simp;done)|(go_simp;rfl));intro gb103 hg w5 hbox hb;have n0_:=z3.mk (zn (g:=gb101) (o:=.cells #[.int .u64 a0_0,.int .u64 a0_1] 51 (0,0)) (by (with_reducible repeat (first|refine z5 ?_ _|refine z8 ?_|refine z4 ?_ _));exact BK101.out) hb);have n1_:=z3.mk (zn (g:=gb102) (o:=.cells #[.int .u64 a1_0,.int .u64 a1_1] 51 (0,0)) (by (with_reducible repeat (first|refine z5 ?_ _|refine z8 ?_|refine z4 ?_ _));exact BK102.out) hb);have n2_:=z3.mk (zb (by repeat (first|(with_reducible first|exact HB.out|apply z2|apply z0|apply z1|refine z6 ?_ GE101.out|refine z6 ?_ GE102.out)|exact HB.out)) hb);have n3_:=z3.mk (hbox);have n4_:=z3.mk ((by rw [hg];exact (zc (by repeat (first|(with_reducible first|exact HB.out|apply z2|apply z0|apply z1|refine z6 ?_ GE101.out|refine z6 ?_ GE102.out)|exact HB.out))) : w.heap.size ≤ gb103));have n5_:=z3.mk ((by rw [hg];exact (zc (by repeat (first|(with_reducible first|exact HB.out|apply z2|apply z0|apply z1|refine z6 ?_ GE101.out|refine z6 ?_ GE102.out)|exact HB.out))) : w.heap.size ≤ gb103));have n6_:=z3.mk ((by rw [hg];exact Nat.ne_of_lt (zO (g:=gb101) (o:=.cells #[.int .u64 a0_0,.int .u64 a0_1] 51 (0,0)) (by (with_reducible repeat (first|refine z5 ?_ _|refine z8 ?_|refine z4 ?_ _));exact BK101.out)) : gb101 ≠ gb103));have n7_:=z3.mk ((by rw [hg];exact Nat.ne_of_gt (zO (g:=gb101) (o:=.cells #[.int .u64 a0_0,.int .u64 a0_1] 51 (0,0)) (by (with_reducible repeat (first|refine z5 ?_ _|refine z8 ?_|refine z4 ?_ _));exact BK101.out)) : gb103 ≠ gb101));have n8_:=z3.mk ((by rw [hg];exact Nat.ne_of_lt (zO (g:=gb102) (o:=.cells #[.int .u64 a1_0,.int .u64 a1_1] 51 (0,0)) (by (with_reducible repeat (first|refine z5 ?_ _|refine z8 ?_|refine z4 ?_ _));exact BK102.out)) : gb102 ≠ gb103));have n9_:=z3.mk ((by rw [hg];exact Nat.ne_of_gt (zO (g:=gb102) (o:=.cells #[.int .u64 a1_0,.int .u64 a1_1] 51 (0,0)) (by (with_reducible repeat (first|refine z5 ?_ _|refine z8 ?_|refine z4 ?_ _));exact BK102.out)) : gb103 ≠ gb102));clear BK101;clear BK102;clear HB;have BK101:=n0_;have BK102:=n1_;have HB:=n2_;have BK103:=n3_;have GW103:=n4_;have GE103:=n5_;have NB101_103:=n6_;have NB103_101:=n7_;have NB102_103:=n8_;have NB103_102:=n9_;clear n0_ n1_ n2_ n3_ n4_ n5_ n6_ n7_ n8_ n9_;clear hb hbox hg;have hnb6:=NB101_102.out;have hnc6:=NB102_101.out;have hnb7:=NB101_103.out;have hnc7:=NB103_101.out;have hcz8_0 : w5.cell? ⟨gb101,0,none⟩ = some (.int .u64 a0_0):=(ze BK101.out 0).trans rfl;have hcz8_1 : w5.cell? ⟨gb101,1,none⟩ = some (.int .u64 a0_1):=(ze BK101.out 1).trans rfl;have hfz8_0:=zd BK101.out 0;have hfz8_1:=zd BK101.out 1;have hnb9:=NB102_103.out;have hnc9:=NB103_102.out;have hcz10_0 : w5.cell? ⟨gb102,0,none⟩ = some (.int .u64 a1_0):=(ze BK102.out 0).trans rfl;have hcz10_1 : w5.cell? ⟨gb102,1,none⟩ = some (.int .u64 a1_1):=(ze BK102.out 1).trans rfl;have hfz10_0:=zd BK102.out 0;have hfz10_1:=zd BK102.out 1;have hcz11_0 : w5.cell? ⟨gb103,0,none⟩ = some (.int .u64 0):=(ze BK103.out 0).trans rfl;have hcz11_1 : w5.cell? ⟨gb103,1,none⟩ = some (.int .u64 0):=(ze BK103.out 1).trans rfl;have hfz11_0:=zd BK103.out 0;have hfz11_1:=zd BK103.out 1))
 refine bodyPost_ret (results_cell_row rfl _ _ gb103 51 #[.int .u64 (Go.bits .xor .u64 a0_0 a1_0),.int .u64 (Go.bits .xor .u64 a0_1 a1_1)] (0,0) _ rfl (by (with_reducible repeat (first|refine z5 ?_ _|refine z8 ?_|refine z4 ?_ _));refine zN (cs:=#[.int .u64 (Go.bits .xor .u64 a0_0 a1_0),.int .u64 0]) ?_ 1 _ rfl;(with_reducible repeat (first|refine z5 ?_ _|refine z8 ?_|refine z4 ?_ _));refine zN (cs:=#[.int .u64 0,.int .u64 0]) ?_ 0 _ rfl;(with_reducible repeat (first|refine z5 ?_ _|refine z8 ?_|refine z4 ?_ _));exact BK103.out) Try.underlying51 rfl (by kernel_rfl)) rfl ?_
 exact ⟨by first|rfl|(simp [zg,zh] <;> rfl)|(simp [*,zg,zh] <;> rfl),by repeat (first|(with_reducible first|exact HB.out|apply z2|apply z0|apply z1|refine z6 ?_ GE101.out|refine z6 ?_ GE102.out|refine z6 ?_ GE103.out)|exact HB.out)⟩
end Go.Proofs.Ytngcaphdkgihmaa.P
namespace Go.Proofs.Ytngcaphdkgihmaa.P
open Go.RowKit Go.Proofs.YtngcaphdkgihmaaW.PrintWords Go.Proofs.YtngcaphdkgihmaaW.PrintLast Go.Proofs.YtngcaphdkgihmaaW.PrintMore
attribute [local go_sem] zW zY z15 z16 zQ zR zX zZ   -- for this text's walks alone
set_option linter.unusedVariables false
set_option linter.unusedSimpArgs false
def zF.j0 : Nat → Int → Bool → Option (Int)
 | 0,_,_=>none
 | k + 1,x0,x3=>if x3 = true then (some 0) else (if x0 ≤ 3 then (some 1) else (if 0 ≤ (wrap64 (x0 - 3)) then (some (shl .i64 1 (wrap64 (x0 - 3)))) else (none)))
def zF.f (k : Nat) (a0 : Int) : Option (Int):=if a0 < 0 then (zF.j0 k a0 true) else (zF.j0 k a0 (decide (a0 > 7)))
theorem zF.z13 : ∀ k,(∀ y0 y1,LeO (zF.j0 k y0 y1) (zF.j0 (k + 1) y0 y1))
 | 0=>fun _ _ r h=>by simp [zF.j0] at h
 | k + 1=>by
  have ih0:=zF.z13 k
  · intro y0 y1
    unfold zF.j0
    repeat' first
    | (with_reducible exact ih0 _ _)
    | (with_reducible exact LeO.refl _)
    | (with_reducible exact LeO.none _)
    | (with_reducible refine LeO.ite ?_ ?_)
    | (with_reducible refine LeO.bind ?_ (fun _=>?_))
    | exact ih0 _ _
    | exact LeO.none _
    | refine LeO.ite ?_ ?_
    | refine LeO.bind ?_ (fun _=>?_)
theorem zF.mono : ∀ a0 k,LeO (zF.f k a0) (zF.f (k + 1) a0):=by
 intro a0 k
 have ih0:=zF.z13 k
 unfold zF.f
 repeat' first
  | (with_reducible exact ih0 _ _)
  | (with_reducible exact LeO.refl _)
  | (with_reducible exact LeO.none _)
  | (with_reducible refine LeO.ite ?_ ?_)
  | (with_reducible refine LeO.bind ?_ (fun _=>?_))
  | exact ih0 _ _
  | exact LeO.none _
  | refine LeO.ite ?_ ?_
  | refine LeO.bind ?_ (fun _=>?_)
set_option maxHeartbeats 8000000 in
set_option maxRecDepth 100000 in
theorem zF.calls (k : Nat) (a0 : Int) (r : Int) (w : World) (h : zF.f k a0 = some r) :
 Calls Try.prog 78 #[.int .i64 a0] w fun e w'=>e = .returned (.int .i64 r) ∧ Drawn0 w w':=by
 have H : (if a0 < 0 then (zF.j0 k a0 true) else (zF.j0 k a0 (decide (a0 > 7)))) = some r:=h
 clear h
 have HC2:=z3.mk H
 clear H
 go_enter Try.func78,Try.ntmps78
 go_upto_region 1 with (fail)
 go_cut [3] (fun v3 wc=>∃ (kq : Nat) (x3_1 : Bool),v3 = .bool x3_1 ∧ z3 (zF.j0 kq a0 x3_1 = some r) ∧ z3 (kq ≤ k) ∧ Drawn0 w wc)
 case first =>
  have H:=HC2.out
  clear HC2
  by_cases c3 : a0 < 0
  rotate_left
  · rw [if_neg c3] at H
    have c3b0 : decide (a0 < 0) = false:=decide_eq_false c3
    clear c3
    (first|rw [c3b0]|(simp only [zD,zI];rw [c3b0])|skip)
    have H':=z3.mk H
    clear H
    go_wp2
    go_meet
    case rel=>exact ⟨_,(decide (a0 > 7)),(by first|rfl|(simp;done)|(simp [*];done)),H',⟨by first|omega|exact Nat.le_refl _⟩,by repeat (first|exact Drawn0.refl _|apply Drawn0.step)⟩
  rw [if_pos c3] at H
  have c3b0 : decide (a0 < 0) = true:=decide_eq_true c3
  clear c3
  (first|rw [c3b0]|(simp only [zD,zI];rw [c3b0])|skip)
  have H':=z3.mk H
  clear H
  go_wp2
  go_meet
  case rel=>exact ⟨_,(true),(by first|rfl|(simp;done)|(simp [*];done)),H',⟨by first|omega|exact Nat.le_refl _⟩,by repeat (first|exact Drawn0.refl _|apply Drawn0.step)⟩
 case rest =>
  clear HC2
  (try clear p2);(try clear c3);(try clear c3b0)
  obtain ⟨kq,x3_1,rfl,HA,HJ1,⟨mc1,rfl⟩⟩:=hcut
  cases kq with
  | zero=>exact absurd HA.out (by simp [zF.j0])
  | succ kj1 =>
   have H:=HA.out
   clear HA
   simp only [zF.j0] at H
   by_cases c4 : x3_1 = true
   · subst c4
     have H1 : (some 0) = some r:=by rw [if_pos rfl] at H;exact H
     clear H
     have H:=H1
     clear H1
     obtain rfl:=Option.some.inj H
     go_wp2
     go_ret
     exact ⟨by first|rfl|(simp;done)|(simp [*];done),by repeat (first|exact Drawn0.refl _|apply Drawn0.step)⟩
   replace c4:=Bool.eq_false_iff.mpr c4
   subst c4
   have H1 : (if a0 ≤ 3 then (some 1) else (if 0 ≤ (wrap64 (a0 - 3)) then (some (shl .i64 1 (wrap64 (a0 - 3)))) else (none))) = some r:=by rw [if_neg (show ¬ (false = true) by decide)] at H;exact H
   clear H
   have H:=H1
   clear H1
   by_cases c5 : a0 ≤ 3
   · rw [if_pos c5] at H
     have c5b0 : decide (a0 ≤ 3) = true:=decide_eq_true c5
     clear c5
     obtain rfl:=Option.some.inj H
     go_wp2
     go_ret
     exact ⟨by first|rfl|(simp;done)|(simp [*];done),by repeat (first|exact Drawn0.refl _|apply Drawn0.step)⟩
   rw [if_neg c5] at H
   have c5b0 : decide (a0 ≤ 3) = false:=decide_eq_false c5
   clear c5
   obtain ⟨ji6,hji6⟩ : ∃ j_ : Int,(wrap64 (a0 - 3)) = j_:=⟨_,rfl⟩
   replace H : (if 0 ≤ (ji6) then (some (shl .i64 1 (ji6))) else (none)) = some r:=by first|(rw [hji6] at H;exact H)|(simp only [hji6] at H ⊢;exact H)
   have hji6w : (IntKind.i64.wrap (a0 - 3)) = ji6:=(zD _).trans hji6
   by_cases c7 : 0 ≤ (ji6)
   rotate_left
   · rw [if_neg c7] at H
     exact absurd H (by simp)
   rw [if_pos c7] at H
   have c7b0:=eq_true c7
   have c7b1 : decide (0 ≤ (ji6)) = true:=decide_eq_true c7
   clear c7
   obtain ⟨ji8,hji8⟩ : ∃ j_ : Int,(shl .i64 1 (ji6)) = j_:=⟨_,rfl⟩
   replace H : (some ji8) = some r:=by first|(rw [hji8] at H;exact H)|(simp only [hji8] at H ⊢;exact H)
   have hji8_ : (IntKind.i64.wrap (1 * 2 ^ min (ji6).toNat 64)) = ji8:=hji8
   have hji8z : (ji6) ≤ 64 → (IntKind.i64.wrap (1 * 2 ^ (ji6).toNat)) = ji8:=z1a hji8
   have hji8u : (IntKind.i64.wrap (2 ^ min (ji6).toNat 64)) = ji8:=by have h_:=hji8_;rw [Int.one_mul] at h_;exact h_
   have hji8v : (ji6) ≤ 64 → (IntKind.i64.wrap (2 ^ (ji6).toNat)) = ji8:=fun hle_=>by have h_:=hji8z hle_;rw [Int.one_mul] at h_;exact h_
   have hji8y : (wrap64 (1 * 2 ^ min (ji6).toNat 64)) = ji8:=(zD _).symm.trans hji8_
   have hji8x : (ji6) ≤ 64 → (wrap64 (1 * 2 ^ (ji6).toNat)) = ji8:=fun h_=>(zD _).symm.trans (hji8z h_)
   obtain rfl:=Option.some.inj H
   go_wp2
   go_ret
   exact ⟨by first|rfl|(simp;done)|(simp only [← hji6,← hji8] <;> (first|rfl|simp))|(simp [*];done),by repeat (first|exact Drawn0.refl _|apply Drawn0.step)⟩
end Go.Proofs.Ytngcaphdkgihmaa.P
namespace Go.Proofs.Ytngcaphdkgihmaa.P
open Go.RowKit Go.Proofs.YtngcaphdkgihmaaW.PrintWords Go.Proofs.YtngcaphdkgihmaaW.PrintLast Go.Proofs.YtngcaphdkgihmaaW.PrintMore
attribute [local go_sem] zW zY z15 z16 zQ zR zX zZ   -- for this text's walks alone
set_option linter.unusedVariables false
set_option linter.unusedSimpArgs false
def z11.f (k : Nat) (a0 : Int) (a1 : Int) : Option (Int):=(zF.f k a0).bind fun t101=>(if t101 = 0 then (some 1) else ((zF.f k a1).bind fun t102=>(if t102 = 0 then (some 1) else (if a1 < a0 then (some 1) else (some 0)))))
theorem z11.mono : ∀ a0 a1 k,LeO (z11.f k a0 a1) (z11.f (k + 1) a0 a1):=by
 intro a0 a1 k
 unfold z11.f
 repeat' first
  | (with_reducible exact zF.mono _ _)
  | (with_reducible exact LeO.refl _)
  | (with_reducible exact LeO.none _)
  | (with_reducible refine LeO.ite ?_ ?_)
  | (with_reducible refine LeO.bind ?_ (fun _=>?_))
  | exact zF.mono _ _
  | exact LeO.none _
  | refine LeO.ite ?_ ?_
  | refine LeO.bind ?_ (fun _=>?_)
set_option maxHeartbeats 8000000 in
set_option maxRecDepth 100000 in
theorem z11.calls (k : Nat) (a0 : Int) (a1 : Int) (r : Int) (w : World) (h : z11.f k a0 a1 = some r) :
 Calls Try.prog 69 #[.int .i64 a0,.int .i64 a1] w fun e w'=>e = .returned (.int .i64 r) ∧ Drawn0 w w':=by
 have H : ((zF.f k a0).bind fun t101=>(if t101 = 0 then (some 1) else ((zF.f k a1).bind fun t102=>(if t102 = 0 then (some 1) else (if a1 < a0 then (some 1) else (some 0)))))) = some r:=h
 clear h
 replace H:=Option.bind_eq_some_iff.mp H
 obtain ⟨t101,A30,H⟩:=H
 replace H : (if t101 = 0 then (some 1) else ((zF.f k a1).bind fun t102=>(if t102 = 0 then (some 1) else (if a1 < a0 then (some 1) else (some 0))))) = some r:=H
 have A3:=z3.mk A30
 clear A30
 by_cases c4 : t101 = 0
 · rw [if_pos c4] at H
   have c4b0 : (t101 == 0) = true:=beq_iff_eq.mpr c4
   have c4b1 : (t101 != 0) = false:=bne_eq_false_iff_eq.mpr c4
   clear c4
   obtain rfl:=Option.some.inj H
   go_enter Try.func69,Try.ntmps69
   go_wp2_with (first|((with_reducible refine zl (f:=78) rfl ?_);refine goesL_ (some 6) rfl rfl Try.func78 (by kernel_rfl) rfl #[.int .i64 a0] rfl (by (try simp only [List.map_toArray,List.map_cons,List.map_nil]);first|done|rfl|(simp only [List.length_drop,List.length_take];rfl)) ?_;(with_reducible refine (zF.calls k a0 t101 _ A3.out).mono ?_);rintro e w' ⟨rfl,⟨nd,rfl⟩⟩;refine ⟨_,rfl,?_⟩))
   go_ret
   exact ⟨by first|rfl|(simp;done)|(simp [*];done),by repeat (first|exact Drawn0.refl _|apply Drawn0.step)⟩
 rw [if_neg c4] at H
 have c4b0 : (t101 == 0) = false:=beq_eq_false_iff_ne.mpr c4
 have c4b1 : (t101 != 0) = true:=bne_iff_ne.mpr c4
 replace H:=Option.bind_eq_some_iff.mp H
 obtain ⟨t102,A50,H⟩:=H
 replace H : (if t102 = 0 then (some 1) else (if a1 < a0 then (some 1) else (some 0))) = some r:=H
 have A5:=z3.mk A50
 clear A50
 by_cases c6 : t102 = 0
 · rw [if_pos c6] at H
   have c6b0 : (t102 == 0) = true:=beq_iff_eq.mpr c6
   have c6b1 : (t102 != 0) = false:=bne_eq_false_iff_eq.mpr c6
   clear c6
   obtain rfl:=Option.some.inj H
   go_enter Try.func69,Try.ntmps69
   go_wp2_with (first|((with_reducible refine zl (f:=78) rfl ?_);refine goesL_ (some 6) rfl rfl Try.func78 (by kernel_rfl) rfl #[.int .i64 a0] rfl (by (try simp only [List.map_toArray,List.map_cons,List.map_nil]);first|done|rfl|(simp only [List.length_drop,List.length_take];rfl)) ?_;(with_reducible refine (zF.calls k a0 t101 _ A3.out).mono ?_);rintro e w' ⟨rfl,⟨nd,rfl⟩⟩;refine ⟨_,rfl,?_⟩)|(go_at_call 78;(with_reducible refine (zF.calls k a1 t102 _ A5.out).mono ?_);rintro e w' ⟨rfl,⟨nd,rfl⟩⟩))
   go_ret
   exact ⟨by first|rfl|(simp;done)|(simp [*];done),by repeat (first|exact Drawn0.refl _|apply Drawn0.step)⟩
 rw [if_neg c6] at H
 have c6b0 : (t102 == 0) = false:=beq_eq_false_iff_ne.mpr c6
 have c6b1 : (t102 != 0) = true:=bne_iff_ne.mpr c6
 by_cases c7 : a1 < a0
 · rw [if_pos c7] at H
   have c7b0 : decide (a1 < a0) = true:=decide_eq_true c7
   clear c7
   obtain rfl:=Option.some.inj H
   go_enter Try.func69,Try.ntmps69
   go_wp2_with (first|((with_reducible refine zl (f:=78) rfl ?_);refine goesL_ (some 6) rfl rfl Try.func78 (by kernel_rfl) rfl #[.int .i64 a0] rfl (by (try simp only [List.map_toArray,List.map_cons,List.map_nil]);first|done|rfl|(simp only [List.length_drop,List.length_take];rfl)) ?_;(with_reducible refine (zF.calls k a0 t101 _ A3.out).mono ?_);rintro e w' ⟨rfl,⟨nd,rfl⟩⟩;refine ⟨_,rfl,?_⟩)|(go_at_call 78;(with_reducible refine (zF.calls k a1 t102 _ A5.out).mono ?_);rintro e w' ⟨rfl,⟨nd,rfl⟩⟩))
   go_ret
   exact ⟨by first|rfl|(simp;done)|(simp [*];done),by repeat (first|exact Drawn0.refl _|apply Drawn0.step)⟩
 rw [if_neg c7] at H
 have c7b0 : decide (a1 < a0) = false:=decide_eq_false c7
 clear c7
 obtain rfl:=Option.some.inj H
 go_enter Try.func69,Try.ntmps69
 go_wp2_with (first|((with_reducible refine zl (f:=78) rfl ?_);refine goesL_ (some 6) rfl rfl Try.func78 (by kernel_rfl) rfl #[.int .i64 a0] rfl (by (try simp only [List.map_toArray,List.map_cons,List.map_nil]);first|done|rfl|(simp only [List.length_drop,List.length_take];rfl)) ?_;(with_reducible refine (zF.calls k a0 t101 _ A3.out).mono ?_);rintro e w' ⟨rfl,⟨nd,rfl⟩⟩;refine ⟨_,rfl,?_⟩)|(go_at_call 78;(with_reducible refine (zF.calls k a1 t102 _ A5.out).mono ?_);rintro e w' ⟨rfl,⟨nd,rfl⟩⟩))
 go_ret
 exact ⟨by first|rfl|(simp;done)|(simp [*];done),by repeat (first|exact Drawn0.refl _|apply Drawn0.step)⟩
end Go.Proofs.Ytngcaphdkgihmaa.P
namespace Go.Proofs.Ytngcaphdkgihmaa.P
open Go.RowKit Go.Proofs.YtngcaphdkgihmaaW.PrintWords Go.Proofs.YtngcaphdkgihmaaW.PrintLast Go.Proofs.YtngcaphdkgihmaaW.PrintMore
attribute [local go_sem] zW zY z15 z16 zQ zR zX zZ   -- for this text's walks alone
set_option linter.unusedVariables false
set_option linter.unusedSimpArgs false
def zL.j0 : Nat → Int → Bool → Int → Int → Option (Bool)
 | 0,_,_,_,_=>none
 | k + 1,x0,x5,x102000,x102001=>if x5 = true then (some false) else (if x0 = 7 then (some true) else (if x0 = 6 then (some (x102000 == 0)) else (if x102000 = 0 then (if 0 ≤ x0 then (some ((shr .u64 x102001 (shl .u64 1 x0)) == 0)) else (none)) else (some false))))
def zL.f (k : Nat) (a0 : Int) (a1_0 : Int) (a1_1 : Int) : Option (Bool):=if a0 < 0 then (zL.j0 k a0 true a1_0 a1_1) else (zL.j0 k a0 (decide (a0 > 7)) a1_0 a1_1)
theorem zL.z13 : ∀ k,(∀ y0 y1 y2 y3,LeO (zL.j0 k y0 y1 y2 y3) (zL.j0 (k + 1) y0 y1 y2 y3))
 | 0=>fun _ _ _ _ r h=>by simp [zL.j0] at h
 | k + 1=>by
  have ih0:=zL.z13 k
  · intro y0 y1 y2 y3
    unfold zL.j0
    repeat' first
    | (with_reducible exact ih0 _ _ _ _)
    | (with_reducible exact LeO.refl _)
    | (with_reducible exact LeO.none _)
    | (with_reducible refine LeO.ite ?_ ?_)
    | (with_reducible refine LeO.bind ?_ (fun _=>?_))
    | exact ih0 _ _ _ _
    | exact LeO.none _
    | refine LeO.ite ?_ ?_
    | refine LeO.bind ?_ (fun _=>?_)
theorem zL.mono : ∀ a0 a1 a2 k,LeO (zL.f k a0 a1 a2) (zL.f (k + 1) a0 a1 a2):=by
 intro a0 a1 a2 k
 have ih0:=zL.z13 k
 unfold zL.f
 repeat' first
  | (with_reducible exact ih0 _ _ _ _)
  | (with_reducible exact LeO.refl _)
  | (with_reducible exact LeO.none _)
  | (with_reducible refine LeO.ite ?_ ?_)
  | (with_reducible refine LeO.bind ?_ (fun _=>?_))
  | exact ih0 _ _ _ _
  | exact LeO.none _
  | refine LeO.ite ?_ ?_
  | refine LeO.bind ?_ (fun _=>?_)
set_option maxHeartbeats 8000000 in
set_option maxRecDepth 100000 in
theorem zL.calls (k : Nat) (a0 : Int) (a1_0 : Int) (a1_1 : Int) (r : Bool) (w : World) (h : zL.f k a0 a1_0 a1_1 = some r) :
 Calls Try.prog 67 #[.int .i64 a0,.agg #[.int .u64 a1_0,.int .u64 a1_1]] w fun e w'=>e = .returned (.bool r) ∧ Below w.heap.size w w':=by
 have hu51:=Try.underlying51
 have HB:=z3.mk (Below.refl w.heap.size w)
 have H : (if a0 < 0 then (zL.j0 k a0 true a1_0 a1_1) else (zL.j0 k a0 (decide (a0 > 7)) a1_0 a1_1)) = some r:=h
 clear h
 have HC3:=z3.mk H
 clear H
 go_enter Try.func67,Try.ntmps67
 go_upto_region 1 with (first|((with_reducible refine zE (N:=3) rfl ?_);refine zC ?hg (N:=3) ?hd (cs:=#[.int .u64 a1_0,.int .u64 a1_1]) (t:=51) ?hr ?_;(case hd=>rfl);(case hg=>rfl);(case hr=>first|(go_simp;done)|(go_simp;rfl));intro gb101 hg w4 hbox hb;have n0_:=z3.mk (zb (by repeat (first|(with_reducible first|exact HB.out|apply z2|apply z0|apply z1)|exact HB.out)) hb);have n1_:=z3.mk (hbox);have n2_:=z3.mk ((by rw [hg];exact (zc (by repeat (first|(with_reducible first|exact HB.out|apply z2|apply z0|apply z1)|exact HB.out))) : w.heap.size ≤ gb101));have n3_:=z3.mk ((by rw [hg];exact (zc (by repeat (first|(with_reducible first|exact HB.out|apply z2|apply z0|apply z1)|exact HB.out))) : w.heap.size ≤ gb101));clear HB;have HB:=n0_;have BK101:=n1_;have GW101:=n2_;have GE101:=n3_;clear n0_ n1_ n2_ n3_;clear hb hbox hg))
 repeat (go_quiet (first|((with_reducible refine zE (N:=3) rfl ?_);refine zC ?hg (N:=3) ?hd (cs:=#[.int .u64 a1_0,.int .u64 a1_1]) (t:=51) ?hr ?_;(case hd=>rfl);(case hg=>rfl);(case hr=>first|(go_simp;done)|(go_simp;rfl));intro gb101 hg w4 hbox hb;have n0_:=z3.mk (zb (by repeat (first|(with_reducible first|exact HB.out|apply z2|apply z0|apply z1)|exact HB.out)) hb);have n1_:=z3.mk (hbox);have n2_:=z3.mk ((by rw [hg];exact (zc (by repeat (first|(with_reducible first|exact HB.out|apply z2|apply z0|apply z1)|exact HB.out))) : w.heap.size ≤ gb101));have n3_:=z3.mk ((by rw [hg];exact (zc (by repeat (first|(with_reducible first|exact HB.out|apply z2|apply z0|apply z1)|exact HB.out))) : w.heap.size ≤ gb101));clear HB;have HB:=n0_;have BK101:=n1_;have GW101:=n2_;have GE101:=n3_;clear n0_ n1_ n2_ n3_;clear hb hbox hg));go_upto_region 1 with (first|((with_reducible refine zE (N:=3) rfl ?_);refine zC ?hg (N:=3) ?hd (cs:=#[.int .u64 a1_0,.int .u64 a1_1]) (t:=51) ?hr ?_;(case hd=>rfl);(case hg=>rfl);(case hr=>first|(go_simp;done)|(go_simp;rfl));intro gb101 hg w4 hbox hb;have n0_:=z3.mk (zb (by repeat (first|(with_reducible first|exact HB.out|apply z2|apply z0|apply z1)|exact HB.out)) hb);have n1_:=z3.mk (hbox);have n2_:=z3.mk ((by rw [hg];exact (zc (by repeat (first|(with_reducible first|exact HB.out|apply z2|apply z0|apply z1)|exact HB.out))) : w.heap.size ≤ gb101));have n3_:=z3.mk ((by rw [hg];exact (zc (by repeat (first|(with_reducible first|exact HB.out|apply z2|apply z0|apply z1)|exact HB.out))) : w.heap.size ≤ gb101));clear HB;have HB:=n0_;have BK101:=n1_;have GW101:=n2_;have GE101:=n3_;clear n0_ n1_ n2_ n3_;clear hb hbox hg)))
 (try simp only [Act.put,List.setIfInBounds_toArray,List.set_cons_zero,List.set_cons_succ])
 go_cut [5] (fun v5 wc=>∃ (kq : Nat) (x5_2 : Bool),v5 = .bool x5_2 ∧ z3 (zL.j0 kq a0 x5_2 a1_0 a1_1 = some r) ∧ z3 (kq ≤ k) ∧ z3 (wc.heap[gb101]? = some (.cells #[.int .u64 a1_0,.int .u64 a1_1] 51 (0,0))) ∧ z3 (Below w.heap.size w wc))
 case first =>
  have H:=HC3.out
  clear HC3
  by_cases c5 : a0 < 0
  rotate_left
  · rw [if_neg c5] at H
    have c5b0 : decide (a0 < 0) = false:=decide_eq_false c5
    clear c5
    (first|rw [c5b0]|(simp only [zD,zI];rw [c5b0])|skip)
    have H':=z3.mk H
    clear H
    go_wp2
    repeat (go_quiet (fail);try go_wp2)
    go_meet
    case rel=>exact ⟨_,(decide (a0 > 7)),(by first|rfl|(simp;done)|(simp [*];done)),H',⟨by first|omega|exact Nat.le_refl _⟩,⟨by (with_reducible repeat (first|refine z5 ?_ _|refine z8 ?_|refine z4 ?_ _));exact BK101.out⟩,⟨by repeat (first|(with_reducible first|exact HB.out|apply z2|apply z0|apply z1|refine z6 ?_ GE101.out)|exact HB.out)⟩⟩
  rw [if_pos c5] at H
  have c5b0 : decide (a0 < 0) = true:=decide_eq_true c5
  clear c5
  (first|rw [c5b0]|(simp only [zD,zI];rw [c5b0])|skip)
  have H':=z3.mk H
  clear H
  go_wp2
  repeat (go_quiet (fail);try go_wp2)
  go_meet
  case rel=>exact ⟨_,(true),(by first|rfl|(simp;done)|(simp [*];done)),H',⟨by first|omega|exact Nat.le_refl _⟩,⟨by (with_reducible repeat (first|refine z5 ?_ _|refine z8 ?_|refine z4 ?_ _));exact BK101.out⟩,⟨by repeat (first|(with_reducible first|exact HB.out|apply z2|apply z0|apply z1|refine z6 ?_ GE101.out)|exact HB.out)⟩⟩
 case rest =>
  clear HC3
  (try clear p2);(try clear c5);(try clear c5b0)
  obtain ⟨kq,x5_2,rfl,HA,HJ2,BK101,HB⟩:=hcut
  cases kq with
  | zero=>exact absurd HA.out (by simp [zL.j0])
  | succ kj2 =>
   have H:=HA.out
   clear HA
   simp only [zL.j0] at H
   by_cases c6 : x5_2 = true
   · subst c6
     have H1 : (some false) = some r:=by rw [if_pos rfl] at H;exact H
     clear H
     have H:=H1
     clear H1
     obtain rfl:=Option.some.inj H
     go_wp2
     repeat (go_quiet (fail);try go_wp2)
     go_ret
     exact ⟨by first|rfl|(simp [zg,zh] <;> rfl)|(simp [*,zg,zh] <;> rfl),by repeat (first|(with_reducible first|exact HB.out|apply z2|apply z0|apply z1|refine z6 ?_ GE101.out)|exact HB.out)⟩
   replace c6:=Bool.eq_false_iff.mpr c6
   subst c6
   have H1 : (if a0 = 7 then (some true) else (if a0 = 6 then (some (a1_0 == 0)) else (if a1_0 = 0 then (if 0 ≤ a0 then (some ((shr .u64 a1_1 (shl .u64 1 a0)) == 0)) else (none)) else (some false)))) = some r:=by rw [if_neg (show ¬ (false = true) by decide)] at H;exact H
   clear H
   have H:=H1
   clear H1
   by_cases c7 : a0 = 7
   · rw [if_pos c7] at H
     have c7b0 : (a0 == 7) = true:=beq_iff_eq.mpr c7
     have c7b1 : (a0 != 7) = false:=bne_eq_false_iff_eq.mpr c7
     clear c7
     obtain rfl:=Option.some.inj H
     go_wp2
     repeat (go_quiet (fail);try go_wp2)
     go_ret
     exact ⟨by first|rfl|(simp [zg,zh] <;> rfl)|(simp [*,zg,zh] <;> rfl),by repeat (first|(with_reducible first|exact HB.out|apply z2|apply z0|apply z1|refine z6 ?_ GE101.out)|exact HB.out)⟩
   rw [if_neg c7] at H
   have c7b0 : (a0 == 7) = false:=beq_eq_false_iff_ne.mpr c7
   have c7b1 : (a0 != 7) = true:=bne_iff_ne.mpr c7
   by_cases c8 : a0 = 6
   · rw [if_pos c8] at H
     have c8b0 : (a0 == 6) = true:=beq_iff_eq.mpr c8
     have c8b1 : (a0 != 6) = false:=bne_eq_false_iff_eq.mpr c8
     clear c8
     obtain rfl:=Option.some.inj H
     have hcz9_0 : wc.cell? ⟨gb101,0,none⟩ = some (.int .u64 a1_0):=(ze BK101.out 0).trans rfl
     have hcz9_1 : wc.cell? ⟨gb101,1,none⟩ = some (.int .u64 a1_1):=(ze BK101.out 1).trans rfl
     have hfz9_0:=zd BK101.out 0
     have hfz9_1:=zd BK101.out 1
     go_wp2
     repeat (go_quiet (fail);try go_wp2)
     go_ret
     exact ⟨by first|rfl|(simp [zg,zh] <;> rfl)|(simp [*,zg,zh] <;> rfl),by repeat (first|(with_reducible first|exact HB.out|apply z2|apply z0|apply z1|refine z6 ?_ GE101.out)|exact HB.out)⟩
   rw [if_neg c8] at H
   have c8b0 : (a0 == 6) = false:=beq_eq_false_iff_ne.mpr c8
   have c8b1 : (a0 != 6) = true:=bne_iff_ne.mpr c8
   by_cases c10 : a1_0 = 0
   rotate_left
   · rw [if_neg c10] at H
     have c10b0 : (a1_0 == 0) = false:=beq_eq_false_iff_ne.mpr c10
     have c10b1 : (a1_0 != 0) = true:=bne_iff_ne.mpr c10
     obtain rfl:=Option.some.inj H
     have hcz15_0 : wc.cell? ⟨gb101,0,none⟩ = some (.int .u64 a1_0):=(ze BK101.out 0).trans rfl
     have hcz15_1 : wc.cell? ⟨gb101,1,none⟩ = some (.int .u64 a1_1):=(ze BK101.out 1).trans rfl
     have hfz15_0:=zd BK101.out 0
     have hfz15_1:=zd BK101.out 1
     go_wp2
     repeat (go_quiet (fail);try go_wp2)
     go_ret
     exact ⟨by first|rfl|(simp [zg,zh] <;> rfl)|(simp [*,zg,zh] <;> rfl),by repeat (first|(with_reducible first|exact HB.out|apply z2|apply z0|apply z1|refine z6 ?_ GE101.out)|exact HB.out)⟩
   rw [if_pos c10] at H
   have c10b0 : (a1_0 == 0) = true:=beq_iff_eq.mpr c10
   have c10b1 : (a1_0 != 0) = false:=bne_eq_false_iff_eq.mpr c10
   clear c10
   by_cases c11 : 0 ≤ a0
   rotate_left
   · rw [if_neg c11] at H
     exact absurd H (by simp)
   rw [if_pos c11] at H
   have c11b0:=eq_true c11
   have c11b1 : decide (0 ≤ a0) = true:=decide_eq_true c11
   clear c11
   obtain ⟨ji12,hji12⟩ : ∃ j_ : Int,(shl .u64 1 a0) = j_:=⟨_,rfl⟩
   replace H : (some ((shr .u64 a1_1 (ji12)) == 0)) = some r:=by first|(rw [hji12] at H;exact H)|(simp only [hji12] at H ⊢;exact H)
   have hji12_ : (IntKind.u64.wrap (1 * 2 ^ min a0.toNat 64)) = ji12:=hji12
   have hji12z : a0 ≤ 64 → (IntKind.u64.wrap (1 * 2 ^ a0.toNat)) = ji12:=z1a hji12
   have hji12n0 : 0 ≤ ji12:=by rw [← hji12];exact Int.emod_nonneg _ (by decide)
   have hji12n1 : decide (0 ≤ ji12) = true:=decide_eq_true hji12n0
   replace hji12n0:=eq_true hji12n0
   have hji12u : (IntKind.u64.wrap (2 ^ min a0.toNat 64)) = ji12:=by have h_:=hji12_;rw [Int.one_mul] at h_;exact h_
   have hji12v : a0 ≤ 64 → (IntKind.u64.wrap (2 ^ a0.toNat)) = ji12:=fun hle_=>by have h_:=hji12z hle_;rw [Int.one_mul] at h_;exact h_
   obtain ⟨ji13,hji13⟩ : ∃ j_ : Int,(shr .u64 a1_1 (ji12)) = j_:=⟨_,rfl⟩
   replace H : (some ((ji13) == 0)) = some r:=by first|(rw [hji13] at H;exact H)|(simp only [hji13] at H ⊢;exact H)
   have hji13_ : (a1_1 / 2 ^ min (ji12).toNat 64) = ji13:=hji13
   have hji13z : (ji12) ≤ 64 → (a1_1 / 2 ^ (ji12).toNat) = ji13:=z1B hji13
   obtain rfl:=Option.some.inj H
   have hcz14_0 : wc.cell? ⟨gb101,0,none⟩ = some (.int .u64 a1_0):=(ze BK101.out 0).trans rfl
   have hcz14_1 : wc.cell? ⟨gb101,1,none⟩ = some (.int .u64 a1_1):=(ze BK101.out 1).trans rfl
   have hfz14_0:=zd BK101.out 0
   have hfz14_1:=zd BK101.out 1
   go_wp2
   repeat (go_quiet (fail);try go_wp2)
   go_ret
   exact ⟨by first|rfl|(simp [zg,zh] <;> rfl)|(simp only [← hji12,← hji13];first|rfl|(simp [zg,zh] <;> rfl))|(simp [*,zg,zh] <;> rfl),by repeat (first|(with_reducible first|exact HB.out|apply z2|apply z0|apply z1|refine z6 ?_ GE101.out)|exact HB.out)⟩
end Go.Proofs.Ytngcaphdkgihmaa.P
namespace Go.Proofs.Ytngcaphdkgihmaa.P
open Go.RowKit Go.Proofs.YtngcaphdkgihmaaW.PrintWords Go.Proofs.YtngcaphdkgihmaaW.PrintLast Go.Proofs.YtngcaphdkgihmaaW.PrintMore
attribute [local go_sem] zW zY z15 z16 zQ zR zX zZ   -- for this text's walks alone
set_option linter.unusedVariables false
set_option linter.unusedSimpArgs false
set_option maxHeartbeats 800000 in
set_option maxRecDepth 100000 in
theorem zM.clo (k : Nat) (a0 : Int) (x : S51) (g : Nat) (r : Bool) (w : World) (hg : w.heap[g]? = some (.cells #[.int .i64 a0] 3 (0,0))) (h : zL.f k a0 x.f0 x.f1 = some r) :
 Calls Try.prog 94 #[.agg #[.int .u64 x.f0,.int .u64 x.f1],.pointer (some ⟨g,0,none⟩)] w fun e w'=>e = .returned (.bool (!r)) ∧ Below w.heap.size w w':=by
 have hu51:=Try.underlying51
 have HB:=z3.mk (Below.refl w.heap.size w)
 have HG:=z3.mk hg
 have A8:=z3.mk h
 clear hg h
 go_enter Try.func94,Try.ntmps94
 go_wp2_with (first
  | ((with_reducible refine zE (N:=2) rfl ?_);refine zC ?hg (N:=2) ?hd (cs:=#[.int .u64 x.f0,.int .u64 x.f1]) (t:=51) ?hr ?_;(case hd=>rfl);(case hg=>rfl);(case hr=>first|(go_simp;done)|(go_simp;rfl));intro gb hgb w1_ hbox hb;have n0_:=z3.mk (zb HB.out hb);have hG1:=zn (g:=g) (o:=.cells #[.int .i64 a0] 3 (0,0)) HG.out hb;have hc0 : w1_.cell? ⟨g,0,none⟩ = some (.int .i64 a0):=(ze hG1 0).trans rfl;have hcx0 : w1_.cell? ⟨gb,0,none⟩ = some (.int .u64 x.f0):=(ze hbox 0).trans rfl;have hcx1 : w1_.cell? ⟨gb,1,none⟩ = some (.int .u64 x.f1):=(ze hbox 1).trans rfl;clear HB hG1 hbox hb hgb;have HB:=n0_;clear n0_)
  | ((with_reducible refine zl (f:=67) rfl ?_);refine goesL_ (some 6) rfl rfl Try.func67 (by kernel_rfl) rfl #[.int .i64 a0,.agg #[.int .u64 x.f0,.int .u64 x.f1]] rfl (by (try simp only [List.map_toArray,List.map_cons,List.map_nil]);first|done|rfl) ?_;(with_reducible refine (zL.calls k a0 x.f0 x.f1 r _ A8.out).mono ?_);rintro e w2_ ⟨rfl,hb2⟩;refine ⟨_,rfl,?_⟩;have n0_:=z3.mk (zb HB.out hb2);clear HB hb2;have HB:=n0_;clear n0_))
 go_ret
 exact ⟨rfl,HB.out⟩
def zM.all (k : Nat) (a0 : Int) : List S51 → Option Bool
 | []=>some true
 | x :: xs=>(zL.f k a0 x.f0 x.f1).bind fun b=>if b = true then zM.all k a0 xs else some false
theorem zM.z4v (a0 : Int) : ∀ (l : List S51) (k : Nat),LeO (zM.all k a0 l) (zM.all (k + 1) a0 l)
 | [],k=>LeO.refl _
 | x :: xs,k=>LeO.bind (zL.mono a0 x.f0 x.f1 k) (fun b=>LeO.ite (zM.z4v a0 xs k) (LeO.refl _))
theorem zM.all_drop (k : Nat) (a0 : Int) (l : List S51) (i : Nat) (h : i < l.length) : zM.all k a0 (l.drop i) = (zL.f k a0 (zx l (i : Int)).f0 (zx l (i : Int)).f1).bind fun b=>if b = true then zM.all k a0 (l.drop (i + 1)) else some false:=by
 rw [List.drop_eq_getElem_cons h]
 have e : zx l (i : Int) = l[i]:=by unfold zx;rw [Int.toNat_natCast,List.getD_eq_getElem?_getD,List.getElem?_eq_getElem h];rfl
 rw [e];rfl
set_option maxHeartbeats 800000 in
set_option maxRecDepth 100000 in
theorem zM.idx (k : Nat) (a0 : Int) (A_ : Option Addr) (c : Nat) (l : List S51) (g : Nat) (r : Bool) (w : World) (hr : Kd.C k51 w A_ l.length l) (hg : w.heap[g]? = some (.cells #[.int .i64 a0] 3 (0,0))) (h : zM.all k a0 l = some r) :
 Calls Try.prog 102 #[.slice A_ l.length c,.func (.func 94) #[] #[.pointer (some ⟨g,0,none⟩)]] w fun e w'=>(∃ i : Int,e = .returned (.int .i64 i) ∧ decide (i ≥ 0) = !r) ∧ Below w.heap.size w w':=by
 have hu51:=Try.underlying51
 have HB:=z3.mk (Below.refl w.heap.size w)
 have HG:=z3.mk hg
 have HR:=z3.mk hr
 have HA:=z3.mk h
 have HM:=z3.mk (Kd.C_max hr)
 clear hg h hr
 go_enter Try.func102,Try.ntmps102
 go_wp2
 go_loopg [8] l.length (fun kq v8 w'=>∃ (i : Nat),v8 = .int .i64 i ∧ z3 (i + kq = l.length) ∧ z3 (zM.all k a0 (l.drop i) = some r) ∧ z3 (w'.heap[g]? = some (.cells #[.int .i64 a0] 3 (0,0))) ∧ z3 (Below w.heap.size w w'))
 case atStart=>exact ⟨0,rfl,⟨by omega⟩,HA,HG,HB⟩
 case round =>
  obtain ⟨i,rfl,HK,HAi,HGi,HBi⟩:=hrel
  clear HG HB HA
  by_cases hlt : i < l.length
  rotate_left
  · have p0 : decide (i < l.length) = false:=decide_eq_false hlt
    have p1 : decide ((i : Int) < (l.length : Int)) = false:=decide_eq_false (by omega)
    have hr : r = true:=by
     have h1:=HAi.out
     rw [List.drop_eq_nil_of_le (by omega)] at h1
     exact (Option.some.inj h1).symm
    clear hlt HAi
    subst hr
    go_wp2
    go_ret
    exact ⟨⟨-1,rfl,by decide⟩,HBi.out⟩
  have hd:=zM.all_drop k a0 l i hlt
  have e1:=HAi.out
  rw [hd] at e1
  obtain ⟨b,hb,e2⟩:=Option.bind_eq_some_iff.mp e1
  clear e1 hd
  have HE:=z3.mk e2
  have HF:=z3.mk hb
  clear e2 hb
  obtain ⟨ad,e205,hx0,hx1⟩:=z2b HR.out (i : Int) (by omega) (by omega)
  cases e205
  rw [Int.toNat_natCast] at hx0 hx1
  replace hx0:=(HBi.out.cell (World.block_lt_of_cell? w _ hx0)).trans hx0
  replace hx1:=(HBi.out.cell (World.block_lt_of_cell? w _ hx1)).trans hx1
  have p0 : decide (i < l.length) = true:=decide_eq_true hlt
  have p1 : decide ((i : Int) < (l.length : Int)) = true:=decide_eq_true (by omega)
  have p2 : (0 ≤ (i : Int)) = True:=eq_true (by omega)
  have p3 : ((i : Int) < (l.length : Int)) = True:=eq_true (by omega)
  clear hlt
  go_wp2_with fail
  refine (zM.clo k a0 (zx l (i : Int)) g b _ HGi.out HF.out).mono ?_
  rintro e w1 ⟨rfl,hb1⟩
  have n0_:=z3.mk (zb HBi.out hb1)
  have n1_:=z3.mk (zn (g:=g) (o:=.cells #[.int .i64 a0] 3 (0,0)) HGi.out hb1)
  clear HBi HGi hb1 hx0 hx1
  cases b with
  | true =>
   rw [if_pos rfl] at HE
   simp only [Bool.not_true]
   go_wp2
   have hi : wrap64 ((i : Int) + 1) = ((i + 1 : Nat) : Int):=by
    have:=HM.out;have:=HK.out;have h9:=of_decide_eq_true p0;unfold wrap64;omega
   go_roundg (l.length - i - 1)
   case measure=>have:=HK.out;have h9:=of_decide_eq_true p0;omega
   case rel=>exact ⟨i + 1,congrArg (Value.int .i64) hi,⟨by have:=HK.out;have h9:=of_decide_eq_true p0;omega⟩,HE,n1_,n0_⟩
  | false =>
   have hr : r = false:=by
    have:=HE.out
    simp at this
    exact this
   subst hr
   simp only [Bool.not_false]
   go_wp2
   go_ret
   exact ⟨⟨(i : Int),rfl,by simp⟩,n0_.out⟩
set_option maxHeartbeats 800000 in
set_option maxRecDepth 100000 in
theorem zM.cont (k : Nat) (a0 : Int) (A_ : Option Addr) (c : Nat) (l : List S51) (g : Nat) (r : Bool) (w : World) (hr : Kd.C k51 w A_ l.length l) (hg : w.heap[g]? = some (.cells #[.int .i64 a0] 3 (0,0))) (h : zM.all k a0 l = some r) :
 Calls Try.prog 93 #[.slice A_ l.length c,.func (.func 94) #[] #[.pointer (some ⟨g,0,none⟩)]] w fun e w'=>e = .returned (.bool (!r)) ∧ Below w.heap.size w w':=by
 have HB:=z3.mk (Below.refl w.heap.size w)
 have HG:=z3.mk hg
 have HR:=z3.mk hr
 have HA:=z3.mk h
 clear hg h hr
 go_enter Try.func93,Try.ntmps93
 go_wp2_with fail
 refine (zM.idx k a0 A_ c l g r _ HR.out HG.out HA.out).mono ?_
 rintro e w1 ⟨⟨i,rfl,hi⟩,hb1⟩
 have hb:=z3.mk hb1
 have hj:=z3.mk hi
 clear hb1 hi
 go_wp2
 go_ret
 exact ⟨by rw [← hj.out];rfl,hb.out⟩
def zM.f (k : Nat) (a0 : Int) (l1 : List S51) : Option Bool:=zM.all k a0 l1
theorem zM.mono : ∀ a0 a1 k,LeO (zM.f k a0 a1) (zM.f (k + 1) a0 a1):=fun a0 l k=>zM.z4v a0 l k
set_option maxHeartbeats 800000 in
set_option maxRecDepth 100000 in
theorem zM.calls (k : Nat) (a0 : Int) (A1 : Option Addr) (c1 : Nat) (l1 : List S51) (r : Bool) (w : World) (hr1 : Kd.C k51 w A1 l1.length l1) (hc1 : l1.length ≤ c1) (h : zM.f k a0 l1 = some r) :
 Calls Try.prog 70 #[.int .i64 a0,.slice A1 l1.length c1] w fun e w'=>e = .returned (.bool r) ∧ Below w.heap.size w w':=by
 have hmf : ∀ (fn : Fn) (first cap : Array Value) (w : World),(Instr.makeFunc fn first cap).run Try.prog w = .ok (.func fn first cap) w:=fun _ _ _ _=>rfl
 have HB:=z3.mk (Below.refl w.heap.size w)
 have HR:=z3.mk hr1
 have HA:=z3.mk (show zM.all k a0 l1 = some r from h)
 clear h hr1
 go_enter Try.func70,Try.ntmps70
 go_wp2_with (first
  | ((with_reducible refine zE (N:=2) rfl ?_);refine zC ?hg (N:=2) ?hd (cs:=#[.int .i64 a0]) (t:=3) ?hr ?_;(case hd=>rfl);(case hg=>rfl);(case hr=>first|(go_simp;done)|(go_simp;rfl));intro gb hgb w1_ hbox hb;have n0_:=z3.mk (zb HB.out hb);have n1_:=z3.mk hbox;have n2_:=z3.mk (Kd.z1y HR.out hb);clear HB HR hbox hb hgb;have HB:=n0_;have HG:=n1_;have HR:=n2_;clear n0_ n1_ n2_)
  | ((with_reducible refine zl (f:=93) rfl ?_);refine goesL_ (some 7) rfl rfl Try.func93 (by kernel_rfl) rfl #[.slice A1 l1.length c1,.func (.func 94) #[] #[.pointer (some ⟨gb,0,none⟩)]] rfl (by (try simp only [List.map_toArray,List.map_cons,List.map_nil]);first|done|rfl) ?_;(with_reducible refine (zM.cont k a0 _ _ l1 gb r _ HR.out HG.out HA.out).mono ?_);rintro e w2_ ⟨rfl,hb2⟩;refine ⟨_,rfl,?_⟩;have n0_:=z3.mk (zb HB.out hb2);clear HB hb2;have HB:=n0_;clear n0_))
 go_ret
 exact ⟨by simp,HB.out⟩
end Go.Proofs.Ytngcaphdkgihmaa.P
namespace Go.Proofs.Ytngcaphdkgihmaa.P
open Go.RowKit Go.Proofs.YtngcaphdkgihmaaW.PrintWords Go.Proofs.YtngcaphdkgihmaaW.PrintLast Go.Proofs.YtngcaphdkgihmaaW.PrintMore
attribute [local go_sem] zW zY z15 z16 zQ zR zX zZ   -- for this text's walks alone
set_option linter.unusedVariables false
set_option linter.unusedSimpArgs false
def z1c.f (a0_0 : Int) (a0_1 : Int) (a1 : Int) : Option (Int × Int):=if a1 = 0 then (some (a0_0,a0_1)) else (if a1 ≥ 64 then (if 0 ≤ (wrap64 (a1 - 64)) then (some (shl .u64 a0_1 (wrap64 (a1 - 64)),0)) else (none)) else (if 0 ≤ a1 then (if 0 ≤ (wrap64 (64 - a1)) then (some (Go.bits .or .u64 (shl .u64 a0_0 a1) (shr .u64 a0_1 (wrap64 (64 - a1))),shl .u64 a0_1 a1)) else (none)) else (none)))
def z1c.T5 : Bool × List (List Nat × List Nat):=(true,[([],[]),([0],[0]),([],[]),([1,2],[1,2]),([],[]),([4],[4]),([],[]),([6],[6]),([5,7],[5,7]),([3,8],[3,8]),([],[]),([10],[10]),([],[]),([11,12],[11,12]),([9,13],[9,13]),([14,0,1,2,3,4,5,6,7,8,9,10,11,12,13,14],[14])])
def z1c.B5 : List Nat:=[0,1,0,7,0,16,0,64,240,511,0,1024,0,7168,16383,32767]
theorem z1c.tab5 : rtab .any (opsOf Try.f71 5) = z1c.T5:=by kernel_rfl
theorem z1c.bits5 : waitsOk z1c.T5.2 z1c.B5 = true:=by kernel_rfl
set_option maxHeartbeats 8000000 in
set_option maxRecDepth 100000 in
theorem z1c.calls (a0_0 : Int) (a0_1 : Int) (a1 : Int) (r1 : Int) (r2 : Int) (w : World) (h : z1c.f a0_0 a0_1 a1 = some (r1,r2)) :
 Calls Try.prog 71 #[.agg #[.int .u64 a0_0,.int .u64 a0_1],.int .i64 a1] w fun e w'=>e = .returned (.agg #[.int .u64 r1,.int .u64 r2]) ∧ Below w.heap.size w w':=by
 have hu51:=Try.underlying51
 have HB:=z3.mk (Below.refl w.heap.size w)
 have H : (if a1 = 0 then (some (a0_0,a0_1)) else (if a1 ≥ 64 then (if 0 ≤ (wrap64 (a1 - 64)) then (some (shl .u64 a0_1 (wrap64 (a1 - 64)),0)) else (none)) else (if 0 ≤ a1 then (if 0 ≤ (wrap64 (64 - a1)) then (some (Go.bits .or .u64 (shl .u64 a0_0 a1) (shr .u64 a0_1 (wrap64 (64 - a1))),shl .u64 a0_1 a1)) else (none)) else (none)))) = some (r1,r2):=h
 clear h
 by_cases c3 : a1 = 0
 · rw [if_pos c3] at H
   have c3b0 : (a1 == 0) = true:=beq_iff_eq.mpr c3
   have c3b1 : (a1 != 0) = false:=bne_eq_false_iff_eq.mpr c3
   clear c3
   simp only [Option.some.injEq,Prod.mk.injEq] at H
   obtain ⟨rfl,rfl⟩:=H
   go_enter Try.func71,Try.ntmps71
   go_wp2_with (first|((with_reducible refine zE (N:=2) rfl ?_);refine zC ?hg (N:=2) ?hd (cs:=#[.int .u64 a0_0,.int .u64 a0_1]) (t:=51) ?hr ?_;(case hd=>rfl);(case hg=>rfl);(case hr=>first|(go_simp;done)|(go_simp;rfl));intro gb101 hg w4 hbox hb;have n0_:=z3.mk (zb (by repeat (first|(with_reducible first|exact HB.out|apply z2|apply z0|apply z1)|exact HB.out)) hb);have n1_:=z3.mk (hbox);have n2_:=z3.mk ((by rw [hg];exact (zc (by repeat (first|(with_reducible first|exact HB.out|apply z2|apply z0|apply z1)|exact HB.out))) : w.heap.size ≤ gb101));have n3_:=z3.mk ((by rw [hg];exact (zc (by repeat (first|(with_reducible first|exact HB.out|apply z2|apply z0|apply z1)|exact HB.out))) : w.heap.size ≤ gb101));clear HB;have HB:=n0_;have BK101:=n1_;have GW101:=n2_;have GE101:=n3_;clear n0_ n1_ n2_ n3_;clear hb hbox hg)|((with_reducible refine zE (N:=4) rfl ?_);refine zC ?hg (N:=4) ?hd (cs:=#[.int .u64 0,.int .u64 0]) (t:=51) ?hr ?_;(case hd=>rfl);(case hg=>rfl);(case hr=>first|(go_simp;done)|(go_simp;rfl));intro gb102 hg w5 hbox hb;have n0_:=z3.mk (zn (g:=gb101) (o:=.cells #[.int .u64 a0_0,.int .u64 a0_1] 51 (0,0)) (by (with_reducible repeat (first|refine z5 ?_ _|refine z8 ?_|refine z4 ?_ _));exact BK101.out) hb);have n1_:=z3.mk (zb (by repeat (first|(with_reducible first|exact HB.out|apply z2|apply z0|apply z1|refine z6 ?_ GE101.out)|exact HB.out)) hb);have n2_:=z3.mk (hbox);have n3_:=z3.mk ((by rw [hg];exact (zc (by repeat (first|(with_reducible first|exact HB.out|apply z2|apply z0|apply z1|refine z6 ?_ GE101.out)|exact HB.out))) : w.heap.size ≤ gb102));have n4_:=z3.mk ((by rw [hg];exact (zc (by repeat (first|(with_reducible first|exact HB.out|apply z2|apply z0|apply z1|refine z6 ?_ GE101.out)|exact HB.out))) : w.heap.size ≤ gb102));have n5_:=z3.mk ((by rw [hg];exact Nat.ne_of_lt (zO (g:=gb101) (o:=.cells #[.int .u64 a0_0,.int .u64 a0_1] 51 (0,0)) (by (with_reducible repeat (first|refine z5 ?_ _|refine z8 ?_|refine z4 ?_ _));exact BK101.out)) : gb101 ≠ gb102));have n6_:=z3.mk ((by rw [hg];exact Nat.ne_of_gt (zO (g:=gb101) (o:=.cells #[.int .u64 a0_0,.int .u64 a0_1] 51 (0,0)) (by (with_reducible repeat (first|refine z5 ?_ _|refine z8 ?_|refine z4 ?_ _));exact BK101.out)) : gb102 ≠ gb101));clear BK101;clear HB;have BK101:=n0_;have HB:=n1_;have BK102:=n2_;have GW102:=n3_;have GE102:=n4_;have NB101_102:=n5_;have NB102_101:=n6_;clear n0_ n1_ n2_ n3_ n4_ n5_ n6_;clear hb hbox hg;have hnb6:=NB101_102.out;have hnc6:=NB102_101.out;have hcz7_0 : w5.cell? ⟨gb101,0,none⟩ = some (.int .u64 a0_0):=(ze BK101.out 0).trans rfl;have hcz7_1 : w5.cell? ⟨gb101,1,none⟩ = some (.int .u64 a0_1):=(ze BK101.out 1).trans rfl;have hfz7_0:=zd BK101.out 0;have hfz7_1:=zd BK101.out 1;have hcz8_0 : w5.cell? ⟨gb102,0,none⟩ = some (.int .u64 0):=(ze BK102.out 0).trans rfl;have hcz8_1 : w5.cell? ⟨gb102,1,none⟩ = some (.int .u64 0):=(ze BK102.out 1).trans rfl;have hfz8_0:=zd BK102.out 0;have hfz8_1:=zd BK102.out 1))
   refine bodyPost_ret (results_cell_row rfl _ _ gb102 51 #[.int .u64 a0_0,.int .u64 a0_1] (0,0) _ rfl (by (with_reducible repeat (first|refine z5 ?_ _|refine z8 ?_|refine z4 ?_ _));refine zN (cs:=#[.int .u64 a0_0,.int .u64 0]) ?_ 1 _ rfl;(with_reducible repeat (first|refine z5 ?_ _|refine z8 ?_|refine z4 ?_ _));refine zN (cs:=#[.int .u64 0,.int .u64 0]) ?_ 0 _ rfl;(with_reducible repeat (first|refine z5 ?_ _|refine z8 ?_|refine z4 ?_ _));exact BK102.out) Try.underlying51 rfl (by kernel_rfl)) rfl ?_
   exact ⟨by first|rfl|(simp [zg,zh] <;> rfl)|(simp [*,zg,zh] <;> rfl),by repeat (first|(with_reducible first|exact HB.out|apply z2|apply z0|apply z1|refine z6 ?_ GE101.out|refine z6 ?_ GE102.out)|exact HB.out)⟩
 rw [if_neg c3] at H
 have c3b0 : (a1 == 0) = false:=beq_eq_false_iff_ne.mpr c3
 have c3b1 : (a1 != 0) = true:=bne_iff_ne.mpr c3
 by_cases c9 : a1 ≥ 64
 · rw [if_pos c9] at H
   have c9b0 : decide (64 ≤ a1) = true:=decide_eq_true c9
   clear c9
   obtain ⟨ji10,hji10⟩ : ∃ j_ : Int,(wrap64 (a1 - 64)) = j_:=⟨_,rfl⟩
   replace H : (if 0 ≤ (ji10) then (some (shl .u64 a0_1 (ji10),0)) else (none)) = some (r1,r2):=by first|(rw [hji10] at H;exact H)|(simp only [hji10] at H ⊢;exact H)
   have hji10w : (IntKind.i64.wrap (a1 - 64)) = ji10:=(zD _).trans hji10
   by_cases c11 : 0 ≤ (ji10)
   rotate_left
   · rw [if_neg c11] at H
     exact absurd H (by simp)
   rw [if_pos c11] at H
   have c11b0:=eq_true c11
   have c11b1 : decide (0 ≤ (ji10)) = true:=decide_eq_true c11
   clear c11
   obtain ⟨ji12,hji12⟩ : ∃ j_ : Int,(shl .u64 a0_1 (ji10)) = j_:=⟨_,rfl⟩
   replace H : (some (ji12,0)) = some (r1,r2):=by first|(rw [hji12] at H;exact H)|(simp only [hji12] at H ⊢;exact H)
   have hji12_ : (IntKind.u64.wrap (a0_1 * 2 ^ min (ji10).toNat 64)) = ji12:=hji12
   have hji12z : (ji10) ≤ 64 → (IntKind.u64.wrap (a0_1 * 2 ^ (ji10).toNat)) = ji12:=z1a hji12
   have hji12n0 : 0 ≤ ji12:=by rw [← hji12];exact Int.emod_nonneg _ (by decide)
   have hji12n1 : decide (0 ≤ ji12) = true:=decide_eq_true hji12n0
   replace hji12n0:=eq_true hji12n0
   simp only [Option.some.injEq,Prod.mk.injEq] at H
   obtain ⟨rfl,rfl⟩:=H
   go_enter Try.func71,Try.ntmps71
   go_wp2_with (first|((with_reducible refine zE (N:=2) rfl ?_);refine zC ?hg (N:=2) ?hd (cs:=#[.int .u64 a0_0,.int .u64 a0_1]) (t:=51) ?hr ?_;(case hd=>rfl);(case hg=>rfl);(case hr=>first|(go_simp;done)|(go_simp;rfl));intro gb101 hg w13 hbox hb;have n0_:=z3.mk (zb (by repeat (first|(with_reducible first|exact HB.out|apply z2|apply z0|apply z1)|exact HB.out)) hb);have n1_:=z3.mk (hbox);have n2_:=z3.mk ((by rw [hg];exact (zc (by repeat (first|(with_reducible first|exact HB.out|apply z2|apply z0|apply z1)|exact HB.out))) : w.heap.size ≤ gb101));have n3_:=z3.mk ((by rw [hg];exact (zc (by repeat (first|(with_reducible first|exact HB.out|apply z2|apply z0|apply z1)|exact HB.out))) : w.heap.size ≤ gb101));clear HB;have HB:=n0_;have BK101:=n1_;have GW101:=n2_;have GE101:=n3_;clear n0_ n1_ n2_ n3_;clear hb hbox hg)|((with_reducible refine zE (N:=4) rfl ?_);refine zC ?hg (N:=4) ?hd (cs:=#[.int .u64 0,.int .u64 0]) (t:=51) ?hr ?_;(case hd=>rfl);(case hg=>rfl);(case hr=>first|(go_simp;done)|(go_simp;rfl));intro gb102 hg w14 hbox hb;have n0_:=z3.mk (zn (g:=gb101) (o:=.cells #[.int .u64 a0_0,.int .u64 a0_1] 51 (0,0)) (by (with_reducible repeat (first|refine z5 ?_ _|refine z8 ?_|refine z4 ?_ _));exact BK101.out) hb);have n1_:=z3.mk (zb (by repeat (first|(with_reducible first|exact HB.out|apply z2|apply z0|apply z1|refine z6 ?_ GE101.out)|exact HB.out)) hb);have n2_:=z3.mk (hbox);have n3_:=z3.mk ((by rw [hg];exact (zc (by repeat (first|(with_reducible first|exact HB.out|apply z2|apply z0|apply z1|refine z6 ?_ GE101.out)|exact HB.out))) : w.heap.size ≤ gb102));have n4_:=z3.mk ((by rw [hg];exact (zc (by repeat (first|(with_reducible first|exact HB.out|apply z2|apply z0|apply z1|refine z6 ?_ GE101.out)|exact HB.out))) : w.heap.size ≤ gb102));have n5_:=z3.mk ((by rw [hg];exact Nat.ne_of_lt (zO (g:=gb101) (o:=.cells #[.int .u64 a0_0,.int .u64 a0_1] 51 (0,0)) (by (with_reducible repeat (first|refine z5 ?_ _|refine z8 ?_|refine z4 ?_ _));exact BK101.out)) : gb101 ≠ gb102));have n6_:=z3.mk ((by rw [hg];exact Nat.ne_of_gt (zO (g:=gb101) (o:=.cells #[.int .u64 a0_0,.int .u64 a0_1] 51 (0,0)) (by (with_reducible repeat (first|refine z5 ?_ _|refine z8 ?_|refine z4 ?_ _));exact BK101.out)) : gb102 ≠ gb101));clear BK101;clear HB;have BK101:=n0_;have HB:=n1_;have BK102:=n2_;have GW102:=n3_;have GE102:=n4_;have NB101_102:=n5_;have NB102_101:=n6_;clear n0_ n1_ n2_ n3_ n4_ n5_ n6_;clear hb hbox hg;have hnb15:=NB101_102.out;have hnc15:=NB102_101.out;have hcz16_0 : w14.cell? ⟨gb101,0,none⟩ = some (.int .u64 a0_0):=(ze BK101.out 0).trans rfl;have hcz16_1 : w14.cell? ⟨gb101,1,none⟩ = some (.int .u64 a0_1):=(ze BK101.out 1).trans rfl;have hfz16_0:=zd BK101.out 0;have hfz16_1:=zd BK101.out 1;have hcz17_0 : w14.cell? ⟨gb102,0,none⟩ = some (.int .u64 0):=(ze BK102.out 0).trans rfl;have hcz17_1 : w14.cell? ⟨gb102,1,none⟩ = some (.int .u64 0):=(ze BK102.out 1).trans rfl;have hfz17_0:=zd BK102.out 0;have hfz17_1:=zd BK102.out 1))
   refine bodyPost_ret (results_cell_row rfl _ _ gb102 51 #[.int .u64 ji12,.int .u64 0] (0,0) _ rfl (by (with_reducible repeat (first|refine z5 ?_ _|refine z8 ?_|refine z4 ?_ _));refine zN (cs:=#[.int .u64 ji12,.int .u64 0]) ?_ 1 _ rfl;(with_reducible repeat (first|refine z5 ?_ _|refine z8 ?_|refine z4 ?_ _));refine zN (cs:=#[.int .u64 0,.int .u64 0]) ?_ 0 _ rfl;(with_reducible repeat (first|refine z5 ?_ _|refine z8 ?_|refine z4 ?_ _));exact BK102.out) Try.underlying51 rfl (by kernel_rfl)) rfl ?_
   exact ⟨by first|rfl|(simp [zg,zh] <;> rfl)|(simp only [← hji10,← hji12];first|rfl|(simp [zg,zh] <;> rfl))|(simp [*,zg,zh] <;> rfl),by repeat (first|(with_reducible first|exact HB.out|apply z2|apply z0|apply z1|refine z6 ?_ GE101.out|refine z6 ?_ GE102.out)|exact HB.out)⟩
 rw [if_neg c9] at H
 have c9b0 : decide (64 ≤ a1) = false:=decide_eq_false c9
 clear c9
 by_cases c18 : 0 ≤ a1
 rotate_left
 · rw [if_neg c18] at H
   exact absurd H (by simp)
 rw [if_pos c18] at H
 have c18b0:=eq_true c18
 have c18b1 : decide (0 ≤ a1) = true:=decide_eq_true c18
 clear c18
 obtain ⟨ji19,hji19⟩ : ∃ j_ : Int,(shl .u64 a0_0 a1) = j_:=⟨_,rfl⟩
 replace H : (if 0 ≤ (wrap64 (64 - a1)) then (some (Go.bits .or .u64 (ji19) (shr .u64 a0_1 (wrap64 (64 - a1))),shl .u64 a0_1 a1)) else (none)) = some (r1,r2):=by first|(rw [hji19] at H;exact H)|(simp only [hji19] at H ⊢;exact H)
 have hji19_ : (IntKind.u64.wrap (a0_0 * 2 ^ min a1.toNat 64)) = ji19:=hji19
 have hji19z : a1 ≤ 64 → (IntKind.u64.wrap (a0_0 * 2 ^ a1.toNat)) = ji19:=z1a hji19
 have hji19n0 : 0 ≤ ji19:=by rw [← hji19];exact Int.emod_nonneg _ (by decide)
 have hji19n1 : decide (0 ≤ ji19) = true:=decide_eq_true hji19n0
 replace hji19n0:=eq_true hji19n0
 obtain ⟨ji20,hji20⟩ : ∃ j_ : Int,(wrap64 (64 - a1)) = j_:=⟨_,rfl⟩
 replace H : (if 0 ≤ (ji20) then (some (Go.bits .or .u64 (ji19) (shr .u64 a0_1 (ji20)),shl .u64 a0_1 a1)) else (none)) = some (r1,r2):=by first|(rw [hji20] at H;exact H)|(simp only [hji20] at H ⊢;exact H)
 have hji20w : (IntKind.i64.wrap (64 - a1)) = ji20:=(zD _).trans hji20
 by_cases c21 : 0 ≤ (ji20)
 rotate_left
 · rw [if_neg c21] at H
   exact absurd H (by simp)
 rw [if_pos c21] at H
 have c21b0:=eq_true c21
 have c21b1 : decide (0 ≤ (ji20)) = true:=decide_eq_true c21
 clear c21
 obtain ⟨ji22,hji22⟩ : ∃ j_ : Int,(shr .u64 a0_1 (ji20)) = j_:=⟨_,rfl⟩
 replace H : (some (Go.bits .or .u64 (ji19) (ji22),shl .u64 a0_1 a1)) = some (r1,r2):=by first|(rw [hji22] at H;exact H)|(simp only [hji22] at H ⊢;exact H)
 have hji22_ : (a0_1 / 2 ^ min (ji20).toNat 64) = ji22:=hji22
 have hji22z : (ji20) ≤ 64 → (a0_1 / 2 ^ (ji20).toNat) = ji22:=z1B hji22
 have c23b0:=eq_true (of_decide_eq_true (by first|(with_reducible assumption)|assumption) : 0 ≤ a1)
 obtain ⟨ji24,hji24⟩ : ∃ j_ : Int,(shl .u64 a0_1 a1) = j_:=⟨_,rfl⟩
 replace H : (some (Go.bits .or .u64 (ji19) (ji22),ji24)) = some (r1,r2):=by first|(rw [hji24] at H;exact H)|(simp only [hji24] at H ⊢;exact H)
 have hji24_ : (IntKind.u64.wrap (a0_1 * 2 ^ min a1.toNat 64)) = ji24:=hji24
 have hji24z : a1 ≤ 64 → (IntKind.u64.wrap (a0_1 * 2 ^ a1.toNat)) = ji24:=z1a hji24
 have hji24n0 : 0 ≤ ji24:=by rw [← hji24];exact Int.emod_nonneg _ (by decide)
 have hji24n1 : decide (0 ≤ ji24) = true:=decide_eq_true hji24n0
 replace hji24n0:=eq_true hji24n0
 simp only [Option.some.injEq,Prod.mk.injEq] at H
 obtain ⟨rfl,rfl⟩:=H
 go_enter Try.func71,Try.ntmps71
 try go_wp2_with (first|((with_reducible refine zE (N:=2) rfl ?_);refine zC ?hg (N:=2) ?hd (cs:=#[.int .u64 a0_0,.int .u64 a0_1]) (t:=51) ?hr ?_;(case hd=>rfl);(case hg=>rfl);(case hr=>first|(go_simp;done)|(go_simp;rfl));intro gb101 hg w25 hbox hb;have n0_:=z3.mk (zb (by repeat (first|(with_reducible first|exact HB.out|apply z2|apply z0|apply z1)|exact HB.out)) hb);have n1_:=z3.mk (hbox);have n2_:=z3.mk ((by rw [hg];exact (zc (by repeat (first|(with_reducible first|exact HB.out|apply z2|apply z0|apply z1)|exact HB.out))) : w.heap.size ≤ gb101));have n3_:=z3.mk ((by rw [hg];exact (zc (by repeat (first|(with_reducible first|exact HB.out|apply z2|apply z0|apply z1)|exact HB.out))) : w.heap.size ≤ gb101));clear HB;have HB:=n0_;have BK101:=n1_;have GW101:=n2_;have GE101:=n3_;clear n0_ n1_ n2_ n3_;clear hb hbox hg)|((with_reducible refine zE (N:=4) rfl ?_);refine zC ?hg (N:=4) ?hd (cs:=#[.int .u64 0,.int .u64 0]) (t:=51) ?hr ?_;(case hd=>rfl);(case hg=>rfl);(case hr=>first|(go_simp;done)|(go_simp;rfl));intro gb102 hg w26 hbox hb;have n0_:=z3.mk (zn (g:=gb101) (o:=.cells #[.int .u64 a0_0,.int .u64 a0_1] 51 (0,0)) (by (with_reducible repeat (first|refine z5 ?_ _|refine z8 ?_|refine z4 ?_ _));exact BK101.out) hb);have n1_:=z3.mk (zb (by repeat (first|(with_reducible first|exact HB.out|apply z2|apply z0|apply z1|refine z6 ?_ GE101.out)|exact HB.out)) hb);have n2_:=z3.mk (hbox);have n3_:=z3.mk ((by rw [hg];exact (zc (by repeat (first|(with_reducible first|exact HB.out|apply z2|apply z0|apply z1|refine z6 ?_ GE101.out)|exact HB.out))) : w.heap.size ≤ gb102));have n4_:=z3.mk ((by rw [hg];exact (zc (by repeat (first|(with_reducible first|exact HB.out|apply z2|apply z0|apply z1|refine z6 ?_ GE101.out)|exact HB.out))) : w.heap.size ≤ gb102));have n5_:=z3.mk ((by rw [hg];exact Nat.ne_of_lt (zO (g:=gb101) (o:=.cells #[.int .u64 a0_0,.int .u64 a0_1] 51 (0,0)) (by (with_reducible repeat (first|refine z5 ?_ _|refine z8 ?_|refine z4 ?_ _));exact BK101.out)) : gb101 ≠ gb102));have n6_:=z3.mk ((by rw [hg];exact Nat.ne_of_gt (zO (g:=gb101) (o:=.cells #[.int .u64 a0_0,.int .u64 a0_1] 51 (0,0)) (by (with_reducible repeat (first|refine z5 ?_ _|refine z8 ?_|refine z4 ?_ _));exact BK101.out)) : gb102 ≠ gb101));clear BK101;clear HB;have BK101:=n0_;have HB:=n1_;have BK102:=n2_;have GW102:=n3_;have GE102:=n4_;have NB101_102:=n5_;have NB102_101:=n6_;clear n0_ n1_ n2_ n3_ n4_ n5_ n6_;clear hb hbox hg))
 have n0_:=z3.mk (z8 BK101.out)
 have n1_:=z3.mk (z8 BK102.out)
 have n2_:=z3.mk (z1 HB.out)
 clear BK101
 clear BK102
 clear HB
 have BK101:=n0_
 have BK102:=n1_
 have HB:=n2_
 clear n0_ n1_ n2_
 refine start_ (n:=16) (S:=fun w'=>w'.cell? ⟨gb101,0,none⟩ = some (.int .u64 a0_0) ∧ w'.cell? ⟨gb101,1,none⟩ = some (.int .u64 a0_1)) (ds:=[]) #[false,false,false,false,false,false,false,false,false,false,false,false,false,false,false,false] (by kernel_rfl) rfl rfl ⟨(ze BK101.out 0).trans rfl,(ze BK101.out 1).trans rfl⟩ (fun hHeld=>?_);refine z1C z1c.tab5 z1c.bits5 (fun HT_ HW_=>?_)
 generalize w26.drew = w27 at BK101 BK102 HB hHeld ⊢
 refine pure_ (i:=0) (N:=some 18) (v:=?_) (a':=?_) #[true,false,false,false,false,false,false,false,false,false,false,false,false,false,false,false] rfl rfl (zK HT_.out (by kernel_rfl)) (fun _ _ _ h=>h) (Or.inl ⟨by rfl,?_⟩) ?_ ?_
 rotate_left
 · intro w'
   go_simp
   with_reducible rfl
 rotate_left
 · simp only [Act.put,List.setIfInBounds_toArray,List.set_cons_zero,List.set_cons_succ,zD,zI]
   rfl
 refine pure_ (i:=2) (N:=some 20) (v:=?_) (a':=?_) #[true,false,true,false,false,false,false,false,false,false,false,false,false,false,false,false] rfl rfl (zK HT_.out (by kernel_rfl)) (fun _ _ _ h=>h) (Or.inl ⟨by rfl,?_⟩) ?_ ?_
 rotate_left
 · intro w'
   go_simp
   with_reducible rfl
 rotate_left
 · simp only [Act.put,List.setIfInBounds_toArray,List.set_cons_zero,List.set_cons_succ,zD,zI]
   rfl
 refine pure_ (i:=4) (N:=some 22) (v:=?_) (a':=?_) #[true,false,true,false,true,false,false,false,false,false,false,false,false,false,false,false] rfl rfl (zK HT_.out (by kernel_rfl)) (fun _ _ _ h=>h) (Or.inl ⟨by rfl,?_⟩) ?_ ?_
 rotate_left
 · intro w'
   go_simp
   with_reducible rfl
 rotate_left
 · simp only [Act.put,List.setIfInBounds_toArray,List.set_cons_zero,List.set_cons_succ,zD,zI]
   rfl
 refine pure_ (i:=6) (N:=some 24) (v:=?_) (a':=?_) #[true,false,true,false,true,false,true,false,false,false,false,false,false,false,false,false] rfl rfl (zK HT_.out (by kernel_rfl)) (fun _ _ _ h=>h) (Or.inl ⟨by rfl,?_⟩) ?_ ?_
 rotate_left
 · intro w'
   go_simp
   with_reducible rfl
 rotate_left
 · simp only [Act.put,List.setIfInBounds_toArray,List.set_cons_zero,List.set_cons_succ,zD,zI]
   rfl
 refine pure_ (i:=7) (N:=some 25) (v:=?_) (a':=?_) #[true,false,true,false,true,false,true,true,false,false,false,false,false,false,false,false] rfl rfl (zK HT_.out (by kernel_rfl)) (fun _ _ _ h=>h) (Or.inl ⟨by rfl,?_⟩) ?_ ?_
 rotate_left
 · intro w'
   go_simp
   with_reducible rfl
 rotate_left
 · simp only [Act.put,List.setIfInBounds_toArray,List.set_cons_zero,List.set_cons_succ,zD,zI]
   rfl
 refine pure_ (i:=10) (N:=some 28) (v:=?_) (a':=?_) #[true,false,true,false,true,false,true,true,false,false,true,false,false,false,false,false] rfl rfl (zK HT_.out (by kernel_rfl)) (fun _ _ _ h=>h) (Or.inl ⟨by rfl,?_⟩) ?_ ?_
 rotate_left
 · intro w'
   go_simp
   with_reducible rfl
 rotate_left
 · simp only [Act.put,List.setIfInBounds_toArray,List.set_cons_zero,List.set_cons_succ,zD,zI]
   rfl
 refine pure_ (i:=12) (N:=some 30) (v:=?_) (a':=?_) #[true,false,true,false,true,false,true,true,false,false,true,false,true,false,false,false] rfl rfl (zK HT_.out (by kernel_rfl)) (fun _ _ _ h=>h) (Or.inl ⟨by rfl,?_⟩) ?_ ?_
 rotate_left
 · intro w'
   go_simp
   with_reducible rfl
 rotate_left
 · simp only [Act.put,List.setIfInBounds_toArray,List.set_cons_zero,List.set_cons_succ,zD,zI]
   rfl
 refine take_ (i:=1) (N:=some 19) (v:=?_) (a':=?_) #[true,true,true,false,true,false,true,true,false,false,true,false,true,false,false,false] rfl rfl (z1m HT_.out HW_.out (by kernel_rfl)) (fun _ _ _ h=>h) (Or.inl ⟨by rfl,?_⟩) hHeld ?_ ?_
 rotate_left
 · rintro w' ⟨s0,s1⟩
   go_simp
   with_reducible rfl
 rotate_left
 · simp only [Act.put,List.setIfInBounds_toArray,List.set_cons_zero,List.set_cons_succ,zD,zI]
   rfl
 refine pure_ (i:=3) (N:=some 21) (v:=?_) (a':=?_) #[true,true,true,true,true,false,true,true,false,false,true,false,true,false,false,false] rfl rfl (zK HT_.out (by kernel_rfl)) (fun _ _ _ h=>h) (Or.inl ⟨by rfl,?_⟩) ?_ ?_
 rotate_left
 · intro w'
   go_simp
   with_reducible rfl
 rotate_left
 · simp only [Act.put,List.setIfInBounds_toArray,List.set_cons_zero,List.set_cons_succ,zD,zI]
   rfl
 refine take_ (i:=5) (N:=some 23) (v:=?_) (a':=?_) #[true,true,true,true,true,true,true,true,false,false,true,false,true,false,false,false] rfl rfl (z1m HT_.out HW_.out (by kernel_rfl)) (fun _ _ _ h=>h) (Or.inl ⟨by rfl,?_⟩) hHeld ?_ ?_
 rotate_left
 · rintro w' ⟨s0,s1⟩
   go_simp
   with_reducible rfl
 rotate_left
 · simp only [Act.put,List.setIfInBounds_toArray,List.set_cons_zero,List.set_cons_succ,zD,zI]
   rfl
 refine pure_ (i:=8) (N:=some 26) (v:=?_) (a':=?_) #[true,true,true,true,true,true,true,true,true,false,true,false,true,false,false,false] rfl rfl (zK HT_.out (by kernel_rfl)) (fun _ _ _ h=>h) (Or.inl ⟨by rfl,?_⟩) ?_ ?_
 rotate_left
 · intro w'
   go_simp
   with_reducible rfl
 rotate_left
 · simp only [Act.put,List.setIfInBounds_toArray,List.set_cons_zero,List.set_cons_succ,zD,zI]
   rfl
 refine pure_ (i:=9) (N:=some 27) (v:=?_) (a':=?_) #[true,true,true,true,true,true,true,true,true,true,true,false,true,false,false,false] rfl rfl (zK HT_.out (by kernel_rfl)) (fun _ _ _ h=>h) (Or.inl ⟨by rfl,?_⟩) ?_ ?_
 rotate_left
 · intro w'
   go_simp
   with_reducible rfl
 rotate_left
 · simp only [Act.put,List.setIfInBounds_toArray,List.set_cons_zero,List.set_cons_succ,zD,zI]
   rfl
 refine take_ (i:=11) (N:=some 29) (v:=?_) (a':=?_) #[true,true,true,true,true,true,true,true,true,true,true,true,true,false,false,false] rfl rfl (z1m HT_.out HW_.out (by kernel_rfl)) (fun _ _ _ h=>h) (Or.inl ⟨by rfl,?_⟩) hHeld ?_ ?_
 rotate_left
 · rintro w' ⟨s0,s1⟩
   go_simp
   with_reducible rfl
 rotate_left
 · simp only [Act.put,List.setIfInBounds_toArray,List.set_cons_zero,List.set_cons_succ,zD,zI]
   rfl
 refine pure_ (i:=13) (N:=some 31) (v:=?_) (a':=?_) #[true,true,true,true,true,true,true,true,true,true,true,true,true,true,false,false] rfl rfl (zK HT_.out (by kernel_rfl)) (fun _ _ _ h=>h) (Or.inl ⟨by rfl,?_⟩) ?_ ?_
 rotate_left
 · intro w'
   go_simp
   with_reducible rfl
 rotate_left
 · simp only [Act.put,List.setIfInBounds_toArray,List.set_cons_zero,List.set_cons_succ,zD,zI]
   rfl
 refine pure_ (i:=14) (N:=some 32) (v:=?_) (a':=?_) #[true,true,true,true,true,true,true,true,true,true,true,true,true,true,true,false] rfl rfl (zK HT_.out (by kernel_rfl)) (fun _ _ _ h=>h) (Or.inl ⟨by rfl,?_⟩) ?_ ?_
 rotate_left
 · intro w'
   go_simp
   with_reducible rfl
 rotate_left
 · simp only [Act.put,List.setIfInBounds_toArray,List.set_cons_zero,List.set_cons_succ,zD,zI]
   rfl
 refine one_ (i:=15) (N:=none) #[true,true,true,true,true,true,true,true,true,true,true,true,true,true,true,true] rfl rfl (z1t HT_.out (by kernel_rfl)) (by decide) (fun K hK=>?_)
 have hs28 : w27.cell? ⟨gb102,0,none⟩ = some (.int .u64 0):=(ze BK102.out 0).trans rfl
 have hfs28:=zd BK102.out 0
 have hns28_0:=NB101_102.out
 have hms28_0:=NB102_101.out
 have hs29 : w27.cell? ⟨gb102,1,none⟩ = some (.int .u64 0):=(ze BK102.out 1).trans rfl
 have hfs29:=zd BK102.out 1
 have hns29_0:=NB101_102.out
 have hms29_0:=NB102_101.out
 refine skip_ (w1:=?_) (by rfl) rfl ?_ ?_
 rotate_left
 · go_simp
   rfl
 refine hK.out _ _ ⟨((z1h (p:=⟨gb102,_,none⟩) NB101_102.out _).trans (((z1h (p:=⟨gb102,_,none⟩) NB101_102.out _).trans (hHeld.1)))),((z1h (p:=⟨gb102,_,none⟩) NB101_102.out _).trans (((z1h (p:=⟨gb102,_,none⟩) NB101_102.out _).trans (hHeld.2))))⟩ (fun hHeld=>?_)
 clear hK K
 refine done_ (z1Z HT_.out (by kernel_rfl)) ?_
 try go_wp2
 refine bodyPost_ret (results_cell_row rfl _ _ gb102 51 #[.int .u64 (Go.bits .or .u64 (ji19) (ji22)),.int .u64 ji24] (0,0) _ rfl (by (with_reducible repeat (first|refine z5 ?_ _|refine z8 ?_|refine z4 ?_ _));refine zN (cs:=#[.int .u64 (Go.bits .or .u64 (ji19) (ji22)),.int .u64 0]) ?_ 1 _ rfl;(with_reducible repeat (first|refine z5 ?_ _|refine z8 ?_|refine z4 ?_ _));refine zN (cs:=#[.int .u64 0,.int .u64 0]) ?_ 0 _ rfl;(with_reducible repeat (first|refine z5 ?_ _|refine z8 ?_|refine z4 ?_ _));exact BK102.out) Try.underlying51 rfl (by kernel_rfl)) rfl ?_
 exact ⟨by first|rfl|(simp [zg,zh] <;> rfl)|(simp only [← hji19,← hji20,← hji22,← hji24];first|rfl|(simp [zg,zh] <;> rfl))|(simp [*,zg,zh] <;> rfl),by repeat (first|(with_reducible first|exact HB.out|apply z2|apply z0|apply z1|refine z6 ?_ GE101.out|refine z6 ?_ GE102.out)|exact HB.out)⟩
end Go.Proofs.Ytngcaphdkgihmaa.P
namespace Go.Proofs.Ytngcaphdkgihmaa.P
open Go.RowKit Go.Proofs.YtngcaphdkgihmaaW.PrintWords Go.Proofs.YtngcaphdkgihmaaW.PrintLast Go.Proofs.YtngcaphdkgihmaaW.PrintMore
attribute [local go_sem] zW zY z15 z16 zQ zR zX zZ   -- for this text's walks alone
set_option linter.unusedVariables false
set_option linter.unusedSimpArgs false
def zm.l0 : Nat → Int → Int → List (S51) → List (S51) → Int → Int → Option ((List (S51)) × Int)
 | 0,_,_,_,_,_,_=>none
 | k + 1,x0,x9,x10,x35,x36,x37=>if x37 < x36 then (if 0 ≤ x37 then (if x37 < (x35.length : Int) then (if x9 = 0 then (none) else (if (Int.tmod x37 x9) = 0 then (if x10.length < 8796093022208 then ((some (x10 ++ [(⟨0,0⟩ : S51)] : List (S51))).bind fun y105=>(if 0 ≤ (wrap64 ((y105.length : Int) - 1)) then (if (wrap64 ((y105.length : Int) - 1)) < (y105.length : Int) then (if 0 ≤ x0 then ((z1c.f ((zx x35 x37).f0) ((zx x35 x37).f1) (shl .i64 (Int.tmod x37 x9) x0)).bind fun bt109=>((z1l.f ((zx y105 (wrap64 ((y105.length : Int) - 1))).f0) ((zx y105 (wrap64 ((y105.length : Int) - 1))).f1) bt109.1 bt109.2).bind fun bt111=>(zm.l0 k x0 x9 (y105.set ((wrap64 ((y105.length : Int) - 1)) : Int).toNat (⟨bt111.1,bt111.2⟩ : S51)) x35 x36 (wrap64 (x37 + 1))))) else (none)) else (none)) else (none))) else (none)) else (if 0 ≤ (wrap64 ((x10.length : Int) - 1)) then (if (wrap64 ((x10.length : Int) - 1)) < (x10.length : Int) then (if 0 ≤ x0 then ((z1c.f ((zx x35 x37).f0) ((zx x35 x37).f1) (shl .i64 (Int.tmod x37 x9) x0)).bind fun bt115=>((z1l.f ((zx x10 (wrap64 ((x10.length : Int) - 1))).f0) ((zx x10 (wrap64 ((x10.length : Int) - 1))).f1) bt115.1 bt115.2).bind fun bt117=>(zm.l0 k x0 x9 (x10.set ((wrap64 ((x10.length : Int) - 1)) : Int).toNat (⟨bt117.1,bt117.2⟩ : S51)) x35 x36 (wrap64 (x37 + 1))))) else (none)) else (none)) else (none)))) else (none)) else (none)) else (some (x10,0))
def zm.f (k : Nat) (a0 : Int) (a1 : Int) (l2 : List (S51)) : Option ((List (S51)) × Int):=(z11.f k a0 a1).bind fun t101=>(if t101 = 0 then (if 0 ≤ (wrap64 (a1 - a0)) then (if (shl .i64 1 (wrap64 (a1 - a0))) = 0 then (none) else (if ((l2.length : Int) % (shl .i64 1 (wrap64 (a1 - a0)))) = 0 then ((zM.f k a0 l2).bind fun t102=>(if t102 = true then (zm.l0 k a0 (shl .i64 1 (wrap64 (a1 - a0))) ([] : List (S51)) l2 (l2.length : Int) 0) else (some (([] : List (S51)),5)))) else (some (([] : List (S51)),6)))) else (none)) else (some (([] : List (S51)),t101)))
theorem zm.z13 : ∀ k,(∀ y0 y1 y2 y3 y4 y5,LeO (zm.l0 k y0 y1 y2 y3 y4 y5) (zm.l0 (k + 1) y0 y1 y2 y3 y4 y5))
 | 0=>fun _ _ _ _ _ _ r h=>by simp [zm.l0] at h
 | k + 1=>by
  have ih0:=zm.z13 k
  · intro y0 y1 y2 y3 y4 y5
    unfold zm.l0
    repeat' first
    | (with_reducible exact ih0 _ _ _ _ _ _)
    | (with_reducible exact z11.mono _ _ _)
    | (with_reducible exact zM.mono _ _ _)
    | (with_reducible exact LeO.refl _)
    | (with_reducible exact LeO.none _)
    | (with_reducible refine LeO.ite ?_ ?_)
    | (with_reducible refine LeO.bind ?_ (fun _=>?_))
    | exact ih0 _ _ _ _ _ _
    | exact z11.mono _ _ _
    | exact zM.mono _ _ _
    | exact LeO.none _
    | refine LeO.ite ?_ ?_
    | refine LeO.bind ?_ (fun _=>?_)
theorem zm.mono : ∀ a0 a1 a2 k,LeO (zm.f k a0 a1 a2) (zm.f (k + 1) a0 a1 a2):=by
 intro a0 a1 a2 k
 have ih0:=zm.z13 k
 unfold zm.f
 repeat' first
  | (with_reducible exact ih0 _ _ _ _ _ _)
  | (with_reducible exact z11.mono _ _ _)
  | (with_reducible exact zM.mono _ _ _)
  | (with_reducible exact LeO.refl _)
  | (with_reducible exact LeO.none _)
  | (with_reducible refine LeO.ite ?_ ?_)
  | (with_reducible refine LeO.bind ?_ (fun _=>?_))
  | exact ih0 _ _ _ _ _ _
  | exact z11.mono _ _ _
  | exact zM.mono _ _ _
  | exact LeO.none _
  | refine LeO.ite ?_ ?_
  | refine LeO.bind ?_ (fun _=>?_)
def zm.T16 : Bool × List (List Nat × List Nat):=(true,[([],[]),([],[]),([],[]),([],[]),([2,3],[2,3]),([4],[4]),([],[]),([],[]),([],[]),([7,8],[7,8]),([],[]),([9,10],[9,10]),([6,11],[6,11]),([5,12,12],[5,12]),([0,1,0,1,2,3,4,5,6,7,8,9,10,11,12,13],[0,1]),([14,13,13,0,1,2,3,4,5,6,7,8,9,10,11,12,13],[13,14])])
def zm.B16 : List Nat:=[0,0,0,0,12,28,0,0,0,384,0,1920,4032,8188,16383,32767]
theorem zm.tab16 : rtab .any (opsOf Try.f30 16) = zm.T16:=by kernel_rfl
theorem zm.bits16 : waitsOk zm.T16.2 zm.B16 = true:=by kernel_rfl
set_option maxHeartbeats 8000000 in
set_option maxRecDepth 100000 in
theorem zm.calls (k : Nat) (a0 : Int) (a1 : Int) (A2 : Option Addr) (c2 : Nat) (l2 : List (S51)) (r1 : List (S51)) (r2 : Int) (w : World) (hr2 : Kd.C k51 w A2 l2.length l2) (hc2 : l2.length ≤ c2) (h : zm.f k a0 a1 l2 = some (r1,r2)) :
 Calls Try.prog 30 #[.int .i64 a0,.int .i64 a1,.slice A2 l2.length c2] w fun e w'=>∃ v0_ : Value,e = .returned (.tuple #[v0_,.int .i64 r2]) ∧ Kd.R k51 51 w' w.heap.size (fun _=>True) v0_ r1 ∧ Below w.heap.size w w':=by
 have hu51:=Try.underlying51
 have HR2:=z3.mk hr2
 have HC2:=z3.mk hc2
 clear hr2 hc2
 have HB:=z3.mk (Below.refl w.heap.size w)
 have H : ((z11.f k a0 a1).bind fun t101=>(if t101 = 0 then (if 0 ≤ (wrap64 (a1 - a0)) then (if (shl .i64 1 (wrap64 (a1 - a0))) = 0 then (none) else (if ((l2.length : Int) % (shl .i64 1 (wrap64 (a1 - a0)))) = 0 then ((zM.f k a0 l2).bind fun t102=>(if t102 = true then (zm.l0 k a0 (shl .i64 1 (wrap64 (a1 - a0))) ([] : List (S51)) l2 (l2.length : Int) 0) else (some (([] : List (S51)),5)))) else (some (([] : List (S51)),6)))) else (none)) else (some (([] : List (S51)),t101)))) = some (r1,r2):=h
 clear h
 replace H:=Option.bind_eq_some_iff.mp H
 obtain ⟨t101,A40,H⟩:=H
 replace H : (if t101 = 0 then (if 0 ≤ (wrap64 (a1 - a0)) then (if (shl .i64 1 (wrap64 (a1 - a0))) = 0 then (none) else (if ((l2.length : Int) % (shl .i64 1 (wrap64 (a1 - a0)))) = 0 then ((zM.f k a0 l2).bind fun t102=>(if t102 = true then (zm.l0 k a0 (shl .i64 1 (wrap64 (a1 - a0))) ([] : List (S51)) l2 (l2.length : Int) 0) else (some (([] : List (S51)),5)))) else (some (([] : List (S51)),6)))) else (none)) else (some (([] : List (S51)),t101))) = some (r1,r2):=H
 have A4:=z3.mk A40
 clear A40
 by_cases c5 : t101 = 0
 rotate_left
 · rw [if_neg c5] at H
   have c5b0 : (t101 == 0) = false:=beq_eq_false_iff_ne.mpr c5
   have c5b1 : (t101 != 0) = true:=bne_iff_ne.mpr c5
   simp only [Option.some.injEq,Prod.mk.injEq] at H
   obtain ⟨rfl,rfl⟩:=H
   go_enter Try.func30,Try.ntmps30
   go_wp2_with (first|((with_reducible refine zl (f:=69) rfl ?_);refine goesL_ (some 16) rfl rfl Try.func69 (by kernel_rfl) rfl #[.int .i64 a0,.int .i64 a1] rfl (by (try simp only [List.map_toArray,List.map_cons,List.map_nil]);first|done|rfl|(simp only [List.length_drop,List.length_take];rfl)) ?_;(with_reducible refine (z11.calls k a0 a1 t101 _ A4.out).mono ?_);rintro e w' ⟨rfl,⟨nd,rfl⟩⟩;refine ⟨_,rfl,?_⟩))
   go_ret2
   exact ⟨_,by first|rfl|(simp [zg,zh] <;> rfl)|(simp [*,zg,zh] <;> rfl),by first|exact Kd.z1L _ _ _ _ _|exact Kd.z1S _ _ _ _ _|exact Kd.z1V _ _ _ _ _|exact Kd.z1T _ _ _ _ _|exact Kd.z1U _ _ _ _ _,by repeat (first|(with_reducible first|exact HB.out|apply z2|apply z0|apply z1)|exact HB.out)⟩
 rw [if_pos c5] at H
 have c5b0 : (t101 == 0) = true:=beq_iff_eq.mpr c5
 have c5b1 : (t101 != 0) = false:=bne_eq_false_iff_eq.mpr c5
 clear c5
 obtain ⟨ji6,hji6⟩ : ∃ j_ : Int,(wrap64 (a1 - a0)) = j_:=⟨_,rfl⟩
 replace H : (if 0 ≤ (ji6) then (if (shl .i64 1 (ji6)) = 0 then (none) else (if ((l2.length : Int) % (shl .i64 1 (ji6))) = 0 then ((zM.f k a0 l2).bind fun t102=>(if t102 = true then (zm.l0 k a0 (shl .i64 1 (ji6)) ([] : List (S51)) l2 (l2.length : Int) 0) else (some (([] : List (S51)),5)))) else (some (([] : List (S51)),6)))) else (none)) = some (r1,r2):=by first|(rw [hji6] at H;exact H)|(simp only [hji6] at H ⊢;exact H)
 (try rw [hji6] at A4)
 have hji6w : (IntKind.i64.wrap (a1 - a0)) = ji6:=(zD _).trans hji6
 by_cases c7 : 0 ≤ (ji6)
 rotate_left
 · rw [if_neg c7] at H
   exact absurd H (by simp)
 rw [if_pos c7] at H
 have c7b0:=eq_true c7
 have c7b1 : decide (0 ≤ (ji6)) = true:=decide_eq_true c7
 clear c7
 obtain ⟨ji8,hji8⟩ : ∃ j_ : Int,(shl .i64 1 (ji6)) = j_:=⟨_,rfl⟩
 replace H : (if (ji8) = 0 then (none) else (if ((l2.length : Int) % (ji8)) = 0 then ((zM.f k a0 l2).bind fun t102=>(if t102 = true then (zm.l0 k a0 ji8 ([] : List (S51)) l2 (l2.length : Int) 0) else (some (([] : List (S51)),5)))) else (some (([] : List (S51)),6)))) = some (r1,r2):=by first|(rw [hji8] at H;exact H)|(simp only [hji8] at H ⊢;exact H)
 (try rw [hji8] at A4)
 have hji8_ : (IntKind.i64.wrap (1 * 2 ^ min (ji6).toNat 64)) = ji8:=hji8
 have hji8z : (ji6) ≤ 64 → (IntKind.i64.wrap (1 * 2 ^ (ji6).toNat)) = ji8:=z1a hji8
 have hji8u : (IntKind.i64.wrap (2 ^ min (ji6).toNat 64)) = ji8:=by have h_:=hji8_;rw [Int.one_mul] at h_;exact h_
 have hji8v : (ji6) ≤ 64 → (IntKind.i64.wrap (2 ^ (ji6).toNat)) = ji8:=fun hle_=>by have h_:=hji8z hle_;rw [Int.one_mul] at h_;exact h_
 have hji8y : (wrap64 (1 * 2 ^ min (ji6).toNat 64)) = ji8:=(zD _).symm.trans hji8_
 have hji8x : (ji6) ≤ 64 → (wrap64 (1 * 2 ^ (ji6).toNat)) = ji8:=fun h_=>(zD _).symm.trans (hji8z h_)
 by_cases c9 : (ji8) = 0
 · rw [if_pos c9] at H
   exact absurd H (by simp)
 rw [if_neg c9] at H
 have c9b0 : ((ji8) == 0) = false:=beq_eq_false_iff_ne.mpr c9
 have c9b1 : ((ji8) != 0) = true:=bne_iff_ne.mpr c9
 by_cases c10 : ((l2.length : Int) % (ji8)) = 0
 rotate_left
 · rw [if_neg c10] at H
   have c10b0 : (((l2.length : Int) % (ji8)) == 0) = false:=beq_eq_false_iff_ne.mpr c10
   have c10b1 : (((l2.length : Int) % (ji8)) != 0) = true:=bne_iff_ne.mpr c10
   simp only [Option.some.injEq,Prod.mk.injEq] at H
   obtain ⟨rfl,rfl⟩:=H
   go_enter Try.func30,Try.ntmps30
   go_wp2_with (first|((with_reducible refine zl (f:=69) rfl ?_);refine goesL_ (some 16) rfl rfl Try.func69 (by kernel_rfl) rfl #[.int .i64 a0,.int .i64 a1] rfl (by (try simp only [List.map_toArray,List.map_cons,List.map_nil]);first|done|rfl|(simp only [List.length_drop,List.length_take];rfl)) ?_;(with_reducible refine (z11.calls k a0 a1 t101 _ A4.out).mono ?_);rintro e w' ⟨rfl,⟨nd,rfl⟩⟩;refine ⟨_,rfl,?_⟩))
   go_ret2
   exact ⟨_,by first|rfl|(simp [zg,zh] <;> rfl)|(simp only [← hji6,← hji8];first|rfl|(simp [zg,zh] <;> rfl))|(simp [*,zg,zh] <;> rfl),by first|exact Kd.z1L _ _ _ _ _|exact Kd.z1S _ _ _ _ _|exact Kd.z1V _ _ _ _ _|exact Kd.z1T _ _ _ _ _|exact Kd.z1U _ _ _ _ _,by repeat (first|(with_reducible first|exact HB.out|apply z2|apply z0|apply z1)|exact HB.out)⟩
 rw [if_pos c10] at H
 have c10b0 : (((l2.length : Int) % (ji8)) == 0) = true:=beq_iff_eq.mpr c10
 have c10b1 : (((l2.length : Int) % (ji8)) != 0) = false:=bne_eq_false_iff_eq.mpr c10
 clear c10
 replace H:=Option.bind_eq_some_iff.mp H
 obtain ⟨t102,A110,H⟩:=H
 replace H : (if t102 = true then (zm.l0 k a0 ji8 ([] : List (S51)) l2 (l2.length : Int) 0) else (some (([] : List (S51)),5))) = some (r1,r2):=H
 have A11:=z3.mk A110
 clear A110
 by_cases c12 : t102 = true
 rotate_left
 · replace c12:=Bool.eq_false_iff.mpr c12
   subst c12
   have H1 : (some (([] : List (S51)),5)) = some (r1,r2):=by rw [if_neg (show ¬ (false = true) by decide)] at H;exact H
   clear H
   have H:=H1
   clear H1
   simp only [Option.some.injEq,Prod.mk.injEq] at H
   obtain ⟨rfl,rfl⟩:=H
   go_enter Try.func30,Try.ntmps30
   go_wp2_with (first|((with_reducible refine zl (f:=69) rfl ?_);refine goesL_ (some 16) rfl rfl Try.func69 (by kernel_rfl) rfl #[.int .i64 a0,.int .i64 a1] rfl (by (try simp only [List.map_toArray,List.map_cons,List.map_nil]);first|done|rfl|(simp only [List.length_drop,List.length_take];rfl)) ?_;(with_reducible refine (z11.calls k a0 a1 t101 _ A4.out).mono ?_);rintro e w' ⟨rfl,⟨nd,rfl⟩⟩;refine ⟨_,rfl,?_⟩)|((with_reducible refine zl (f:=70) rfl ?_);refine goesL_ (some 33) rfl rfl Try.func70 (by kernel_rfl) rfl #[.int .i64 a0,.slice A2 l2.length c2] rfl (by (try simp only [List.map_toArray,List.map_cons,List.map_nil]);first|done|rfl|(simp only [List.length_drop,List.length_take];rfl)) ?_;(with_reducible refine (zM.calls k a0 _ _ l2 false _ ?side1 ?side2 A11.out).mono ?_);(case side1=>repeat (first|exact HR2.out|(with_reducible refine Kd.zS ?_ _)|(with_reducible refine Kd.zT ?_ _)|(with_reducible refine Kd.z14 ?_)));(case side2=>exact HC2.out);rintro e w52 ⟨rfl,hb⟩;refine ⟨_,rfl,?_⟩;have n0_:=z3.mk (zb (by repeat (first|(with_reducible first|exact HB.out|apply z2|apply z0|apply z1)|exact HB.out)) hb);clear HB;have HB:=n0_;clear n0_;(try clear hb);(try clear hb2);(try clear hk);(try clear hi)))
   go_ret2
   exact ⟨_,by first|rfl|(simp [zg,zh] <;> rfl)|(simp only [← hji6,← hji8];first|rfl|(simp [zg,zh] <;> rfl))|(simp [*,zg,zh] <;> rfl),by first|exact Kd.z1L _ _ _ _ _|exact Kd.z1S _ _ _ _ _|exact Kd.z1V _ _ _ _ _|exact Kd.z1T _ _ _ _ _|exact Kd.z1U _ _ _ _ _,by repeat (first|(with_reducible first|exact HB.out|apply z2|apply z0|apply z1)|exact HB.out)⟩
 subst c12
 have H1 : (zm.l0 k a0 ji8 ([] : List (S51)) l2 (l2.length : Int) 0) = some (r1,r2):=by rw [if_pos rfl] at H;exact H
 clear H
 have H:=H1
 clear H1
 have H':=z3.mk H
 clear H
 go_enter Try.func30,Try.ntmps30
 go_wp2_with (first|((with_reducible refine zl (f:=69) rfl ?_);refine goesL_ (some 16) rfl rfl Try.func69 (by kernel_rfl) rfl #[.int .i64 a0,.int .i64 a1] rfl (by (try simp only [List.map_toArray,List.map_cons,List.map_nil]);first|done|rfl|(simp only [List.length_drop,List.length_take];rfl)) ?_;(with_reducible refine (z11.calls k a0 a1 t101 _ A4.out).mono ?_);rintro e w' ⟨rfl,⟨nd,rfl⟩⟩;refine ⟨_,rfl,?_⟩)|((with_reducible refine zl (f:=70) rfl ?_);refine goesL_ (some 33) rfl rfl Try.func70 (by kernel_rfl) rfl #[.int .i64 a0,.slice A2 l2.length c2] rfl (by (try simp only [List.map_toArray,List.map_cons,List.map_nil]);first|done|rfl|(simp only [List.length_drop,List.length_take];rfl)) ?_;(with_reducible refine (zM.calls k a0 _ _ l2 true _ ?side1 ?side2 A11.out).mono ?_);(case side1=>repeat (first|exact HR2.out|(with_reducible refine Kd.zS ?_ _)|(with_reducible refine Kd.zT ?_ _)|(with_reducible refine Kd.z14 ?_)));(case side2=>exact HC2.out);rintro e w13 ⟨rfl,hb⟩;refine ⟨_,rfl,?_⟩;have n0_:=z3.mk (zb (by repeat (first|(with_reducible first|exact HB.out|apply z2|apply z0|apply z1)|exact HB.out)) hb);clear HB;have HB:=n0_;clear n0_;(try clear hb);(try clear hb2);(try clear hk);(try clear hi)))
 go_loopg [10,37] k (fun kq v10 v37 w'=>∃ (x10_1 : List (S51)) (x37_1 : Int),v37 = .int .i64 x37_1 ∧ z3 (zm.l0 kq a0 ji8 x10_1 l2 (l2.length : Int) x37_1 = some (r1,r2)) ∧ z3 (kq ≤ k) ∧ z3 (Kd.R k51 51 w' w.heap.size (fun _=>True) v10 x10_1) ∧ z3 (Below w.heap.size w w'))
 case atStart=>exact ⟨(([] : List (S51))),(0),(by first|rfl|(simp;done)|(simp [*];done)),H',⟨Nat.le_refl _⟩,⟨by first|exact Kd.z1L _ _ _ _ _|exact Kd.z1S _ _ _ _ _|exact Kd.z1V _ _ _ _ _|exact Kd.z1T _ _ _ _ _|exact Kd.z1U _ _ _ _ _⟩,⟨by repeat (first|(with_reducible first|exact HB.out|apply z2|apply z0|apply z1)|exact HB.out)⟩⟩
 case round =>
  clear H'
  (try clear c1);(try clear c2);(try clear p2);(try clear c3);(try clear c5);(try clear c5b0);(try clear c5b1);(try clear c6);(try clear p6);(try clear c7);(try clear c7b0);(try clear c7b1);(try clear c9);(try clear c9b0);(try clear c9b1);(try clear c10);(try clear c10b0);(try clear c10b1);(try clear c12)
  obtain ⟨x10_1,x37_1,rfl,HA,HK1,HO_10,HB⟩:=hrel
  cases gk with
  | zero=>exact absurd HA.out (by simp [zm.l0])
  | succ k1 =>
   have H:=HA.out
   clear HA
   simp only [zm.l0] at H
   by_cases c14 : x37_1 < (l2.length : Int)
   rotate_left
   · rw [if_neg c14] at H
     have c14b0 : decide (x37_1 < (l2.length : Int)) = false:=decide_eq_false c14
     clear c14
     simp only [Option.some.injEq,Prod.mk.injEq] at H
     obtain ⟨rfl,rfl⟩:=H
     go_wp2
     go_ret2
     exact ⟨_,by first|rfl|(simp [zg,zh] <;> rfl)|(simp only [← hji6,← hji8];first|rfl|(simp [zg,zh] <;> rfl))|(simp [*,zg,zh] <;> rfl),by (with_reducible repeat (first|apply Kd.zr|apply Kd.zs|apply Kd.zy));exact HO_10.out,by repeat (first|(with_reducible first|exact HB.out|apply z2|apply z0|apply z1)|exact HB.out)⟩
   rw [if_pos c14] at H
   have c14b0 : decide (x37_1 < (l2.length : Int)) = true:=decide_eq_true c14
   clear c14
   by_cases c15 : 0 ≤ x37_1
   rotate_left
   · rw [if_neg c15] at H
     exact absurd H (by simp)
   rw [if_pos c15] at H
   have c15b0 : decide (0 ≤ x37_1) = true:=decide_eq_true c15
   clear c15
   by_cases c16 : x37_1 < (l2.length : Int)
   rotate_left
   · rw [if_neg c16] at H
     exact absurd H (by simp)
   rw [if_pos c16] at H
   have c16b0 : decide (x37_1 < (l2.length : Int)) = true:=decide_eq_true c16
   clear c16
   by_cases c17 : ji8 = 0
   · rw [if_pos c17] at H
     exact absurd H (by simp)
   rw [if_neg c17] at H
   have c17b0 : (ji8 == 0) = false:=beq_eq_false_iff_ne.mpr c17
   have c17b1 : (ji8 != 0) = true:=bne_iff_ne.mpr c17
   by_cases c18 : (Int.tmod x37_1 ji8) = 0
   rotate_left
   · rw [if_neg c18] at H
     have c18b0 : ((Int.tmod x37_1 ji8) == 0) = false:=beq_eq_false_iff_ne.mpr c18
     have c18b1 : ((Int.tmod x37_1 ji8) != 0) = true:=bne_iff_ne.mpr c18
     obtain ⟨ji36,hji36⟩ : ∃ j_ : Int,(wrap64 ((x10_1.length : Int) - 1)) = j_:=⟨_,rfl⟩
     replace H : (if 0 ≤ (ji36) then (if (ji36) < (x10_1.length : Int) then (if 0 ≤ a0 then ((z1c.f ((zx l2 x37_1).f0) ((zx l2 x37_1).f1) (shl .i64 (Int.tmod x37_1 ji8) a0)).bind fun bt115=>((z1l.f ((zx x10_1 (ji36)).f0) ((zx x10_1 (ji36)).f1) bt115.1 bt115.2).bind fun bt117=>(zm.l0 k1 a0 ji8 (x10_1.set ((ji36) : Int).toNat (⟨bt117.1,bt117.2⟩ : S51)) l2 (l2.length : Int) (wrap64 (x37_1 + 1))))) else (none)) else (none)) else (none)) = some (r1,r2):=by first|(rw [hji36] at H;exact H)|(simp only [hji36] at H ⊢;exact H)
     have hji36w : (IntKind.i64.wrap ((x10_1.length : Int) - 1)) = ji36:=(zD _).trans hji36
     by_cases c37 : 0 ≤ (ji36)
     rotate_left
     · rw [if_neg c37] at H
       exact absurd H (by simp)
     rw [if_pos c37] at H
     have c37b0 : decide (0 ≤ (ji36)) = true:=decide_eq_true c37
     clear c37
     by_cases c38 : (ji36) < (x10_1.length : Int)
     rotate_left
     · rw [if_neg c38] at H
       exact absurd H (by simp)
     rw [if_pos c38] at H
     have c38b0 : decide ((ji36) < (x10_1.length : Int)) = true:=decide_eq_true c38
     clear c38
     by_cases c39 : 0 ≤ a0
     rotate_left
     · rw [if_neg c39] at H
       exact absurd H (by simp)
     rw [if_pos c39] at H
     have c39b0:=eq_true c39
     have c39b1 : decide (0 ≤ a0) = true:=decide_eq_true c39
     clear c39
     obtain ⟨ji40,hji40⟩ : ∃ j_ : Int,(shl .i64 (Int.tmod x37_1 ji8) a0) = j_:=⟨_,rfl⟩
     replace H : ((z1c.f ((zx l2 x37_1).f0) ((zx l2 x37_1).f1) (ji40)).bind fun bt115=>((z1l.f ((zx x10_1 (ji36)).f0) ((zx x10_1 (ji36)).f1) bt115.1 bt115.2).bind fun bt117=>(zm.l0 k1 a0 ji8 (x10_1.set ((ji36) : Int).toNat (⟨bt117.1,bt117.2⟩ : S51)) l2 (l2.length : Int) (wrap64 (x37_1 + 1))))) = some (r1,r2):=by first|(rw [hji40] at H;exact H)|(simp only [hji40] at H ⊢;exact H)
     have hji40_ : (IntKind.i64.wrap ((Int.tmod x37_1 ji8) * 2 ^ min a0.toNat 64)) = ji40:=hji40
     have hji40z : a0 ≤ 64 → (IntKind.i64.wrap ((Int.tmod x37_1 ji8) * 2 ^ a0.toNat)) = ji40:=z1a hji40
     have hji40y : (wrap64 ((Int.tmod x37_1 ji8) * 2 ^ min a0.toNat 64)) = ji40:=(zD _).symm.trans hji40_
     have hji40x : a0 ≤ 64 → (wrap64 ((Int.tmod x37_1 ji8) * 2 ^ a0.toNat)) = ji40:=fun h_=>(zD _).symm.trans (hji40z h_)
     replace H:=Option.bind_eq_some_iff.mp H
     obtain ⟨⟨t115,t116⟩,A410,H⟩:=H
     replace H : ((z1l.f ((zx x10_1 (ji36)).f0) ((zx x10_1 (ji36)).f1) t115 t116).bind fun bt117=>(zm.l0 k1 a0 ji8 (x10_1.set ((ji36) : Int).toNat (⟨bt117.1,bt117.2⟩ : S51)) l2 (l2.length : Int) (wrap64 (x37_1 + 1)))) = some (r1,r2):=H
     have A41:=z3.mk A410
     clear A410
     replace H:=Option.bind_eq_some_iff.mp H
     obtain ⟨⟨t117,t118⟩,A420,H⟩:=H
     replace H : (zm.l0 k1 a0 ji8 (x10_1.set ((ji36) : Int).toNat (⟨t117,t118⟩ : S51)) l2 (l2.length : Int) (wrap64 (x37_1 + 1))) = some (r1,r2):=H
     have A42:=z3.mk A420
     clear A420
     obtain ⟨y119,hy119⟩ : ∃ y_ : List (S51),y_ = (x10_1.set ((ji36) : Int).toNat (⟨t117,t118⟩ : S51)):=⟨_,rfl⟩
     replace H : (zm.l0 k1 a0 ji8 y119 l2 (l2.length : Int) (wrap64 (x37_1 + 1))) = some (r1,r2):=by first|(rw [hy119];with_reducible exact H)|(have H2_:=(Option.bind_some _ _).symm.trans H;rw [hy119];with_reducible exact H2_)|(have H2_:=(Option.bind_some _ _).symm.trans H;with_reducible exact H2_)|with_reducible exact H|(rw [hy119];exact H)|exact H
     have Ny119:=z3.mk hy119
     clear hy119
     have H':=z3.mk H
     clear H
     have p103 : 0 ≤ (x37_1 : Int):=of_decide_eq_true (by first|(with_reducible assumption)|assumption)
     have q103 : x37_1 < (l2.length : Int):=of_decide_eq_true (by first|(with_reducible assumption)|assumption)
     obtain ⟨ad103,e103,hx103_0,hx103_1⟩:=z2b HR2.out x37_1 p103 q103
     cases e103
     replace hx103_0:=(HB.out.cell (World.block_lt_of_cell? w _ hx103_0)).trans hx103_0
     replace hx103_1:=(HB.out.cell (World.block_lt_of_cell? w _ hx103_1)).trans hx103_1
     replace p103:=eq_true p103
     replace q103:=eq_true q103
     try go_wp2_with (first|((with_reducible refine zE (N:=12) rfl ?_);refine zC ?hg (N:=12) ?hd (cs:=#[.int .u64 0,.int .u64 0]) (t:=51) ?hr ?_;(case hd=>rfl);(case hg=>rfl);(case hr=>first|(go_simp;done)|(go_simp;rfl));intro gb104 hg w44 hbox hb;have n0_:=z3.mk (Kd.zG (Kd.z2x (by (with_reducible repeat (first|apply Kd.zr|apply Kd.zs|apply Kd.zy));exact HO_10.out) gb104 (Nat.le_of_eq hg.symm)) hb);have n1_:=z3.mk (zb (by repeat (first|(with_reducible first|exact HB.out|apply z2|apply z0|apply z1)|exact HB.out)) hb);have n2_:=z3.mk (hbox);have n3_:=z3.mk ((by rw [hg];exact (zc (by repeat (first|(with_reducible first|exact HB.out|apply z2|apply z0|apply z1)|exact HB.out))) : w.heap.size ≤ gb104));have n4_:=z3.mk ((by rw [hg];exact (zc (by repeat (first|(with_reducible first|exact HB.out|apply z2|apply z0|apply z1)|exact HB.out))) : w.heap.size ≤ gb104));clear HO_10;clear HB;have HO_10:=n0_;have HB:=n1_;have BK104:=n2_;have GW104:=n3_;have GE104:=n4_;clear n0_ n1_ n2_ n3_ n4_;clear hb hbox hg;have hcz45_0 : w44.cell? ⟨gb104,0,none⟩ = some (.int .u64 0):=(ze BK104.out 0).trans rfl;have hcz45_1 : w44.cell? ⟨gb104,1,none⟩ = some (.int .u64 0):=(ze BK104.out 1).trans rfl;have hfz45_0:=zd BK104.out 0;have hfz45_1:=zd BK104.out 1;obtain ⟨Ao46,co46,eo46⟩:=Kd.z10 HO_10.out;subst eo46))
     have n0_ : z3 (Kd.R k51 51 ((w44.setCell ⟨gb104,0,none⟩ (.int .u64 ((zx l2 x37_1).f0))).setCell ⟨gb104,1,none⟩ (.int .u64 ((zx l2 x37_1).f1))) w.heap.size (fun k_=>k_ ≠ gb104) (.slice Ao46 x10_1.length co46) x10_1):=⟨by (with_reducible repeat (first|apply Kd.zr|apply Kd.zs|apply Kd.zy));exact Kd.z1e (Kd.z3l (p:=⟨gb104,1,none⟩) (Kd.z3l (p:=⟨gb104,0,none⟩) (Kd.z1e HO_10.out (fun k_ hk=>(⟨hk,hk.2⟩ : _ ∧ k_ ≠ gb104))) (fun _ hk=>hk.2) (.int .u64 ((zx l2 x37_1).f0))) (fun _ hk=>hk.2) (.int .u64 ((zx l2 x37_1).f1))) (fun _ hk=>hk.1.2)⟩
     have n1_ : z3 (((w44.setCell ⟨gb104,0,none⟩ (.int .u64 ((zx l2 x37_1).f0))).setCell ⟨gb104,1,none⟩ (.int .u64 ((zx l2 x37_1).f1))).heap[gb104]? = some (.cells #[.int .u64 ((zx l2 x37_1).f0),.int .u64 ((zx l2 x37_1).f1)] 51 (0,0))):=⟨by (with_reducible repeat (first|refine z5 ?_ _|refine z8 ?_|refine z4 ?_ _));refine zN (cs:=#[.int .u64 ((zx l2 x37_1).f0),.int .u64 0]) ?_ 1 _ rfl;(with_reducible repeat (first|refine z5 ?_ _|refine z8 ?_|refine z4 ?_ _));refine zN (cs:=#[.int .u64 0,.int .u64 0]) ?_ 0 _ rfl;(with_reducible repeat (first|refine z5 ?_ _|refine z8 ?_|refine z4 ?_ _));exact BK104.out⟩
     have n2_ : z3 (Below w.heap.size w ((w44.setCell ⟨gb104,0,none⟩ (.int .u64 ((zx l2 x37_1).f0))).setCell ⟨gb104,1,none⟩ (.int .u64 ((zx l2 x37_1).f1)))):=⟨by repeat (first|(with_reducible first|exact HB.out|apply z2|apply z0|apply z1|refine z6 ?_ GE104.out)|exact HB.out)⟩
     (try clear HO_10)
     (try clear BK104)
     (try clear HB)
     generalize ((w44.setCell ⟨gb104,0,none⟩ (.int .u64 ((zx l2 x37_1).f0))).setCell ⟨gb104,1,none⟩ (.int .u64 ((zx l2 x37_1).f1))) = w47 at n0_ n1_ n2_ ⊢
     have HO_10:=n0_
     have BK104:=n1_
     have HB:=n2_
     clear n0_ n1_ n2_
     have n0_:=z3.mk (Kd.zy HO_10.out)
     have n1_:=z3.mk (z8 BK104.out)
     have n2_:=z3.mk (z1 HB.out)
     clear HO_10
     clear BK104
     clear HB
     have HO_10:=n0_
     have BK104:=n1_
     have HB:=n2_
     clear n0_ n1_ n2_
     have p114 : 0 ≤ ((ji36) : Int):=of_decide_eq_true (by first|(with_reducible assumption)|assumption)
     have q114 : (ji36) < (x10_1.length : Int):=of_decide_eq_true (by first|(with_reducible assumption)|assumption)
     obtain ⟨ad114,e114,hx114_0,hx114_1⟩:=z2b (Kd.zA HO_10.out).2.2 (ji36) p114 q114
     cases e114
     replace p114:=eq_true p114
     replace q114:=eq_true q114
     refine start_ (n:=16) (S:=fun w'=>w'.cell? ⟨gb104,0,none⟩ = some (.int .u64 ((zx l2 x37_1).f0)) ∧ w'.cell? ⟨gb104,1,none⟩ = some (.int .u64 ((zx l2 x37_1).f1)) ∧ w'.cell? (ad114.add (((ji36)).toNat * 2)) = some (.int .u64 ((zx x10_1 (ji36)).f0)) ∧ w'.cell? ⟨(ad114.add (((ji36)).toNat * 2)).block,(ad114.add (((ji36)).toNat * 2)).off + 1,none⟩ = some (.int .u64 ((zx x10_1 (ji36)).f1))) (ds:=[15]) #[false,false,false,false,false,false,false,false,false,false,false,false,false,false,false,false] (by kernel_rfl) rfl rfl ⟨(ze BK104.out 0).trans rfl,(ze BK104.out 1).trans rfl,hx114_0,hx114_1⟩ (fun hHeld=>?_);refine z1C zm.tab16 zm.bits16 (fun HT_ HW_=>?_)
     generalize w47.drew = w48 at HO_10 BK104 HB hx114_0 hx114_1 hHeld ⊢
     refine pure_ (i:=0) (N:=some 53) (v:=?_) (a':=?_) #[true,false,false,false,false,false,false,false,false,false,false,false,false,false,false,false] rfl rfl (zK HT_.out (by kernel_rfl)) (fun _ _ _ h=>h) (Or.inl ⟨by rfl,?_⟩) ?_ ?_
     rotate_left
     · intro w'
       go_simp
       with_reducible rfl
     rotate_left
     · simp only [Act.put,List.setIfInBounds_toArray,List.set_cons_zero,List.set_cons_succ,zD,zI]
       rfl
     refine pure_ (i:=1) (N:=some 54) (v:=?_) (a':=?_) #[true,true,false,false,false,false,false,false,false,false,false,false,false,false,false,false] rfl rfl (zK HT_.out (by kernel_rfl)) (fun _ _ _ h=>h) (Or.inl ⟨by rfl,?_⟩) ?_ ?_
     rotate_left
     · intro w'
       go_simp
       with_reducible rfl
     rotate_left
     · simp only [Act.put,List.setIfInBounds_toArray,List.set_cons_zero,List.set_cons_succ,zD,zI]
       rfl
     refine pure_ (i:=2) (N:=some 55) (v:=?_) (a':=?_) #[true,true,true,false,false,false,false,false,false,false,false,false,false,false,false,false] rfl rfl (zK HT_.out (by kernel_rfl)) (fun _ _ _ h=>h) (Or.inl ⟨by rfl,?_⟩) ?_ ?_
     rotate_left
     · intro w'
       go_simp
       with_reducible rfl
     rotate_left
     · simp only [Act.put,List.setIfInBounds_toArray,List.set_cons_zero,List.set_cons_succ,zD,zI]
       rfl
     refine pure_ (i:=3) (N:=some 56) (v:=?_) (a':=?_) #[true,true,true,true,false,false,false,false,false,false,false,false,false,false,false,false] rfl rfl (zK HT_.out (by kernel_rfl)) (fun _ _ _ h=>h) (Or.inl ⟨by rfl,?_⟩) ?_ ?_
     rotate_left
     · intro w'
       go_simp
       with_reducible rfl
     rotate_left
     · simp only [Act.put,List.setIfInBounds_toArray,List.set_cons_zero,List.set_cons_succ,zD,zI]
       rfl
     refine pure_ (i:=4) (N:=some 57) (v:=?_) (a':=?_) #[true,true,true,true,true,false,false,false,false,false,false,false,false,false,false,false] rfl rfl (zK HT_.out (by kernel_rfl)) (fun _ _ _ h=>h) (Or.inl ⟨by rfl,?_⟩) ?_ ?_
     rotate_left
     · intro w'
       go_simp
       with_reducible rfl
     rotate_left
     · simp only [Act.put,List.setIfInBounds_toArray,List.set_cons_zero,List.set_cons_succ,zD,zI]
       rfl
     refine pure_ (i:=7) (N:=some 60) (v:=?_) (a':=?_) #[true,true,true,true,true,false,false,true,false,false,false,false,false,false,false,false] rfl rfl (zK HT_.out (by kernel_rfl)) (fun _ _ _ h=>h) (Or.inl ⟨by rfl,?_⟩) ?_ ?_
     rotate_left
     · intro w'
       go_simp
       with_reducible rfl
     rotate_left
     · simp only [Act.put,List.setIfInBounds_toArray,List.set_cons_zero,List.set_cons_succ,zD,zI]
       rfl
     refine pure_ (i:=8) (N:=some 61) (v:=?_) (a':=?_) #[true,true,true,true,true,false,false,true,true,false,false,false,false,false,false,false] rfl rfl (zK HT_.out (by kernel_rfl)) (fun _ _ _ h=>h) (Or.inl ⟨by rfl,?_⟩) ?_ ?_
     rotate_left
     · intro w'
       go_simp
       with_reducible rfl
     rotate_left
     · simp only [Act.put,List.setIfInBounds_toArray,List.set_cons_zero,List.set_cons_succ,zD,zI]
       rfl
     refine pure_ (i:=9) (N:=some 62) (v:=?_) (a':=?_) #[true,true,true,true,true,false,false,true,true,true,false,false,false,false,false,false] rfl rfl (zK HT_.out (by kernel_rfl)) (fun _ _ _ h=>h) (Or.inl ⟨by rfl,?_⟩) ?_ ?_
     rotate_left
     · intro w'
       go_simp
       with_reducible rfl
     rotate_left
     · simp only [Act.put,List.setIfInBounds_toArray,List.set_cons_zero,List.set_cons_succ,zD,zI]
       rfl
     refine pure_ (i:=10) (N:=some 63) (v:=?_) (a':=?_) #[true,true,true,true,true,false,false,true,true,true,true,false,false,false,false,false] rfl rfl (zK HT_.out (by kernel_rfl)) (fun _ _ _ h=>h) (Or.inl ⟨by rfl,?_⟩) ?_ ?_
     rotate_left
     · intro w'
       go_simp
       with_reducible rfl
     rotate_left
     · simp only [Act.put,List.setIfInBounds_toArray,List.set_cons_zero,List.set_cons_succ,zD,zI]
       rfl
     refine pure_ (i:=11) (N:=some 64) (v:=?_) (a':=?_) #[true,true,true,true,true,false,false,true,true,true,true,true,false,false,false,false] rfl rfl (zK HT_.out (by kernel_rfl)) (fun _ _ _ h=>h) (Or.inl ⟨by rfl,?_⟩) ?_ ?_
     rotate_left
     · intro w'
       go_simp
       with_reducible rfl
     rotate_left
     · simp only [Act.put,List.setIfInBounds_toArray,List.set_cons_zero,List.set_cons_succ,zD,zI]
       rfl
     refine take_ (i:=5) (N:=some 58) (v:=?_) (a':=?_) #[true,true,true,true,true,true,false,true,true,true,true,true,false,false,false,false] rfl rfl (z1m HT_.out HW_.out (by kernel_rfl)) (fun _ _ _ h=>h) (Or.inl ⟨by rfl,?_⟩) hHeld ?_ ?_
     rotate_left
     · rintro w' ⟨s0,s1,s2,s3⟩
       go_simp
       with_reducible rfl
     rotate_left
     · simp only [Act.put,List.setIfInBounds_toArray,List.set_cons_zero,List.set_cons_succ,zD,zI]
       rfl
     refine take_ (i:=6) (N:=some 59) (v:=?_) (a':=?_) #[true,true,true,true,true,true,true,true,true,true,true,true,false,false,false,false] rfl rfl (z1m HT_.out HW_.out (by kernel_rfl)) (fun _ _ _ h=>h) (Or.inl ⟨by rfl,?_⟩) hHeld ?_ ?_
     rotate_left
     · rintro w' ⟨s0,s1,s2,s3⟩
       go_simp
       with_reducible rfl
     rotate_left
     · simp only [Act.put,List.setIfInBounds_toArray,List.set_cons_zero,List.set_cons_succ,zD,zI]
       rfl
     refine one_ (i:=12) (N:=some 65) #[true,true,true,true,true,true,true,true,true,true,true,true,true,false,false,false] rfl rfl (z1t HT_.out (by kernel_rfl)) (by decide) (fun K hK=>?_)
     refine goes_ Try.func71 (by kernel_rfl) rfl #[.agg #[.int .u64 ((zx l2 x37_1).f0),.int .u64 ((zx l2 x37_1).f1)],.int .i64 ji40] (by rfl) rfl rfl (by (try simp only [List.map_toArray,List.map_cons,List.map_nil]);first|done|(simp only [hji40];rfl)|rfl|(simp only [List.length_drop,List.length_take];rfl)) ?_
     with_reducible refine (z1c.calls ((zx l2 x37_1).f0) ((zx l2 x37_1).f1) ji40 t115 t116 _ A41.out).mono ?_
     rintro e w49 ⟨rfl,hb⟩
     have HS2_:=(hb.cell (World.block_lt_of_cell? _ _ (hHeld.2.2.1))).trans (hHeld.2.2.1)
     have HS3_:=(hb.cell (World.block_lt_of_cell? _ _ (hHeld.2.2.2))).trans (hHeld.2.2.2)
     refine ⟨_,rfl,?_⟩
     have n0_:=z3.mk (Kd.zG (by (with_reducible repeat (first|apply Kd.zr|apply Kd.zs|apply Kd.zy));exact HO_10.out) hb)
     have n1_:=z3.mk (zn (g:=gb104) (o:=.cells #[.int .u64 ((zx l2 x37_1).f0),.int .u64 ((zx l2 x37_1).f1)] 51 (0,0)) (by (with_reducible repeat (first|refine z5 ?_ _|refine z8 ?_|refine z4 ?_ _));exact BK104.out) hb)
     have n2_:=z3.mk (zb (by repeat (first|(with_reducible first|exact HB.out|apply z2|apply z0|apply z1|refine z6 ?_ GE104.out)|exact HB.out)) hb)
     clear HO_10
     clear BK104
     clear HB
     have HO_10:=n0_
     have BK104:=n1_
     have HB:=n2_
     clear n0_ n1_ n2_
     (try clear hb)
     (try clear hb2)
     (try clear hk)
     (try clear hi)
     refine hK.out _ _ ⟨(ze BK104.out 0).trans rfl,(ze BK104.out 1).trans rfl,HS2_,HS3_⟩ (fun hHeld=>?_)
     clear hK K
     refine norm_ (a':=?_) ?_ ?_
     rotate_left
     · show Act.put _ (some 65) _ = _
       simp only [Act.put,List.setIfInBounds_toArray,List.set_cons_zero,List.set_cons_succ,zD,zI]
       rfl
     refine one_ (i:=13) (N:=some 66) #[true,true,true,true,true,true,true,true,true,true,true,true,true,true,false,false] rfl rfl (z1t HT_.out (by kernel_rfl)) (by decide) (fun K hK=>?_)
     refine goes_ Try.func40 (by kernel_rfl) rfl #[.agg #[.int .u64 ((zx x10_1 (ji36)).f0),.int .u64 ((zx x10_1 (ji36)).f1)],.agg #[.int .u64 t115,.int .u64 t116]] (by rfl) rfl rfl (by (try simp only [List.map_toArray,List.map_cons,List.map_nil]);first|done|(simp only [hji36];rfl)|rfl|(simp only [List.length_drop,List.length_take];rfl)) ?_
     with_reducible refine (z1l.calls ((zx x10_1 (ji36)).f0) ((zx x10_1 (ji36)).f1) t115 t116 t117 t118 _ A42.out).mono ?_
     rintro e w50 ⟨rfl,hb⟩
     have HS2_:=(hb.cell (World.block_lt_of_cell? _ _ (hHeld.2.2.1))).trans (hHeld.2.2.1)
     have HS3_:=(hb.cell (World.block_lt_of_cell? _ _ (hHeld.2.2.2))).trans (hHeld.2.2.2)
     refine ⟨_,rfl,?_⟩
     have n0_:=z3.mk (Kd.zG (by (with_reducible repeat (first|apply Kd.zr|apply Kd.zs|apply Kd.zy));exact HO_10.out) hb)
     have n1_:=z3.mk (zn (g:=gb104) (o:=.cells #[.int .u64 ((zx l2 x37_1).f0),.int .u64 ((zx l2 x37_1).f1)] 51 (0,0)) (by (with_reducible repeat (first|refine z5 ?_ _|refine z8 ?_|refine z4 ?_ _));exact BK104.out) hb)
     have n2_:=z3.mk (zb (by repeat (first|(with_reducible first|exact HB.out|apply z2|apply z0|apply z1|refine z6 ?_ GE104.out)|exact HB.out)) hb)
     clear HO_10
     clear BK104
     clear HB
     have HO_10:=n0_
     have BK104:=n1_
     have HB:=n2_
     clear n0_ n1_ n2_
     (try clear hb)
     (try clear hb2)
     (try clear hk)
     (try clear hi)
     have p43 : 0 ≤ ((ji36) : Int):=of_decide_eq_true (by first|(with_reducible assumption)|assumption)
     have q43 : ((ji36) : Int) < ((x10_1.length : Int) : Int):=of_decide_eq_true (by first|(with_reducible assumption)|assumption)
     obtain ⟨go43,co43,eo43,gb43,gl43,cl43,HG43⟩:=Kd.R_form HO_10.out (by omega)
     (first|cases eo43|(injection eo43 with ea_ en_ ec_;(first|subst ea_|(injection ea_ with ea_;subst ea_));subst ec_;clear en_))
     have GB43:=z3.mk gb43
     have GG43:=z3.mk HG43
     clear gb43 gl43 HG43
     (first|simp only [z2a] at hx114_0|skip)
     (first|simp only [z2a] at hx114_1|skip)
     obtain ⟨ce43,hcl43,hM43,hcc43,hfr43⟩:=Kd.z4r HO_10.out z51 ((ji36) : Int) p43 q43
     obtain rfl:=z2f hM43
     have hx43_0 : World.cell? _ ⟨go43,((ji36) : Int).toNat * 2,none⟩ = some (.int .u64 ((zx x10_1 (ji36)).f0)):=hcc43 0 _ rfl
     have hx43_1 : World.cell? _ ⟨go43,((ji36) : Int).toNat * 2 + 1,none⟩ = some (.int .u64 ((zx x10_1 (ji36)).f1)):=hcc43 1 _ rfl
     have hf43_0 : World.frozen? _ ⟨go43,((ji36) : Int).toNat * 2,none⟩ = false:=hfr43 0
     have hf43_1 : World.frozen? _ ⟨go43,((ji36) : Int).toNat * 2 + 1,none⟩ = false:=hfr43 1
     clear hcl43 hcc43 hfr43 hM43
     replace p43:=eq_true p43
     replace q43:=eq_true q43
     obtain ⟨ce51,hcl51,hM51,hcc51,hfr51⟩:=Kd.z4r HO_10.out z51 ((ji36) : Int) (of_decide_eq_true (by first|(with_reducible assumption)|assumption)) (by have h_ : ((ji36) : Int) < ((x10_1.length : Int) : Int):=of_decide_eq_true (by first|(with_reducible assumption)|assumption);first|exact h_|(have e_:=(Kd.zA HO_10.out).1;omega)|simpa using h_)
     obtain rfl:=z2f hM51
     have HP51:=(Kd.R_seg HO_10.out ((ji36) : Int) (of_decide_eq_true (by first|(with_reducible assumption)|assumption)) (by have h_ : ((ji36) : Int) < ((x10_1.length : Int) : Int):=of_decide_eq_true (by first|(with_reducible assumption)|assumption);first|exact h_|(have e_:=(Kd.zA HO_10.out).1;omega)|simpa using h_) (seg:=[.int .u64 t117,.int .u64 t118]) (j:=0) hcl51 hcc51 (show 2 ≤ 2 from by decide) (x':=(⟨t117,t118⟩ : S51)) (z1j _ _ _ (⟨t117,t118⟩ : S51) ) (fun _ hk=>hk)).1
     rw [← Ny119.out] at HP51
     have HQ51:=z3.mk HP51
     clear hcl51 hcc51 hfr51 hM51 HP51
     refine hK.out _ _ ⟨(ze BK104.out 0).trans rfl,(ze BK104.out 1).trans rfl,HS2_,HS3_⟩ (fun hHeld=>?_)
     clear hK K
     refine norm_ (a':=?_) ?_ ?_
     rotate_left
     · show Act.put _ (some 66) _ = _
       simp only [Act.put,List.setIfInBounds_toArray,List.set_cons_zero,List.set_cons_succ,zD,zI]
       rfl
     refine pure_ (i:=14) (N:=some 67) (v:=?_) (a':=?_) #[true,true,true,true,true,true,true,true,true,true,true,true,true,true,true,false] rfl rfl (zK HT_.out (by kernel_rfl)) (fun _ _ _ h=>h) (Or.inl ⟨by rfl,?_⟩) ?_ ?_
     rotate_left
     · intro w'
       go_simp
       with_reducible rfl
     rotate_left
     · simp only [Act.put,List.setIfInBounds_toArray,List.set_cons_zero,List.set_cons_succ,zD,zI]
       rfl
     refine last_ (i:=15) (N:=none) #[true,true,true,true,true,true,true,true,true,true,true,true,true,true,true,true] rfl rfl (z1t HT_.out (by kernel_rfl)) (by decide) (fun K hK=>?_)
     refine skip_ (w1:=?_) (by rfl) rfl ?_ ?_
     rotate_left
     · go_simp
       rfl
     refine hK.out _ _ ?_
     clear hK K
     refine done_ (z1Z HT_.out (by kernel_rfl)) ?_
     try go_wp2
     go_roundg k1
     case measure=>have:=HK1.out;omega
     case rel=>exact ⟨(y119),(wrap64 (x37_1 + 1)),(by first|rfl|(simp;done)|(simp [*];done)),H',⟨by have:=HK1.out;omega⟩,⟨by (with_reducible repeat (first|apply Kd.zr|apply Kd.zs|apply Kd.zy));exact Kd.z1e HQ51.out (fun _ hk=>trivial)⟩,⟨by repeat (first|(with_reducible first|exact HB.out|apply z2|apply z0|apply z1|refine z6 ?_ GB43.out|refine z6 ?_ GB43.out|refine z6 ?_ GE104.out)|exact HB.out)⟩⟩
   rw [if_pos c18] at H
   have c18b0 : ((Int.tmod x37_1 ji8) == 0) = true:=beq_iff_eq.mpr c18
   have c18b1 : ((Int.tmod x37_1 ji8) != 0) = false:=bne_eq_false_iff_eq.mpr c18
   clear c18
   by_cases c19 : x10_1.length < 8796093022208
   rotate_left
   · rw [if_neg c19] at H
     exact absurd H (by simp)
   rw [if_pos c19] at H
   have LMc19:=z3.mk c19
   clear c19
   obtain ⟨y105,hy105⟩ : ∃ y_ : List (S51),y_ = (x10_1 ++ [(⟨0,0⟩ : S51)]):=⟨_,rfl⟩
   replace H : (if 0 ≤ (wrap64 ((y105.length : Int) - 1)) then (if (wrap64 ((y105.length : Int) - 1)) < (y105.length : Int) then (if 0 ≤ a0 then ((z1c.f ((zx l2 x37_1).f0) ((zx l2 x37_1).f1) (shl .i64 (Int.tmod x37_1 ji8) a0)).bind fun bt109=>((z1l.f ((zx y105 (wrap64 ((y105.length : Int) - 1))).f0) ((zx y105 (wrap64 ((y105.length : Int) - 1))).f1) bt109.1 bt109.2).bind fun bt111=>(zm.l0 k1 a0 ji8 (y105.set ((wrap64 ((y105.length : Int) - 1)) : Int).toNat (⟨bt111.1,bt111.2⟩ : S51)) l2 (l2.length : Int) (wrap64 (x37_1 + 1))))) else (none)) else (none)) else (none)) = some (r1,r2):=by first|(rw [hy105];with_reducible exact H)|(have H2_:=(Option.bind_some _ _).symm.trans H;rw [hy105];with_reducible exact H2_)|(have H2_:=(Option.bind_some _ _).symm.trans H;with_reducible exact H2_)|with_reducible exact H|(rw [hy105];exact H)|exact H
   have Ny105:=z3.mk hy105
   clear hy105
   obtain ⟨ji20,hji20⟩ : ∃ j_ : Int,(wrap64 ((y105.length : Int) - 1)) = j_:=⟨_,rfl⟩
   replace H : (if 0 ≤ (ji20) then (if (ji20) < (y105.length : Int) then (if 0 ≤ a0 then ((z1c.f ((zx l2 x37_1).f0) ((zx l2 x37_1).f1) (shl .i64 (Int.tmod x37_1 ji8) a0)).bind fun bt109=>((z1l.f ((zx y105 (ji20)).f0) ((zx y105 (ji20)).f1) bt109.1 bt109.2).bind fun bt111=>(zm.l0 k1 a0 ji8 (y105.set ((ji20) : Int).toNat (⟨bt111.1,bt111.2⟩ : S51)) l2 (l2.length : Int) (wrap64 (x37_1 + 1))))) else (none)) else (none)) else (none)) = some (r1,r2):=by first|(rw [hji20] at H;exact H)|(simp only [hji20] at H ⊢;exact H)
   have hji20w : (IntKind.i64.wrap ((y105.length : Int) - 1)) = ji20:=(zD _).trans hji20
   by_cases c21 : 0 ≤ (ji20)
   rotate_left
   · rw [if_neg c21] at H
     exact absurd H (by simp)
   rw [if_pos c21] at H
   have c21b0 : decide (0 ≤ (ji20)) = true:=decide_eq_true c21
   clear c21
   by_cases c22 : (ji20) < (y105.length : Int)
   rotate_left
   · rw [if_neg c22] at H
     exact absurd H (by simp)
   rw [if_pos c22] at H
   have c22b0 : decide ((ji20) < (y105.length : Int)) = true:=decide_eq_true c22
   clear c22
   by_cases c23 : 0 ≤ a0
   rotate_left
   · rw [if_neg c23] at H
     exact absurd H (by simp)
   rw [if_pos c23] at H
   have c23b0:=eq_true c23
   have c23b1 : decide (0 ≤ a0) = true:=decide_eq_true c23
   clear c23
   obtain ⟨ji24,hji24⟩ : ∃ j_ : Int,(shl .i64 (Int.tmod x37_1 ji8) a0) = j_:=⟨_,rfl⟩
   replace H : ((z1c.f ((zx l2 x37_1).f0) ((zx l2 x37_1).f1) (ji24)).bind fun bt109=>((z1l.f ((zx y105 (ji20)).f0) ((zx y105 (ji20)).f1) bt109.1 bt109.2).bind fun bt111=>(zm.l0 k1 a0 ji8 (y105.set ((ji20) : Int).toNat (⟨bt111.1,bt111.2⟩ : S51)) l2 (l2.length : Int) (wrap64 (x37_1 + 1))))) = some (r1,r2):=by first|(rw [hji24] at H;exact H)|(simp only [hji24] at H ⊢;exact H)
   have hji24_ : (IntKind.i64.wrap ((Int.tmod x37_1 ji8) * 2 ^ min a0.toNat 64)) = ji24:=hji24
   have hji24z : a0 ≤ 64 → (IntKind.i64.wrap ((Int.tmod x37_1 ji8) * 2 ^ a0.toNat)) = ji24:=z1a hji24
   have hji24y : (wrap64 ((Int.tmod x37_1 ji8) * 2 ^ min a0.toNat 64)) = ji24:=(zD _).symm.trans hji24_
   have hji24x : a0 ≤ 64 → (wrap64 ((Int.tmod x37_1 ji8) * 2 ^ a0.toNat)) = ji24:=fun h_=>(zD _).symm.trans (hji24z h_)
   replace H:=Option.bind_eq_some_iff.mp H
   obtain ⟨⟨t109,t110⟩,A250,H⟩:=H
   replace H : ((z1l.f ((zx y105 (ji20)).f0) ((zx y105 (ji20)).f1) t109 t110).bind fun bt111=>(zm.l0 k1 a0 ji8 (y105.set ((ji20) : Int).toNat (⟨bt111.1,bt111.2⟩ : S51)) l2 (l2.length : Int) (wrap64 (x37_1 + 1)))) = some (r1,r2):=H
   have A25:=z3.mk A250
   clear A250
   replace H:=Option.bind_eq_some_iff.mp H
   obtain ⟨⟨t111,t112⟩,A260,H⟩:=H
   replace H : (zm.l0 k1 a0 ji8 (y105.set ((ji20) : Int).toNat (⟨t111,t112⟩ : S51)) l2 (l2.length : Int) (wrap64 (x37_1 + 1))) = some (r1,r2):=H
   have A26:=z3.mk A260
   clear A260
   obtain ⟨y113,hy113⟩ : ∃ y_ : List (S51),y_ = (y105.set ((ji20) : Int).toNat (⟨t111,t112⟩ : S51)):=⟨_,rfl⟩
   replace H : (zm.l0 k1 a0 ji8 y113 l2 (l2.length : Int) (wrap64 (x37_1 + 1))) = some (r1,r2):=by first|(rw [hy113];with_reducible exact H)|(have H2_:=(Option.bind_some _ _).symm.trans H;rw [hy113];with_reducible exact H2_)|(have H2_:=(Option.bind_some _ _).symm.trans H;with_reducible exact H2_)|with_reducible exact H|(rw [hy113];exact H)|exact H
   have Ny113:=z3.mk hy113
   clear hy113
   have H':=z3.mk H
   clear H
   have p103 : 0 ≤ (x37_1 : Int):=of_decide_eq_true (by first|(with_reducible assumption)|assumption)
   have q103 : x37_1 < (l2.length : Int):=of_decide_eq_true (by first|(with_reducible assumption)|assumption)
   obtain ⟨ad103,e103,hx103_0,hx103_1⟩:=z2b HR2.out x37_1 p103 q103
   cases e103
   replace hx103_0:=(HB.out.cell (World.block_lt_of_cell? w _ hx103_0)).trans hx103_0
   replace hx103_1:=(HB.out.cell (World.block_lt_of_cell? w _ hx103_1)).trans hx103_1
   replace p103:=eq_true p103
   replace q103:=eq_true q103
   try go_wp2_with (first|((with_reducible refine zE (N:=12) rfl ?_);refine zC ?hg (N:=12) ?hd (cs:=#[.int .u64 0,.int .u64 0]) (t:=51) ?hr ?_;(case hd=>rfl);(case hg=>rfl);(case hr=>first|(go_simp;done)|(go_simp;rfl));intro gb104 hg w28 hbox hb;have n0_:=z3.mk (Kd.zG (Kd.z2x (by (with_reducible repeat (first|apply Kd.zr|apply Kd.zs|apply Kd.zy));exact HO_10.out) gb104 (Nat.le_of_eq hg.symm)) hb);have n1_:=z3.mk (zb (by repeat (first|(with_reducible first|exact HB.out|apply z2|apply z0|apply z1)|exact HB.out)) hb);have n2_:=z3.mk (hbox);have n3_:=z3.mk ((by rw [hg];exact (zc (by repeat (first|(with_reducible first|exact HB.out|apply z2|apply z0|apply z1)|exact HB.out))) : w.heap.size ≤ gb104));have n4_:=z3.mk ((by rw [hg];exact (zc (by repeat (first|(with_reducible first|exact HB.out|apply z2|apply z0|apply z1)|exact HB.out))) : w.heap.size ≤ gb104));clear HO_10;clear HB;have HO_10:=n0_;have HB:=n1_;have BK104:=n2_;have GW104:=n3_;have GE104:=n4_;clear n0_ n1_ n2_ n3_ n4_;clear hb hbox hg;have hcz29_0 : w28.cell? ⟨gb104,0,none⟩ = some (.int .u64 0):=(ze BK104.out 0).trans rfl;have hcz29_1 : w28.cell? ⟨gb104,1,none⟩ = some (.int .u64 0):=(ze BK104.out 1).trans rfl;have hfz29_0:=zd BK104.out 0;have hfz29_1:=zd BK104.out 1)|((with_reducible refine z1E (b:=.append) (xs:=#[.tmp 46,.tmp 48]) rfl ?_);at_builtin;refine Kd.z2w k51 (w0:=w) w.heap.size rfl (.tmp 46) (.tmp 48) 37 51 (.agg #[(.int .u64 0),(.int .u64 0)]) 16 rfl Try.underlying37 info51 rfl (by decide) (by omega) u10 x10_1 (⟨0,0⟩ : S51) [.int .u64 0,.int .u64 0] (fun k_=>k_ ≠ gb104) (fun _=>False) rfl (by first|(go_simp;done)|(go_simp;rfl)) ?aP (fun _ hk=>hk.elim) ?aF ?aO ?aB ?aS ?aL ?_;(case aP=>exact z1j _ _ _ (⟨0,0⟩ : S51));(case aB=>exact (by repeat (first|(with_reducible first|exact HB.out|apply z2|apply z0|apply z1|refine z6 ?_ GE104.out)|exact HB.out)));(case aF=>exact (fun k_ hk=>Kd.freshB (g:=gb104) (o:=.cells #[.int .u64 ((zx l2 x37_1).f0),.int .u64 ((zx l2 x37_1).f1)] 51 (0,0)) (by (with_reducible repeat (first|refine z5 ?_ _|refine z8 ?_|refine z4 ?_ _));refine zN (cs:=#[.int .u64 ((zx l2 x37_1).f0),.int .u64 0]) ?_ 1 _ rfl;(with_reducible repeat (first|refine z5 ?_ _|refine z8 ?_|refine z4 ?_ _));refine zN (cs:=#[.int .u64 0,.int .u64 0]) ?_ 0 _ rfl;(with_reducible repeat (first|refine z5 ?_ _|refine z8 ?_|refine z4 ?_ _));exact BK104.out) k_ hk));(case aO=>exact (by (with_reducible repeat (first|apply Kd.zr|apply Kd.zs|apply Kd.zy));exact Kd.z1e (Kd.z3l (p:=⟨gb104,1,none⟩) (Kd.z3l (p:=⟨gb104,0,none⟩) (Kd.z1e HO_10.out (fun k_ hk=>(⟨hk,hk.2⟩ : _ ∧ k_ ≠ gb104))) (fun _ hk=>hk.2) (.int .u64 ((zx l2 x37_1).f0))) (fun _ hk=>hk.2) (.int .u64 ((zx l2 x37_1).f1))) (fun _ hk=>hk.1.2)));(case aS=>exact (zc (by repeat (first|(with_reducible first|exact HB.out|apply z2|apply z0|apply z1|refine z6 ?_ GE104.out)|exact HB.out))));(case aL=>have:=LMc19.out;omega);intro v106 w30 ho hb hg hat;rw [← Ny105.out] at ho;have n0_:=z3.mk (z2y (g:=gb104) (o:=.cells #[.int .u64 ((zx l2 x37_1).f0),.int .u64 ((zx l2 x37_1).f1)] 51 (0,0)) (by (with_reducible repeat (first|refine z5 ?_ _|refine z8 ?_|refine z4 ?_ _));refine zN (cs:=#[.int .u64 ((zx l2 x37_1).f0),.int .u64 0]) ?_ 1 _ rfl;(with_reducible repeat (first|refine z5 ?_ _|refine z8 ?_|refine z4 ?_ _));refine zN (cs:=#[.int .u64 0,.int .u64 0]) ?_ 0 _ rfl;(with_reducible repeat (first|refine z5 ?_ _|refine z8 ?_|refine z4 ?_ _));exact BK104.out) hg (Kd.z4q HO_10.out (fun _ hk=>hk.2)));have n1_:=z3.mk (hb);have n2_:=z3.mk (ho);clear BK104;clear HB;clear HO_10;have BK104:=n0_;have HB:=n1_;have HO107:=n2_;clear n0_ n1_ n2_;clear ho hb hg hat;obtain ⟨Ao31,co31,eo31⟩:=Kd.z10 HO107.out;subst eo31))
   have n0_:=z3.mk (Kd.zy HO107.out)
   have n1_:=z3.mk (z8 BK104.out)
   have n2_:=z3.mk (z1 HB.out)
   clear HO107
   clear BK104
   clear HB
   have HO107:=n0_
   have BK104:=n1_
   have HB:=n2_
   clear n0_ n1_ n2_
   have p108 : 0 ≤ ((ji20) : Int):=of_decide_eq_true (by first|(with_reducible assumption)|assumption)
   have q108 : (ji20) < (y105.length : Int):=of_decide_eq_true (by first|(with_reducible assumption)|assumption)
   obtain ⟨ad108,e108,hx108_0,hx108_1⟩:=z2b (Kd.zA HO107.out).2.2 (ji20) p108 q108
   cases e108
   replace p108:=eq_true p108
   replace q108:=eq_true q108
   refine start_ (n:=16) (S:=fun w'=>w'.cell? ⟨gb104,0,none⟩ = some (.int .u64 ((zx l2 x37_1).f0)) ∧ w'.cell? ⟨gb104,1,none⟩ = some (.int .u64 ((zx l2 x37_1).f1)) ∧ w'.cell? (ad108.add (((ji20)).toNat * 2)) = some (.int .u64 ((zx y105 (ji20)).f0)) ∧ w'.cell? ⟨(ad108.add (((ji20)).toNat * 2)).block,(ad108.add (((ji20)).toNat * 2)).off + 1,none⟩ = some (.int .u64 ((zx y105 (ji20)).f1))) (ds:=[15]) #[false,false,false,false,false,false,false,false,false,false,false,false,false,false,false,false] (by kernel_rfl) rfl rfl ⟨(ze BK104.out 0).trans rfl,(ze BK104.out 1).trans rfl,hx108_0,hx108_1⟩ (fun hHeld=>?_);refine z1C zm.tab16 zm.bits16 (fun HT_ HW_=>?_)
   generalize w30.drew = w32 at HO107 BK104 HB hx108_0 hx108_1 hHeld ⊢
   refine pure_ (i:=0) (N:=some 53) (v:=?_) (a':=?_) #[true,false,false,false,false,false,false,false,false,false,false,false,false,false,false,false] rfl rfl (zK HT_.out (by kernel_rfl)) (fun _ _ _ h=>h) (Or.inl ⟨by rfl,?_⟩) ?_ ?_
   rotate_left
   · intro w'
     go_simp
     with_reducible rfl
   rotate_left
   · simp only [Act.put,List.setIfInBounds_toArray,List.set_cons_zero,List.set_cons_succ,zD,zI]
     rfl
   refine pure_ (i:=1) (N:=some 54) (v:=?_) (a':=?_) #[true,true,false,false,false,false,false,false,false,false,false,false,false,false,false,false] rfl rfl (zK HT_.out (by kernel_rfl)) (fun _ _ _ h=>h) (Or.inl ⟨by rfl,?_⟩) ?_ ?_
   rotate_left
   · intro w'
     go_simp
     with_reducible rfl
   rotate_left
   · simp only [Act.put,List.setIfInBounds_toArray,List.set_cons_zero,List.set_cons_succ,zD,zI]
     rfl
   refine pure_ (i:=2) (N:=some 55) (v:=?_) (a':=?_) #[true,true,true,false,false,false,false,false,false,false,false,false,false,false,false,false] rfl rfl (zK HT_.out (by kernel_rfl)) (fun _ _ _ h=>h) (Or.inl ⟨by rfl,?_⟩) ?_ ?_
   rotate_left
   · intro w'
     go_simp
     with_reducible rfl
   rotate_left
   · simp only [Act.put,List.setIfInBounds_toArray,List.set_cons_zero,List.set_cons_succ,zD,zI]
     rfl
   refine pure_ (i:=3) (N:=some 56) (v:=?_) (a':=?_) #[true,true,true,true,false,false,false,false,false,false,false,false,false,false,false,false] rfl rfl (zK HT_.out (by kernel_rfl)) (fun _ _ _ h=>h) (Or.inl ⟨by rfl,?_⟩) ?_ ?_
   rotate_left
   · intro w'
     go_simp
     with_reducible rfl
   rotate_left
   · simp only [Act.put,List.setIfInBounds_toArray,List.set_cons_zero,List.set_cons_succ,zD,zI]
     rfl
   refine pure_ (i:=4) (N:=some 57) (v:=?_) (a':=?_) #[true,true,true,true,true,false,false,false,false,false,false,false,false,false,false,false] rfl rfl (zK HT_.out (by kernel_rfl)) (fun _ _ _ h=>h) (Or.inl ⟨by rfl,?_⟩) ?_ ?_
   rotate_left
   · intro w'
     go_simp
     with_reducible rfl
   rotate_left
   · simp only [Act.put,List.setIfInBounds_toArray,List.set_cons_zero,List.set_cons_succ,zD,zI]
     rfl
   refine pure_ (i:=7) (N:=some 60) (v:=?_) (a':=?_) #[true,true,true,true,true,false,false,true,false,false,false,false,false,false,false,false] rfl rfl (zK HT_.out (by kernel_rfl)) (fun _ _ _ h=>h) (Or.inl ⟨by rfl,?_⟩) ?_ ?_
   rotate_left
   · intro w'
     go_simp
     with_reducible rfl
   rotate_left
   · simp only [Act.put,List.setIfInBounds_toArray,List.set_cons_zero,List.set_cons_succ,zD,zI]
     rfl
   refine pure_ (i:=8) (N:=some 61) (v:=?_) (a':=?_) #[true,true,true,true,true,false,false,true,true,false,false,false,false,false,false,false] rfl rfl (zK HT_.out (by kernel_rfl)) (fun _ _ _ h=>h) (Or.inl ⟨by rfl,?_⟩) ?_ ?_
   rotate_left
   · intro w'
     go_simp
     with_reducible rfl
   rotate_left
   · simp only [Act.put,List.setIfInBounds_toArray,List.set_cons_zero,List.set_cons_succ,zD,zI]
     rfl
   refine pure_ (i:=9) (N:=some 62) (v:=?_) (a':=?_) #[true,true,true,true,true,false,false,true,true,true,false,false,false,false,false,false] rfl rfl (zK HT_.out (by kernel_rfl)) (fun _ _ _ h=>h) (Or.inl ⟨by rfl,?_⟩) ?_ ?_
   rotate_left
   · intro w'
     go_simp
     with_reducible rfl
   rotate_left
   · simp only [Act.put,List.setIfInBounds_toArray,List.set_cons_zero,List.set_cons_succ,zD,zI]
     rfl
   refine pure_ (i:=10) (N:=some 63) (v:=?_) (a':=?_) #[true,true,true,true,true,false,false,true,true,true,true,false,false,false,false,false] rfl rfl (zK HT_.out (by kernel_rfl)) (fun _ _ _ h=>h) (Or.inl ⟨by rfl,?_⟩) ?_ ?_
   rotate_left
   · intro w'
     go_simp
     with_reducible rfl
   rotate_left
   · simp only [Act.put,List.setIfInBounds_toArray,List.set_cons_zero,List.set_cons_succ,zD,zI]
     rfl
   refine pure_ (i:=11) (N:=some 64) (v:=?_) (a':=?_) #[true,true,true,true,true,false,false,true,true,true,true,true,false,false,false,false] rfl rfl (zK HT_.out (by kernel_rfl)) (fun _ _ _ h=>h) (Or.inl ⟨by rfl,?_⟩) ?_ ?_
   rotate_left
   · intro w'
     go_simp
     with_reducible rfl
   rotate_left
   · simp only [Act.put,List.setIfInBounds_toArray,List.set_cons_zero,List.set_cons_succ,zD,zI]
     rfl
   refine take_ (i:=5) (N:=some 58) (v:=?_) (a':=?_) #[true,true,true,true,true,true,false,true,true,true,true,true,false,false,false,false] rfl rfl (z1m HT_.out HW_.out (by kernel_rfl)) (fun _ _ _ h=>h) (Or.inl ⟨by rfl,?_⟩) hHeld ?_ ?_
   rotate_left
   · rintro w' ⟨s0,s1,s2,s3⟩
     go_simp
     with_reducible rfl
   rotate_left
   · simp only [Act.put,List.setIfInBounds_toArray,List.set_cons_zero,List.set_cons_succ,zD,zI]
     rfl
   refine take_ (i:=6) (N:=some 59) (v:=?_) (a':=?_) #[true,true,true,true,true,true,true,true,true,true,true,true,false,false,false,false] rfl rfl (z1m HT_.out HW_.out (by kernel_rfl)) (fun _ _ _ h=>h) (Or.inl ⟨by rfl,?_⟩) hHeld ?_ ?_
   rotate_left
   · rintro w' ⟨s0,s1,s2,s3⟩
     go_simp
     with_reducible rfl
   rotate_left
   · simp only [Act.put,List.setIfInBounds_toArray,List.set_cons_zero,List.set_cons_succ,zD,zI]
     rfl
   refine one_ (i:=12) (N:=some 65) #[true,true,true,true,true,true,true,true,true,true,true,true,true,false,false,false] rfl rfl (z1t HT_.out (by kernel_rfl)) (by decide) (fun K hK=>?_)
   refine goes_ Try.func71 (by kernel_rfl) rfl #[.agg #[.int .u64 ((zx l2 x37_1).f0),.int .u64 ((zx l2 x37_1).f1)],.int .i64 ji24] (by rfl) rfl rfl (by (try simp only [List.map_toArray,List.map_cons,List.map_nil]);first|done|(simp only [hji24];rfl)|rfl|(simp only [List.length_drop,List.length_take];rfl)) ?_
   with_reducible refine (z1c.calls ((zx l2 x37_1).f0) ((zx l2 x37_1).f1) ji24 t109 t110 _ A25.out).mono ?_
   rintro e w33 ⟨rfl,hb⟩
   have HS2_:=(hb.cell (World.block_lt_of_cell? _ _ (hHeld.2.2.1))).trans (hHeld.2.2.1)
   have HS3_:=(hb.cell (World.block_lt_of_cell? _ _ (hHeld.2.2.2))).trans (hHeld.2.2.2)
   refine ⟨_,rfl,?_⟩
   have n0_:=z3.mk (Kd.zG (by (with_reducible repeat (first|apply Kd.zr|apply Kd.zs|apply Kd.zy));exact HO107.out) hb)
   have n1_:=z3.mk (zn (g:=gb104) (o:=.cells #[.int .u64 ((zx l2 x37_1).f0),.int .u64 ((zx l2 x37_1).f1)] 51 (0,0)) (by (with_reducible repeat (first|refine z5 ?_ _|refine z8 ?_|refine z4 ?_ _));exact BK104.out) hb)
   have n2_:=z3.mk (zb (by repeat (first|(with_reducible first|exact HB.out|apply z2|apply z0|apply z1|refine z6 ?_ GE104.out)|exact HB.out)) hb)
   clear HO107
   clear BK104
   clear HB
   have HO107:=n0_
   have BK104:=n1_
   have HB:=n2_
   clear n0_ n1_ n2_
   (try clear hb)
   (try clear hb2)
   (try clear hk)
   (try clear hi)
   refine hK.out _ _ ⟨(ze BK104.out 0).trans rfl,(ze BK104.out 1).trans rfl,HS2_,HS3_⟩ (fun hHeld=>?_)
   clear hK K
   refine norm_ (a':=?_) ?_ ?_
   rotate_left
   · show Act.put _ (some 65) _ = _
     simp only [Act.put,List.setIfInBounds_toArray,List.set_cons_zero,List.set_cons_succ,zD,zI]
     rfl
   refine one_ (i:=13) (N:=some 66) #[true,true,true,true,true,true,true,true,true,true,true,true,true,true,false,false] rfl rfl (z1t HT_.out (by kernel_rfl)) (by decide) (fun K hK=>?_)
   refine goes_ Try.func40 (by kernel_rfl) rfl #[.agg #[.int .u64 ((zx y105 (ji20)).f0),.int .u64 ((zx y105 (ji20)).f1)],.agg #[.int .u64 t109,.int .u64 t110]] (by rfl) rfl rfl (by (try simp only [List.map_toArray,List.map_cons,List.map_nil]);first|done|(simp only [hji20];rfl)|rfl|(simp only [List.length_drop,List.length_take];rfl)) ?_
   with_reducible refine (z1l.calls ((zx y105 (ji20)).f0) ((zx y105 (ji20)).f1) t109 t110 t111 t112 _ A26.out).mono ?_
   rintro e w34 ⟨rfl,hb⟩
   have HS2_:=(hb.cell (World.block_lt_of_cell? _ _ (hHeld.2.2.1))).trans (hHeld.2.2.1)
   have HS3_:=(hb.cell (World.block_lt_of_cell? _ _ (hHeld.2.2.2))).trans (hHeld.2.2.2)
   refine ⟨_,rfl,?_⟩
   have n0_:=z3.mk (Kd.zG (by (with_reducible repeat (first|apply Kd.zr|apply Kd.zs|apply Kd.zy));exact HO107.out) hb)
   have n1_:=z3.mk (zn (g:=gb104) (o:=.cells #[.int .u64 ((zx l2 x37_1).f0),.int .u64 ((zx l2 x37_1).f1)] 51 (0,0)) (by (with_reducible repeat (first|refine z5 ?_ _|refine z8 ?_|refine z4 ?_ _));exact BK104.out) hb)
   have n2_:=z3.mk (zb (by repeat (first|(with_reducible first|exact HB.out|apply z2|apply z0|apply z1|refine z6 ?_ GE104.out)|exact HB.out)) hb)
   clear HO107
   clear BK104
   clear HB
   have HO107:=n0_
   have BK104:=n1_
   have HB:=n2_
   clear n0_ n1_ n2_
   (try clear hb)
   (try clear hb2)
   (try clear hk)
   (try clear hi)
   have p27 : 0 ≤ ((ji20) : Int):=of_decide_eq_true (by first|(with_reducible assumption)|assumption)
   have q27 : ((ji20) : Int) < ((y105.length : Int) : Int):=of_decide_eq_true (by first|(with_reducible assumption)|assumption)
   obtain ⟨go27,co27,eo27,gb27,gl27,cl27,HG27⟩:=Kd.R_form HO107.out (by omega)
   (first|cases eo27|(injection eo27 with ea_ en_ ec_;(first|subst ea_|(injection ea_ with ea_;subst ea_));subst ec_;clear en_))
   have GB27:=z3.mk gb27
   have GG27:=z3.mk HG27
   clear gb27 gl27 HG27
   (first|simp only [z2a] at hx108_0|skip)
   (first|simp only [z2a] at hx108_1|skip)
   obtain ⟨ce27,hcl27,hM27,hcc27,hfr27⟩:=Kd.z4r HO107.out z51 ((ji20) : Int) p27 q27
   obtain rfl:=z2f hM27
   have hx27_0 : World.cell? _ ⟨go27,((ji20) : Int).toNat * 2,none⟩ = some (.int .u64 ((zx y105 (ji20)).f0)):=hcc27 0 _ rfl
   have hx27_1 : World.cell? _ ⟨go27,((ji20) : Int).toNat * 2 + 1,none⟩ = some (.int .u64 ((zx y105 (ji20)).f1)):=hcc27 1 _ rfl
   have hf27_0 : World.frozen? _ ⟨go27,((ji20) : Int).toNat * 2,none⟩ = false:=hfr27 0
   have hf27_1 : World.frozen? _ ⟨go27,((ji20) : Int).toNat * 2 + 1,none⟩ = false:=hfr27 1
   clear hcl27 hcc27 hfr27 hM27
   replace p27:=eq_true p27
   replace q27:=eq_true q27
   obtain ⟨ce35,hcl35,hM35,hcc35,hfr35⟩:=Kd.z4r HO107.out z51 ((ji20) : Int) (of_decide_eq_true (by first|(with_reducible assumption)|assumption)) (by have h_ : ((ji20) : Int) < ((y105.length : Int) : Int):=of_decide_eq_true (by first|(with_reducible assumption)|assumption);first|exact h_|(have e_:=(Kd.zA HO107.out).1;omega)|simpa using h_)
   obtain rfl:=z2f hM35
   have HP35:=(Kd.R_seg HO107.out ((ji20) : Int) (of_decide_eq_true (by first|(with_reducible assumption)|assumption)) (by have h_ : ((ji20) : Int) < ((y105.length : Int) : Int):=of_decide_eq_true (by first|(with_reducible assumption)|assumption);first|exact h_|(have e_:=(Kd.zA HO107.out).1;omega)|simpa using h_) (seg:=[.int .u64 t111,.int .u64 t112]) (j:=0) hcl35 hcc35 (show 2 ≤ 2 from by decide) (x':=(⟨t111,t112⟩ : S51)) (z1j _ _ _ (⟨t111,t112⟩ : S51) ) (fun _ hk=>hk)).1
   rw [← Ny113.out] at HP35
   have HQ35:=z3.mk HP35
   clear hcl35 hcc35 hfr35 hM35 HP35
   refine hK.out _ _ ⟨(ze BK104.out 0).trans rfl,(ze BK104.out 1).trans rfl,HS2_,HS3_⟩ (fun hHeld=>?_)
   clear hK K
   refine norm_ (a':=?_) ?_ ?_
   rotate_left
   · show Act.put _ (some 66) _ = _
     simp only [Act.put,List.setIfInBounds_toArray,List.set_cons_zero,List.set_cons_succ,zD,zI]
     rfl
   refine pure_ (i:=14) (N:=some 67) (v:=?_) (a':=?_) #[true,true,true,true,true,true,true,true,true,true,true,true,true,true,true,false] rfl rfl (zK HT_.out (by kernel_rfl)) (fun _ _ _ h=>h) (Or.inl ⟨by rfl,?_⟩) ?_ ?_
   rotate_left
   · intro w'
     go_simp
     with_reducible rfl
   rotate_left
   · simp only [Act.put,List.setIfInBounds_toArray,List.set_cons_zero,List.set_cons_succ,zD,zI]
     rfl
   refine last_ (i:=15) (N:=none) #[true,true,true,true,true,true,true,true,true,true,true,true,true,true,true,true] rfl rfl (z1t HT_.out (by kernel_rfl)) (by decide) (fun K hK=>?_)
   refine skip_ (w1:=?_) (by rfl) rfl ?_ ?_
   rotate_left
   · go_simp
     rfl
   refine hK.out _ _ ?_
   clear hK K
   refine done_ (z1Z HT_.out (by kernel_rfl)) ?_
   try go_wp2
   go_roundg k1
   case measure=>have:=HK1.out;omega
   case rel=>exact ⟨(y113),(wrap64 (x37_1 + 1)),(by first|rfl|(simp;done)|(simp [*];done)),H',⟨by have:=HK1.out;omega⟩,⟨by (with_reducible repeat (first|apply Kd.zr|apply Kd.zs|apply Kd.zy));exact Kd.z1e HQ35.out (fun _ hk=>trivial)⟩,⟨by repeat (first|(with_reducible first|exact HB.out|apply z2|apply z0|apply z1|refine z6 ?_ GB27.out|refine z6 ?_ GB27.out|refine z6 ?_ GE104.out)|exact HB.out)⟩⟩
end Go.Proofs.Ytngcaphdkgihmaa.P
namespace Go.Proofs.Ytngcaphdkgihmaa.P
open Go.RowKit Go.Proofs.YtngcaphdkgihmaaW.PrintWords Go.Proofs.YtngcaphdkgihmaaW.PrintLast Go.Proofs.YtngcaphdkgihmaaW.PrintMore
attribute [local go_sem] zW zY z15 z16 zQ zR zX zZ   -- for this text's walks alone
set_option linter.unusedVariables false
set_option linter.unusedSimpArgs false
theorem eqA51 (d : Nat) (w : World) (x0 y0 : Int) (x1 y1 : Int) :
 (Op.equalIn (d + 2) 51 (.agg #[.int .u64 x0,.int .u64 x1]) (.agg #[.int .u64 y0,.int .u64 y1])).run Try.prog w = .ok (x0 == y0 && (x1 == y1)) w:=by
 refine eqA_of Try.underlying51 (by kernel_rfl) ?_
 refine z4y (by rfl) (by go_simp;rfl) (by go_simp;rfl) (by go_simp) ?_
 exact z4z (by rfl) (by go_simp;rfl) (by go_simp;rfl) (by go_simp)
end Go.Proofs.Ytngcaphdkgihmaa.P
/- Own words beside the print's: a cut with a capacity of its own. Own text. -/
namespace Go.Proofs.YtngcaphdkgihmaaW.PrintWords
open Go.RowKit
section
variable {P : Program}
theorem cut_mid3 (t e : TypeId) (kl kh km : IntKind) {i : TypeInfo} (ht : P.underlying t = some (.slice e)) (hi : P.info? e = some i) (size : Nat) (hsz : i.size = size) (A : Option Addr) (n c : Nat) (lo hi' : Int) (h0 : 0 ≤ lo) (h1 : lo ≤ hi') (h2 : hi' ≤ n) (hc : n ≤ c) :
    ∀ W : World, (Instr.slice t (.slice A n c) (some (.int kl lo)) (some (.int kh hi')) (some (.int km hi'))).run P W = .ok (.slice (if hi'.toNat = lo.toNat then A else A.map (·.add (lo.toNat * size))) (hi'.toNat - lo.toNat) (Nat.sub hi'.toNat lo.toNat)) W := by
  intro W
  have hel : P.elem t = e := by simp [Program.elem, ht]
  have hu : P.underlying t = some (.slice (P.elem t)) := by rw [hel]; exact ht
  have e1 : (hi'.toNat : Int) = hi' := Int.toNat_of_nonneg (by omega)
  have e2 : (lo.toNat : Int) = lo := Int.toNat_of_nonneg (by omega)
  rw [run_slice_any _ _ _ _ _ hu, hel]
  have hb : (Instr.sliceBounds true n c (some (.int kl lo)) (some (.int kh hi')) (some (.int km hi'))).run P W = .ok (lo.toNat, hi'.toNat, hi'.toNat) W := by
    have b1 : hi' ≤ (c : Int) := by omega
    have b2 : 0 ≤ hi' := by omega
    simp [Instr.sliceBounds, run_sliceBound, h0, h1, b1, b2, e1]
  rw [hb]
  simp [sizeOf, typeInfo, hi, hsz, sliced, Result.andThen]
end
end Go.Proofs.YtngcaphdkgihmaaW.PrintWords
namespace Go.Proofs.YtngcaphdkgihmaaW.PrintWords.Kd
section
variable {α : Type} {k : Kd α} {w W : World} {A : Option Addr} {xs : List α} {ok : Nat → Prop}
theorem C_mid3 {lo hi : Nat} (h : k.C w A xs.length xs) (h1 : lo ≤ hi) (h2 : hi ≤ xs.length) : k.C w (if hi = lo then A else A.map (·.add (lo * k.sz))) ((xs.take hi).drop lo).length ((xs.take hi).drop lo) := by
  have hl : (xs.take hi).length = hi := by rw [List.length_take]; omega
  exact C_drop (C_take h h2) (by omega) (by omega)
theorem F_mid3 {lo hi : Nat} (h : F k W ok A xs.length xs) (h1 : lo ≤ hi) (h2 : hi ≤ xs.length) : F k W ok (if hi = lo then A else A.map (·.add (lo * k.sz))) ((xs.take hi).drop lo).length ((xs.take hi).drop lo) := F_imp h (fun _ hC => C_mid3 hC h1 h2)
end
end Go.Proofs.YtngcaphdkgihmaaW.PrintWords.Kd
namespace Go.Proofs.Ytngcaphdkgihmaa.P
open Go.RowKit Go.Proofs.YtngcaphdkgihmaaW.PrintWords Go.Proofs.YtngcaphdkgihmaaW.PrintLast Go.Proofs.YtngcaphdkgihmaaW.PrintMore
attribute [local go_sem] zW zY z15 z16 zQ zR zX zZ   -- for this text's walks alone
set_option linter.unusedVariables false
set_option linter.unusedSimpArgs false
def z1i.f (l0 : List S51) : Option (List S51):=if l0.length < 8796093022208 then some l0 else none
set_option maxHeartbeats 800000 in
set_option maxRecDepth 100000 in
theorem z1i.calls (A0 : Option Addr) (c0 : Nat) (l0 : List S51) (r : List S51) (w : World) (hr0 : Kd.C k51 w A0 l0.length l0) (hc0 : l0.length ≤ c0) (h : z1i.f l0 = some r) :
 Calls Try.prog 64 #[.slice A0 l0.length c0] w fun e w'=>∃ v0_ : Value,e = .returned (v0_) ∧ Kd.R k51 51 w' w.heap.size (fun _=>True) v0_ r ∧ Below w.heap.size w w':=by
 have hlen : l0.length < 8796093022208 ∧ r = l0:=by
  unfold z1i.f at h
  split at h
  · exact ⟨by assumption,(Option.some.inj h).symm⟩
  · cases h
 obtain ⟨hlen,rfl⟩:=hlen
 have HB:=z3.mk (Below.refl w.heap.size w)
 have HR:=z3.mk hr0
 have HL:=z3.mk hlen
 clear h hlen
 cases A0 with
 | none =>
  have h0 : r = []:=by
   rcases Nat.eq_zero_or_pos r.length with h0|h0
   · exact List.eq_nil_of_length_eq_zero h0
   · obtain ⟨ad,h,_⟩:=HR.out.2.2 h0
     cases h
  subst h0
  clear hr0
  have he : ∀ w : World,(binOp .eql 37 (.slice none 0 c0) (.slice none 0 0)).run Try.prog w = .ok (.bool true) w:=fun _=>rfl
  go_enter Try.func64,Try.ntmps64
  go_wp2
  go_ret
  exact ⟨_,rfl,Kd.z1L _ _ _ _ _,HB.out⟩
 | some a =>
  clear hr0
  have he : ∀ w : World,(binOp .eql 37 (.slice (some a) r.length c0) (.slice none 0 0)).run Try.prog w = .ok (.bool false) w:=fun _=>rfl
  go_enter Try.func64,Try.ntmps64
  go_wp2_with (first
   | ((with_reducible refine zE (N:=5) rfl ?_);refine Kd.z3D k51 (w0:=w) w.heap.size 51 ?hg (N:=5) ?hd (xs:=([] : List S51)) (inner:=[]) (ok:=fun _=>True) (okp:=fun _=>True) ?hr ?hp (fun _ hk=>hk) trivial HB.out (zc HB.out) (by simp) ?_;(case hd=>rfl);(case hg=>rfl);(case hr=>first|(go_simp;done)|(go_simp;rfl));(case hp=>exact Reps.none _ _);intro v1 w1 ho hb hg hat;have n0_:=z3.mk ho;have n1_:=z3.mk hb;clear HB ho hb hg hat;have HO:=n0_;have HB:=n1_;clear n0_ n1_)
   | ((with_reducible refine z1E (b:=.append) (xs:=#[.tmp 5,.tmp 6]) rfl ?_);at_builtin;refine Kd.z3B k51 (w0:=w) w.heap.size rfl (.tmp 5) (.tmp 6) 37 51 (.agg #[(.int .u64 0),(.int .u64 0)]) 16 rfl Try.underlying37 info51 rfl (by decide) (by omega) v1 [] r _ _ _ (fun _=>True) (fun _=>False) rfl rfl ?aO ?aR (fun _ _ h=>h) (fun _ h=>h.elim) ?aF ?aB ?aS ?aL ?_;(case aR=>exact (Kd.z1y HR.out HB.out));(case aB=>exact HB.out);(case aF=>exact fun _ _=>trivial);(case aO=>exact HO.out);(case aS=>exact (zc HB.out));(case aL=>have:=HL.out;simp only [List.length_nil];omega);intro v2 w2 ho hb hg hat;have n0_:=z3.mk ho;have n1_:=z3.mk hb;clear HB HO ho hb hg hat;have HO:=n0_;have HB:=n1_;clear n0_ n1_))
  go_ret
  exact ⟨_,rfl,HO.out,HB.out⟩
end Go.Proofs.Ytngcaphdkgihmaa.P
namespace Go.Proofs.Ytngcaphdkgihmaa.P
open Go.RowKit Go.Proofs.YtngcaphdkgihmaaW.PrintWords Go.Proofs.YtngcaphdkgihmaaW.PrintLast Go.Proofs.YtngcaphdkgihmaaW.PrintMore
attribute [local go_sem] zW zY z15 z16 zQ zR zX zZ   -- for this text's walks alone
set_option linter.unusedVariables false
set_option linter.unusedSimpArgs false
def zU.l0 : Nat → Int → List (S51) → List (List (S51)) → Int → Option ((List (List (S51))) × Int)
 | 0,_,_,_,_=>none
 | k + 1,x1,x6,x7,x8=>if x8 < (x6.length : Int) then (if 0 ≤ x8 then (if x8 ≤ (wrap64 (x8 + x1)) then (if (wrap64 (x8 + x1)) ≤ (x6.length : Int) then (if x7.length < 5864062014805 then (zU.l0 k x1 x6 (x7 ++ [((x6.take ((wrap64 (x8 + x1)) : Int).toNat).drop (x8 : Int).toNat)]) (wrap64 (x8 + x1))) else (none)) else (none)) else (none)) else (none)) else (some (x7,0))
def zU.f (k : Nat) (l0 : List (S51)) (a1 : Int) : Option ((List (List (S51))) × Int):=if a1 < 1 then (some (([] : List (List (S51))),1)) else (if a1 = 0 then (none) else (if ((l0.length : Int) % a1) = 0 then ((z1i.f l0).bind fun t101=>(zU.l0 k a1 t101 ([] : List (List (S51))) 0)) else (some (([] : List (List (S51))),6))))
theorem zU.z13 : ∀ k,(∀ y0 y1 y2 y3,LeO (zU.l0 k y0 y1 y2 y3) (zU.l0 (k + 1) y0 y1 y2 y3))
 | 0=>fun _ _ _ _ r h=>by simp [zU.l0] at h
 | k + 1=>by
  have ih0:=zU.z13 k
  · intro y0 y1 y2 y3
    unfold zU.l0
    repeat' first
    | (with_reducible exact ih0 _ _ _ _)
    | (with_reducible exact LeO.refl _)
    | (with_reducible exact LeO.none _)
    | (with_reducible refine LeO.ite ?_ ?_)
    | (with_reducible refine LeO.bind ?_ (fun _=>?_))
    | exact ih0 _ _ _ _
    | exact LeO.none _
    | refine LeO.ite ?_ ?_
    | refine LeO.bind ?_ (fun _=>?_)
theorem zU.mono : ∀ a0 a1 k,LeO (zU.f k a0 a1) (zU.f (k + 1) a0 a1):=by
 intro a0 a1 k
 have ih0:=zU.z13 k
 unfold zU.f
 repeat' first
  | (with_reducible exact ih0 _ _ _ _)
  | (with_reducible exact LeO.refl _)
  | (with_reducible exact LeO.none _)
  | (with_reducible refine LeO.ite ?_ ?_)
  | (with_reducible refine LeO.bind ?_ (fun _=>?_))
  | exact ih0 _ _ _ _
  | exact LeO.none _
  | refine LeO.ite ?_ ?_
  | refine LeO.bind ?_ (fun _=>?_)
set_option maxHeartbeats 8000000 in
set_option maxRecDepth 100000 in
theorem zU.calls (k : Nat) (A0 : Option Addr) (c0 : Nat) (l0 : List (S51)) (a1 : Int) (r1 : List (List (S51))) (r2 : Int) (w : World) (hr0 : Kd.C k51 w A0 l0.length l0) (hc0 : l0.length ≤ c0) (h : zU.f k l0 a1 = some (r1,r2)) :
 Calls Try.prog 24 #[.slice A0 l0.length c0,.int .i64 a1] w fun e w'=>∃ v0_ : Value,e = .returned (.tuple #[v0_,.int .i64 r2]) ∧ Kd.N (Kd.slice 51 k51) 37 w' w.heap.size (fun k_=>(w.heap.size ≤ k_)) v0_ r1 ∧ Below w.heap.size w w':=by
 have HR0:=z3.mk hr0
 have HC0:=z3.mk hc0
 clear hr0 hc0
 have HB:=z3.mk (Below.refl w.heap.size w)
 have H : (if a1 < 1 then (some (([] : List (List (S51))),1)) else (if a1 = 0 then (none) else (if ((l0.length : Int) % a1) = 0 then ((z1i.f l0).bind fun t101=>(zU.l0 k a1 t101 ([] : List (List (S51))) 0)) else (some (([] : List (List (S51))),6))))) = some (r1,r2):=h
 clear h
 by_cases c3 : a1 < 1
 · rw [if_pos c3] at H
   have c3b0 : decide (a1 < 1) = true:=decide_eq_true c3
   clear c3
   simp only [Option.some.injEq,Prod.mk.injEq] at H
   obtain ⟨rfl,rfl⟩:=H
   go_enter Try.func24,Try.ntmps24
   go_wp2
   go_ret2
   exact ⟨_,by first|rfl|(simp [zg,zh] <;> rfl)|(simp [*,zg,zh] <;> rfl),by first|exact Kd.z1U _ _ _ _ _|exact Kd.z1S _ _ _ _ _|exact Kd.z1V _ _ _ _ _|exact Kd.z1T _ _ _ _ _|exact Kd.z1L _ _ _ _ _,by repeat (first|(with_reducible first|exact HB.out|apply z2|apply z0|apply z1)|exact HB.out)⟩
 rw [if_neg c3] at H
 have c3b0 : decide (a1 < 1) = false:=decide_eq_false c3
 clear c3
 by_cases c4 : a1 = 0
 · rw [if_pos c4] at H
   exact absurd H (by simp)
 rw [if_neg c4] at H
 have c4b0 : (a1 == 0) = false:=beq_eq_false_iff_ne.mpr c4
 have c4b1 : (a1 != 0) = true:=bne_iff_ne.mpr c4
 by_cases c5 : ((l0.length : Int) % a1) = 0
 rotate_left
 · rw [if_neg c5] at H
   have c5b0 : (((l0.length : Int) % a1) == 0) = false:=beq_eq_false_iff_ne.mpr c5
   have c5b1 : (((l0.length : Int) % a1) != 0) = true:=bne_iff_ne.mpr c5
   simp only [Option.some.injEq,Prod.mk.injEq] at H
   obtain ⟨rfl,rfl⟩:=H
   go_enter Try.func24,Try.ntmps24
   go_wp2
   go_ret2
   exact ⟨_,by first|rfl|(simp [zg,zh] <;> rfl)|(simp [*,zg,zh] <;> rfl),by first|exact Kd.z1U _ _ _ _ _|exact Kd.z1S _ _ _ _ _|exact Kd.z1V _ _ _ _ _|exact Kd.z1T _ _ _ _ _|exact Kd.z1L _ _ _ _ _,by repeat (first|(with_reducible first|exact HB.out|apply z2|apply z0|apply z1)|exact HB.out)⟩
 rw [if_pos c5] at H
 have c5b0 : (((l0.length : Int) % a1) == 0) = true:=beq_iff_eq.mpr c5
 have c5b1 : (((l0.length : Int) % a1) != 0) = false:=bne_eq_false_iff_eq.mpr c5
 clear c5
 replace H:=Option.bind_eq_some_iff.mp H
 obtain ⟨t101,A60,H⟩:=H
 replace H : (zU.l0 k a1 t101 ([] : List (List (S51))) 0) = some (r1,r2):=H
 have A6:=z3.mk A60
 clear A60
 have H':=z3.mk H
 clear H
 go_enter Try.func24,Try.ntmps24
 go_wp2_with (first|((with_reducible refine zl (f:=64) rfl ?_);refine goesL_ (some 19) rfl rfl Try.func64 (by kernel_rfl) rfl #[.slice A0 l0.length c0] rfl (by (try simp only [List.map_toArray,List.map_cons,List.map_nil]);first|done|rfl|(simp only [List.length_drop,List.length_take];rfl)) ?_;(with_reducible refine (z1i.calls _ _ l0 t101 _ ?side1 ?side2 A6.out).mono ?_);(case side1=>repeat (first|exact HR0.out|(with_reducible refine Kd.zS ?_ _)|(with_reducible refine Kd.zT ?_ _)|(with_reducible refine Kd.z14 ?_)));(case side2=>exact HC0.out);rintro e w7 ⟨v102,rfl,ho0,hb⟩;refine ⟨_,rfl,?_⟩;have n0_:=z3.mk (Kd.z1b (Kd.R_newM (M:=fun k_=>(w.heap.size ≤ k_)) ho0 (zc (by repeat (first|(with_reducible first|exact HB.out|apply z2|apply z0|apply z1)|exact HB.out))) (fun k_ h_=>h_)) (zc (by repeat (first|(with_reducible first|exact HB.out|apply z2|apply z0|apply z1)|exact HB.out))));have n1_:=z3.mk (zb (by repeat (first|(with_reducible first|exact HB.out|apply z2|apply z0|apply z1)|exact HB.out)) hb);clear HB;have HO103:=n0_;have HB:=n1_;clear n0_ n1_;(try clear hb);(try clear hb2);(try clear hk);(try clear hi);(try clear ho0)))
 go_loopg [7,8] k (fun kq v7 v8 w'=>∃ (x7_1 : List (List (S51))) (x8_1 : Int),v8 = .int .i64 x8_1 ∧ z3 (zU.l0 kq a1 t101 x7_1 x8_1 = some (r1,r2)) ∧ z3 (kq ≤ k) ∧ z3 (Kd.R k51 51 w' w.heap.size (fun k_=>(w.heap.size ≤ k_)) v102 t101) ∧ z3 (Kd.N (Kd.slice 51 k51) 37 w' w.heap.size (fun k_=>(w.heap.size ≤ k_)) v7 x7_1) ∧ z3 (Below w.heap.size w w'))
 case atStart=>exact ⟨(([] : List (List (S51)))),(0),(by first|rfl|(simp;done)|(simp [*];done)),H',⟨Nat.le_refl _⟩,⟨by (with_reducible repeat (first|apply Kd.zr|apply Kd.zs|apply Kd.zy));exact Kd.z1e HO103.out (fun _ hk=>hk.1)⟩,⟨by first|exact Kd.z1U _ _ _ _ _|exact Kd.z1S _ _ _ _ _|exact Kd.z1V _ _ _ _ _|exact Kd.z1T _ _ _ _ _|exact Kd.z1L _ _ _ _ _⟩,⟨by repeat (first|(with_reducible first|exact HB.out|apply z2|apply z0|apply z1)|exact HB.out)⟩⟩
 case round =>
  clear H'
  (try clear c2);(try clear p2);(try clear c3);(try clear c3b0);(try clear c4);(try clear c4b0);(try clear c4b1);(try clear c5);(try clear c5b0);(try clear c5b1);(try clear c6)
  obtain ⟨x7_1,x8_1,rfl,HA,HK1,HO_6,HO_7,HB⟩:=hrel
  cases gk with
  | zero=>exact absurd HA.out (by simp [zU.l0])
  | succ k1 =>
   have H:=HA.out
   clear HA
   simp only [zU.l0] at H
   by_cases c8 : x8_1 < (t101.length : Int)
   rotate_left
   · rw [if_neg c8] at H
     have c8b0 : decide (x8_1 < (t101.length : Int)) = false:=decide_eq_false c8
     clear c8
     simp only [Option.some.injEq,Prod.mk.injEq] at H
     obtain ⟨rfl,rfl⟩:=H
     obtain ⟨Ao16,co16,eo16⟩:=Kd.z10 HO_6.out
     subst eo16
     go_wp2
     go_ret2
     exact ⟨_,by first|rfl|(simp [zg,zh] <;> rfl)|(simp [*,zg,zh] <;> rfl),by (with_reducible repeat (first|apply Kd.z3y|apply Kd.z3z|apply Kd.z4p));exact HO_7.out,by repeat (first|(with_reducible first|exact HB.out|apply z2|apply z0|apply z1)|exact HB.out)⟩
   rw [if_pos c8] at H
   have c8b0 : decide (x8_1 < (t101.length : Int)) = true:=decide_eq_true c8
   clear c8
   by_cases c9 : 0 ≤ x8_1
   rotate_left
   · rw [if_neg c9] at H
     exact absurd H (by simp)
   rw [if_pos c9] at H
   have c9b0:=eq_true c9
   have c9b1 : decide (0 ≤ x8_1) = true:=decide_eq_true c9
   clear c9
   by_cases c10 : x8_1 ≤ (wrap64 (x8_1 + a1))
   rotate_left
   · rw [if_neg c10] at H
     exact absurd H (by simp)
   rw [if_pos c10] at H
   have c10b0:=eq_true c10
   have c10b1 : decide (x8_1 ≤ (wrap64 (x8_1 + a1))) = true:=decide_eq_true c10
   by_cases c11 : (wrap64 (x8_1 + a1)) ≤ (t101.length : Int)
   rotate_left
   · rw [if_neg c11] at H
     exact absurd H (by simp)
   rw [if_pos c11] at H
   have c11b0:=eq_true c11
   have c11b1 : decide ((wrap64 (x8_1 + a1)) ≤ (t101.length : Int)) = true:=decide_eq_true c11
   obtain ⟨y104,hy104⟩ : ∃ y_ : List (S51),y_ = ((t101.take ((wrap64 (x8_1 + a1)) : Int).toNat).drop (x8_1 : Int).toNat):=⟨_,rfl⟩
   replace H : (if x7_1.length < 5864062014805 then (zU.l0 k1 a1 t101 (x7_1 ++ [y104]) (wrap64 (x8_1 + a1))) else (none)) = some (r1,r2):=by first|(rw [hy104];with_reducible exact H)|(have H2_:=(Option.bind_some _ _).symm.trans H;rw [hy104];with_reducible exact H2_)|(have H2_:=(Option.bind_some _ _).symm.trans H;with_reducible exact H2_)|with_reducible exact H|(rw [hy104];exact H)|exact H
   have Ny104:=z3.mk hy104
   clear hy104
   by_cases c12 : x7_1.length < 5864062014805
   rotate_left
   · rw [if_neg c12] at H
     exact absurd H (by simp)
   rw [if_pos c12] at H
   have LMc12:=z3.mk c12
   clear c12
   obtain ⟨y109,hy109⟩ : ∃ y_ : List (List (S51)),y_ = (x7_1 ++ [y104]):=⟨_,rfl⟩
   replace H : (zU.l0 k1 a1 t101 y109 (wrap64 (x8_1 + a1))) = some (r1,r2):=by first|(rw [hy109];with_reducible exact H)|(have H2_:=(Option.bind_some _ _).symm.trans H;rw [hy109];with_reducible exact H2_)|(have H2_:=(Option.bind_some _ _).symm.trans H;with_reducible exact H2_)|with_reducible exact H|(rw [hy109];exact H)|exact H
   have Ny109:=z3.mk hy109
   clear hy109
   have H':=z3.mk H
   clear H
   obtain ⟨Ao13,co13,eo13⟩:=Kd.z10 HO_6.out
   subst eo13
   have q14 : ((wrap64 (x8_1 + a1)) : Int) ≤ ((t101.length : Int) : Int):=of_decide_eq_true (by first|(with_reducible assumption)|assumption)
   obtain ⟨i014,hi014,_,hsz14,_⟩:=info_parts info51
   have hroom14 : t101.length ≤ co13:=(Kd.zA HO_6.out).2.1
   have hC14 : Kd.F k51 _ _ Ao13 t101.length t101:=(Kd.V_at (base:=w.heap.size) (Kd.R_V (Kd.R_apart' (HO_6.out) (Kd.z58 HO_7.out) (by decide)))).2.2
   have ql14 : (x8_1 : Int) ≤ ((wrap64 (x8_1 + a1)) : Int):=of_decide_eq_true (by first|(with_reducible assumption)|assumption)
   have q014 : (0 : Int) ≤ (x8_1 : Int):=of_decide_eq_true (by first|(with_reducible assumption)|assumption)
   have hcut14:=cut_mid3 (P:=Try.prog) 37 51 .i64 .i64 .i64 Try.underlying37 hi014 2 hsz14 Ao13 t101.length co13 x8_1 (wrap64 (x8_1 + a1)) q014 ql14 q14 hroom14
   have hr14:=Kd.F_mid3 (lo:=(x8_1 : Int).toNat) (hi:=((wrap64 (x8_1 + a1)) : Int).toNat) hC14 (by omega) (by omega)
   obtain ⟨A14,hA14⟩ : ∃ A1,A1 = (if ((wrap64 (x8_1 + a1)) : Int).toNat = (x8_1 : Int).toNat then Ao13 else (Ao13 : Option Addr).map (·.add ((x8_1 : Int).toNat * 2))):=⟨_,rfl⟩
   obtain ⟨c14,hc14⟩ : ∃ c1,c1 = Nat.sub ((wrap64 (x8_1 + a1)) : Int).toNat (x8_1 : Int).toNat:=⟨_,rfl⟩
   have hy14 : y104.length = ((wrap64 (x8_1 + a1)) : Int).toNat - (x8_1 : Int).toNat:=(by rw [Ny104.out,List.length_drop,List.length_take] <;> omega)
   rw [show ((t101).take ((wrap64 (x8_1 + a1)) : Int).toNat).drop (x8_1 : Int).toNat = y104 from Ny104.out.symm] at hr14
   replace hr14 : Kd.F k51 _ _ A14 y104.length y104:=(by rw [hA14];exact hr14)
   rw [← hy14,← hA14,← hc14] at hcut14
   have HO108:=z3.mk (show Kd.V k51 51 _ w.heap.size _ (.slice A14 y104.length c14) y104 from Kd.V_mk (by rw [hy14,hc14];exact Nat.sub_le_sub_right (Nat.le_refl _) _) hr14)
   have HC108:=z3.mk (show y104.length ≤ c14 from by rw [hy14,hc14];exact Nat.sub_le_sub_right (Nat.le_refl _) _)
   clear hr14 hC14 hroom14 hi014 hsz14 hc14
   have KY14:=z3.mk hy14
   have KA14:=z3.mk hA14
   clear hy14 hA14
   replace q14:=eq_true q14
   go_wp2_with (first|((with_reducible refine z1E (b:=.append) (xs:=#[.tmp 27,.tmp 37]) rfl ?_);at_builtin;refine Kd.N_append (Kd.slice 51 k51) (w0:=w) w.heap.size rfl (.tmp 27) (.tmp 37) 38 37 (.slice none 0 0) 24 rfl Try.underlying38 info37 rfl (by decide) (by omega) u7 x7_1 y104 [.slice A14 y104.length c14] (fun k_=>(w.heap.size ≤ k_)) (fun k_=>((fun k_=>(w.heap.size ≤ k_))) k_ ∧ some k_ ≠ (u7 : Value).ownBlock) rfl rfl ?aP (fun _ hk=>hk) ?aF ?aO ?aB ?aS ?aL ?_;(case aP=>exact (Kd.z4h (Kd.V_reads' (Kd.V_mono (ok':=(fun k_=>((fun k_=>(w.heap.size ≤ k_))) k_ ∧ some k_ ≠ (u7 : Value).ownBlock)) (HO108.out) (fun k_ hk=>⟨hk.1,hk.2⟩))).2.1 (Kd.V_F (Kd.V_mono (ok':=(fun k_=>((fun k_=>(w.heap.size ≤ k_))) k_ ∧ some k_ ≠ (u7 : Value).ownBlock)) (HO108.out) (fun k_ hk=>⟨hk.1,hk.2⟩)))));(case aB=>exact (by repeat (first|(with_reducible first|exact HB.out|apply z2|apply z0|apply z1)|exact HB.out)));(case aF=>exact (fun k_ hk=>(Nat.le_trans (zc (by repeat (first|(with_reducible first|exact HB.out|apply z2|apply z0|apply z1)|exact HB.out))) hk)));(case aO=>exact (by (with_reducible repeat (first|apply Kd.z3y|apply Kd.z3z|apply Kd.z4p));exact HO_7.out));(case aS=>exact (zc (by repeat (first|(with_reducible first|exact HB.out|apply z2|apply z0|apply z1)|exact HB.out))));(case aL=>have:=LMc12.out;omega);intro v110 w15 ho hb hg hat;rw [← Ny109.out] at ho;have n0_:=z3.mk (Kd.R_over' (by (with_reducible repeat (first|apply Kd.zr|apply Kd.zs|apply Kd.zy));exact HO_6.out) (Kd.z58 (by (with_reducible repeat (first|apply Kd.z3y|apply Kd.z3z|apply Kd.z4p));exact HO_7.out)) (by decide) hg);have n1_:=z3.mk (Kd.V_afterv (ok:=(fun k_=>(w.heap.size ≤ k_))) (by (with_reducible repeat (first|apply Kd.V_alloc|apply Kd.V_drewN|apply Kd.V_drew));exact HO108.out) hg hat);have n2_:=z3.mk (hb);have n3_:=z3.mk (ho);clear HO_6;clear HO108;clear HB;clear HO_7;have HO_6:=n0_;have HO108:=n1_;have HB:=n2_;have HO111:=n3_;clear n0_ n1_ n2_ n3_;clear ho hb hg hat))
   go_roundg k1
   case measure=>have:=HK1.out;omega
   case rel=>exact ⟨(y109),(wrap64 (x8_1 + a1)),(by first|rfl|(simp;done)|(simp [*];done)),H',⟨by have:=HK1.out;omega⟩,⟨by (with_reducible repeat (first|apply Kd.zr|apply Kd.zs|apply Kd.zy));exact HO_6.out⟩,⟨by (with_reducible repeat (first|apply Kd.z3y|apply Kd.z3z|apply Kd.z4p));exact HO111.out⟩,⟨by repeat (first|(with_reducible first|exact HB.out|apply z2|apply z0|apply z1)|exact HB.out)⟩⟩
end Go.Proofs.Ytngcaphdkgihmaa.P
namespace Go.Proofs.Ytngcaphdkgihmaa.P
open Go.RowKit Go.Proofs.YtngcaphdkgihmaaW.PrintWords Go.Proofs.YtngcaphdkgihmaaW.PrintLast Go.Proofs.YtngcaphdkgihmaaW.PrintMore
attribute [local go_sem] zW zY z15 z16 zQ zR zX zZ   -- for this text's walks alone
set_option linter.unusedVariables false
set_option linter.unusedSimpArgs false
attribute [local go_sem high] eqA51
def zB.f (k : Nat)  : Option (Bool):=(zm.f k 1 3 (([(⟨0,1⟩ : S51),(⟨0,2⟩ : S51),(⟨0,3⟩ : S51),(⟨0,0⟩ : S51)] : List (S51)))).bind fun bt104=>((zU.f k bt104.1 1).bind fun bt108=>(if bt104.2 = 0 then (if bt108.2 = 0 then (if (bt104.1.length : Int) = 1 then (if 0 < (bt104.1.length : Int) then (if (((zx bt104.1 0).f0) == 0 && (((zx bt104.1 0).f1) == 57)) = true then (some ((bt108.1.length : Int) == 1)) else (some false)) else (none)) else (some false)) else (some false)) else (some false)))
theorem zB.mono : ∀ k,LeO (zB.f k ) (zB.f (k + 1) ):=by
 intro  k
 unfold zB.f
 repeat' first
  | (with_reducible exact zU.mono _ _ _)
  | (with_reducible exact zm.mono _ _ _ _)
  | (with_reducible exact LeO.refl _)
  | (with_reducible exact LeO.none _)
  | (with_reducible refine LeO.ite ?_ ?_)
  | (with_reducible refine LeO.bind ?_ (fun _=>?_))
  | exact zU.mono _ _ _
  | exact zm.mono _ _ _ _
  | exact LeO.none _
  | refine LeO.ite ?_ ?_
  | refine LeO.bind ?_ (fun _=>?_)
set_option maxHeartbeats 8000000 in
set_option maxRecDepth 100000 in
theorem zB.calls (k : Nat)  (r : Bool) (w : World) (h : zB.f k  = some r) :
 Calls Try.prog 23 #[] w fun e w'=>e = .returned (.bool r) ∧ Below w.heap.size w w':=by
 have hu51:=Try.underlying51
 have HB:=z3.mk (Below.refl w.heap.size w)
 have H : ((zm.f k 1 3 (([(⟨0,1⟩ : S51),(⟨0,2⟩ : S51),(⟨0,3⟩ : S51),(⟨0,0⟩ : S51)] : List (S51)))).bind fun bt104=>((zU.f k bt104.1 1).bind fun bt108=>(if bt104.2 = 0 then (if bt108.2 = 0 then (if (bt104.1.length : Int) = 1 then (if 0 < (bt104.1.length : Int) then (if (((zx bt104.1 0).f0) == 0 && (((zx bt104.1 0).f1) == 57)) = true then (some ((bt108.1.length : Int) == 1)) else (some false)) else (none)) else (some false)) else (some false)) else (some false)))) = some r:=h
 clear h
 obtain ⟨y101,hy101⟩ : ∃ y_ : List (S51),y_ = (([(⟨0,1⟩ : S51),(⟨0,2⟩ : S51),(⟨0,3⟩ : S51),(⟨0,0⟩ : S51)] : List (S51))):=⟨_,rfl⟩
 replace H : ((zm.f k 1 3 y101).bind fun bt104=>((zU.f k bt104.1 1).bind fun bt108=>(if bt104.2 = 0 then (if bt108.2 = 0 then (if (bt104.1.length : Int) = 1 then (if 0 < (bt104.1.length : Int) then (if (((zx bt104.1 0).f0) == 0 && (((zx bt104.1 0).f1) == 57)) = true then (some ((bt108.1.length : Int) == 1)) else (some false)) else (none)) else (some false)) else (some false)) else (some false)))) = some r:=by first|(rw [hy101];with_reducible exact H)|(have H2_:=(Option.bind_some _ _).symm.trans H;rw [hy101];with_reducible exact H2_)|(have H2_:=(Option.bind_some _ _).symm.trans H;with_reducible exact H2_)|with_reducible exact H|(rw [hy101];exact H)|exact H
 have Ny101:=z3.mk hy101
 clear hy101
 replace H:=Option.bind_eq_some_iff.mp H
 obtain ⟨⟨t104,t105⟩,A10,H⟩:=H
 replace H : ((zU.f k t104 1).bind fun bt108=>(if t105 = 0 then (if bt108.2 = 0 then (if (t104.length : Int) = 1 then (if 0 < (t104.length : Int) then (if (((zx t104 0).f0) == 0 && (((zx t104 0).f1) == 57)) = true then (some ((bt108.1.length : Int) == 1)) else (some false)) else (none)) else (some false)) else (some false)) else (some false))) = some r:=H
 have A1:=z3.mk A10
 clear A10
 replace H:=Option.bind_eq_some_iff.mp H
 obtain ⟨⟨t108,t111⟩,A20,H⟩:=H
 replace H : (if t105 = 0 then (if t111 = 0 then (if (t104.length : Int) = 1 then (if 0 < (t104.length : Int) then (if (((zx t104 0).f0) == 0 && (((zx t104 0).f1) == 57)) = true then (some ((t108.length : Int) == 1)) else (some false)) else (none)) else (some false)) else (some false)) else (some false)) = some r:=H
 have A2:=z3.mk A20
 clear A20
 by_cases c3 : t105 = 0
 rotate_left
 · rw [if_neg c3] at H
   have c3b0 : (t105 == 0) = false:=beq_eq_false_iff_ne.mpr c3
   have c3b1 : (t105 != 0) = true:=bne_iff_ne.mpr c3
   obtain rfl:=Option.some.inj H
   go_enter Try.func23,Try.ntmps23
   go_wp2_with (first|((with_reducible refine zE (N:=10) rfl ?_);(try (refine z22 (by rfl) ?_;dsimp only));refine Kd.z3D k51 _ 51 ?hg (N:=10) ?hd (xs:=([(⟨0,1⟩ : S51),(⟨0,2⟩ : S51),(⟨0,3⟩ : S51),(⟨0,0⟩ : S51)] : List (S51))) (inner:=[.int .u64 0,.int .u64 1,.int .u64 0,.int .u64 2,.int .u64 0,.int .u64 3,.int .u64 0,.int .u64 0]) (ok:=fun _=>True) (okp:=fun _=>True) ?hr ?hp (fun _ hk=>hk) trivial (Below.refl _ _) (Nat.le_refl _) (by simp) ?_;(case hd=>rfl);(case hg=>rfl);(case hr=>first|(go_simp;done)|(go_simp;rfl));(case hp=>exact (Reps.c2 (show Kd.M k51 _ _ _ (⟨0,1⟩ : S51) [.int .u64 0,.int .u64 1] from (z1j _ _ _ (⟨0,1⟩ : S51) )) (Reps.c2 (show Kd.M k51 _ _ _ (⟨0,2⟩ : S51) [.int .u64 0,.int .u64 2] from (z1j _ _ _ (⟨0,2⟩ : S51) )) (Reps.c2 (show Kd.M k51 _ _ _ (⟨0,3⟩ : S51) [.int .u64 0,.int .u64 3] from (z1j _ _ _ (⟨0,3⟩ : S51) )) (Reps.c2 (show Kd.M k51 _ _ _ (⟨0,0⟩ : S51) [.int .u64 0,.int .u64 0] from (z1j _ _ _ (⟨0,0⟩ : S51) )) (Reps.none _ _))))));intro v102 w33 ho34 hb hg_ hnew_;clear hg_ hnew_;(first|rw [← Ny101.out] at ho34|(simp only [Int.reduceToNat] at ho34;rw [← Ny101.out] at ho34));have n0_:=z3.mk (Kd.z1b ho34 (zc (by repeat (first|(with_reducible first|exact HB.out|apply z2|apply z0|apply z1)|exact HB.out))));have n1_:=z3.mk (zb (by repeat (first|(with_reducible first|exact HB.out|apply z2|apply z0|apply z1)|exact HB.out)) hb);clear HB;have HO103:=n0_;have HB:=n1_;clear n0_ n1_;clear hb ho34;obtain ⟨Ao35,co35,eo35⟩:=Kd.z10 HO103.out;subst eo35)|((with_reducible refine zl (f:=30) rfl ?_);refine goesL_ (some 11) rfl rfl Try.func30 (by kernel_rfl) rfl #[.int .i64 1,.int .i64 3,.slice Ao35 y101.length co35] rfl (by (try simp only [List.map_toArray,List.map_cons,List.map_nil]);first|done|rfl|(simp only [List.length_drop,List.length_take];rfl)) ?_;(with_reducible refine (zm.calls k 1 3 _ _ y101 t104 t105 _ ?side1 ?side2 A1.out).mono ?_);(case side1=>repeat (first|exact (Kd.zA HO103.out).2.2|(with_reducible refine Kd.zS ?_ _)|(with_reducible refine Kd.zT ?_ _)|(with_reducible refine Kd.z14 ?_)));(case side2=>exact (Kd.zA HO103.out).2.1);rintro e w36 ⟨v106,rfl,ho0,hb⟩;refine ⟨_,rfl,?_⟩;have n0_:=z3.mk (Kd.z1f (by (with_reducible repeat (first|apply Kd.zr|apply Kd.zs|apply Kd.zy));exact HO103.out) (Kd.z1z ho0) hb);have n1_:=z3.mk (Kd.z1b (Kd.z1A ho0 (Kd.R_lt (by (with_reducible repeat (first|apply Kd.zr|apply Kd.zs|apply Kd.zy));exact HO103.out))) (zc (by repeat (first|(with_reducible first|exact HB.out|apply z2|apply z0|apply z1)|exact HB.out))));have n2_:=z3.mk (zb (by repeat (first|(with_reducible first|exact HB.out|apply z2|apply z0|apply z1)|exact HB.out)) hb);clear HO103;clear HB;have HO103:=n0_;have HO107:=n1_;have HB:=n2_;clear n0_ n1_ n2_;(try clear hb);(try clear hb2);(try clear hk);(try clear hi);(try clear ho0);obtain ⟨Ao37,co37,eo37⟩:=Kd.z10 HO107.out;subst eo37)|((with_reducible refine zl (f:=24) rfl ?_);refine goesL_ (some 16) rfl rfl Try.func24 (by kernel_rfl) rfl #[.slice Ao37 t104.length co37,.int .i64 1] rfl (by (try simp only [List.map_toArray,List.map_cons,List.map_nil]);first|done|rfl|(simp only [List.length_drop,List.length_take];rfl)) ?_;(with_reducible refine (zU.calls k _ _ t104 1 t108 t111 _ ?side1 ?side2 A2.out).mono ?_);(case side1=>repeat (first|exact (Kd.zA HO107.out).2.2|(with_reducible refine Kd.zS ?_ _)|(with_reducible refine Kd.zT ?_ _)|(with_reducible refine Kd.z14 ?_)));(case side2=>exact (Kd.zA HO107.out).2.1);rintro e w38 ⟨v109,rfl,ho0,hb⟩;refine ⟨_,rfl,?_⟩;have n0_:=z3.mk (Kd.zG (by (with_reducible repeat (first|apply Kd.zr|apply Kd.zs|apply Kd.zy));exact HO103.out) hb);have n1_:=z3.mk (Kd.zG (by (with_reducible repeat (first|apply Kd.zr|apply Kd.zs|apply Kd.zy));exact HO107.out) hb);have n2_:=z3.mk (Kd.z31 (Kd.z3X (ok':=fun k_=>some k_ ≠ (.slice Ao35 y101.length co35 : Value).ownBlock ∧ some k_ ≠ (.slice Ao37 t104.length co37 : Value).ownBlock) ho0 (fun k_ hk_=>⟨(Kd.fresh' (Kd.R_lt (by (with_reducible repeat (first|apply Kd.zr|apply Kd.zs|apply Kd.zy));exact HO103.out)) k_ hk_),(Kd.fresh' (Kd.R_lt (by (with_reducible repeat (first|apply Kd.zr|apply Kd.zs|apply Kd.zy));exact HO107.out)) k_ hk_)⟩)) (zc (by repeat (first|(with_reducible first|exact HB.out|apply z2|apply z0|apply z1)|exact HB.out))));have n3_:=z3.mk (zb (by repeat (first|(with_reducible first|exact HB.out|apply z2|apply z0|apply z1)|exact HB.out)) hb);clear HO103;clear HO107;clear HB;have HO103:=n0_;have HO107:=n1_;have HO110:=n2_;have HB:=n3_;clear n0_ n1_ n2_ n3_;(try clear hb);(try clear hb2);(try clear hk);(try clear hi);(try clear ho0)))
   go_ret
   exact ⟨by first|rfl|(simp [zg,zh] <;> rfl)|(simp [*,zg,zh] <;> rfl),by repeat (first|(with_reducible first|exact HB.out|apply z2|apply z0|apply z1)|exact HB.out)⟩
 rw [if_pos c3] at H
 have c3b0 : (t105 == 0) = true:=beq_iff_eq.mpr c3
 have c3b1 : (t105 != 0) = false:=bne_eq_false_iff_eq.mpr c3
 clear c3
 by_cases c4 : t111 = 0
 rotate_left
 · rw [if_neg c4] at H
   have c4b0 : (t111 == 0) = false:=beq_eq_false_iff_ne.mpr c4
   have c4b1 : (t111 != 0) = true:=bne_iff_ne.mpr c4
   obtain rfl:=Option.some.inj H
   go_enter Try.func23,Try.ntmps23
   go_wp2_with (first|((with_reducible refine zE (N:=10) rfl ?_);(try (refine z22 (by rfl) ?_;dsimp only));refine Kd.z3D k51 _ 51 ?hg (N:=10) ?hd (xs:=([(⟨0,1⟩ : S51),(⟨0,2⟩ : S51),(⟨0,3⟩ : S51),(⟨0,0⟩ : S51)] : List (S51))) (inner:=[.int .u64 0,.int .u64 1,.int .u64 0,.int .u64 2,.int .u64 0,.int .u64 3,.int .u64 0,.int .u64 0]) (ok:=fun _=>True) (okp:=fun _=>True) ?hr ?hp (fun _ hk=>hk) trivial (Below.refl _ _) (Nat.le_refl _) (by simp) ?_;(case hd=>rfl);(case hg=>rfl);(case hr=>first|(go_simp;done)|(go_simp;rfl));(case hp=>exact (Reps.c2 (show Kd.M k51 _ _ _ (⟨0,1⟩ : S51) [.int .u64 0,.int .u64 1] from (z1j _ _ _ (⟨0,1⟩ : S51) )) (Reps.c2 (show Kd.M k51 _ _ _ (⟨0,2⟩ : S51) [.int .u64 0,.int .u64 2] from (z1j _ _ _ (⟨0,2⟩ : S51) )) (Reps.c2 (show Kd.M k51 _ _ _ (⟨0,3⟩ : S51) [.int .u64 0,.int .u64 3] from (z1j _ _ _ (⟨0,3⟩ : S51) )) (Reps.c2 (show Kd.M k51 _ _ _ (⟨0,0⟩ : S51) [.int .u64 0,.int .u64 0] from (z1j _ _ _ (⟨0,0⟩ : S51) )) (Reps.none _ _))))));intro v102 w27 ho28 hb hg_ hnew_;clear hg_ hnew_;(first|rw [← Ny101.out] at ho28|(simp only [Int.reduceToNat] at ho28;rw [← Ny101.out] at ho28));have n0_:=z3.mk (Kd.z1b ho28 (zc (by repeat (first|(with_reducible first|exact HB.out|apply z2|apply z0|apply z1)|exact HB.out))));have n1_:=z3.mk (zb (by repeat (first|(with_reducible first|exact HB.out|apply z2|apply z0|apply z1)|exact HB.out)) hb);clear HB;have HO103:=n0_;have HB:=n1_;clear n0_ n1_;clear hb ho28;obtain ⟨Ao29,co29,eo29⟩:=Kd.z10 HO103.out;subst eo29)|((with_reducible refine zl (f:=30) rfl ?_);refine goesL_ (some 11) rfl rfl Try.func30 (by kernel_rfl) rfl #[.int .i64 1,.int .i64 3,.slice Ao29 y101.length co29] rfl (by (try simp only [List.map_toArray,List.map_cons,List.map_nil]);first|done|rfl|(simp only [List.length_drop,List.length_take];rfl)) ?_;(with_reducible refine (zm.calls k 1 3 _ _ y101 t104 t105 _ ?side1 ?side2 A1.out).mono ?_);(case side1=>repeat (first|exact (Kd.zA HO103.out).2.2|(with_reducible refine Kd.zS ?_ _)|(with_reducible refine Kd.zT ?_ _)|(with_reducible refine Kd.z14 ?_)));(case side2=>exact (Kd.zA HO103.out).2.1);rintro e w30 ⟨v106,rfl,ho0,hb⟩;refine ⟨_,rfl,?_⟩;have n0_:=z3.mk (Kd.z1f (by (with_reducible repeat (first|apply Kd.zr|apply Kd.zs|apply Kd.zy));exact HO103.out) (Kd.z1z ho0) hb);have n1_:=z3.mk (Kd.z1b (Kd.z1A ho0 (Kd.R_lt (by (with_reducible repeat (first|apply Kd.zr|apply Kd.zs|apply Kd.zy));exact HO103.out))) (zc (by repeat (first|(with_reducible first|exact HB.out|apply z2|apply z0|apply z1)|exact HB.out))));have n2_:=z3.mk (zb (by repeat (first|(with_reducible first|exact HB.out|apply z2|apply z0|apply z1)|exact HB.out)) hb);clear HO103;clear HB;have HO103:=n0_;have HO107:=n1_;have HB:=n2_;clear n0_ n1_ n2_;(try clear hb);(try clear hb2);(try clear hk);(try clear hi);(try clear ho0);obtain ⟨Ao31,co31,eo31⟩:=Kd.z10 HO107.out;subst eo31)|((with_reducible refine zl (f:=24) rfl ?_);refine goesL_ (some 16) rfl rfl Try.func24 (by kernel_rfl) rfl #[.slice Ao31 t104.length co31,.int .i64 1] rfl (by (try simp only [List.map_toArray,List.map_cons,List.map_nil]);first|done|rfl|(simp only [List.length_drop,List.length_take];rfl)) ?_;(with_reducible refine (zU.calls k _ _ t104 1 t108 t111 _ ?side1 ?side2 A2.out).mono ?_);(case side1=>repeat (first|exact (Kd.zA HO107.out).2.2|(with_reducible refine Kd.zS ?_ _)|(with_reducible refine Kd.zT ?_ _)|(with_reducible refine Kd.z14 ?_)));(case side2=>exact (Kd.zA HO107.out).2.1);rintro e w32 ⟨v109,rfl,ho0,hb⟩;refine ⟨_,rfl,?_⟩;have n0_:=z3.mk (Kd.zG (by (with_reducible repeat (first|apply Kd.zr|apply Kd.zs|apply Kd.zy));exact HO103.out) hb);have n1_:=z3.mk (Kd.zG (by (with_reducible repeat (first|apply Kd.zr|apply Kd.zs|apply Kd.zy));exact HO107.out) hb);have n2_:=z3.mk (Kd.z31 (Kd.z3X (ok':=fun k_=>some k_ ≠ (.slice Ao29 y101.length co29 : Value).ownBlock ∧ some k_ ≠ (.slice Ao31 t104.length co31 : Value).ownBlock) ho0 (fun k_ hk_=>⟨(Kd.fresh' (Kd.R_lt (by (with_reducible repeat (first|apply Kd.zr|apply Kd.zs|apply Kd.zy));exact HO103.out)) k_ hk_),(Kd.fresh' (Kd.R_lt (by (with_reducible repeat (first|apply Kd.zr|apply Kd.zs|apply Kd.zy));exact HO107.out)) k_ hk_)⟩)) (zc (by repeat (first|(with_reducible first|exact HB.out|apply z2|apply z0|apply z1)|exact HB.out))));have n3_:=z3.mk (zb (by repeat (first|(with_reducible first|exact HB.out|apply z2|apply z0|apply z1)|exact HB.out)) hb);clear HO103;clear HO107;clear HB;have HO103:=n0_;have HO107:=n1_;have HO110:=n2_;have HB:=n3_;clear n0_ n1_ n2_ n3_;(try clear hb);(try clear hb2);(try clear hk);(try clear hi);(try clear ho0)))
   go_ret
   exact ⟨by first|rfl|(simp [zg,zh] <;> rfl)|(simp [*,zg,zh] <;> rfl),by repeat (first|(with_reducible first|exact HB.out|apply z2|apply z0|apply z1)|exact HB.out)⟩
 rw [if_pos c4] at H
 have c4b0 : (t111 == 0) = true:=beq_iff_eq.mpr c4
 have c4b1 : (t111 != 0) = false:=bne_eq_false_iff_eq.mpr c4
 clear c4
 by_cases c5 : (t104.length : Int) = 1
 rotate_left
 · rw [if_neg c5] at H
   have c5b0 : ((t104.length : Int) == 1) = false:=beq_eq_false_iff_ne.mpr c5
   have c5b1 : ((t104.length : Int) != 1) = true:=bne_iff_ne.mpr c5
   obtain rfl:=Option.some.inj H
   go_enter Try.func23,Try.ntmps23
   go_wp2_with (first|((with_reducible refine zE (N:=10) rfl ?_);(try (refine z22 (by rfl) ?_;dsimp only));refine Kd.z3D k51 _ 51 ?hg (N:=10) ?hd (xs:=([(⟨0,1⟩ : S51),(⟨0,2⟩ : S51),(⟨0,3⟩ : S51),(⟨0,0⟩ : S51)] : List (S51))) (inner:=[.int .u64 0,.int .u64 1,.int .u64 0,.int .u64 2,.int .u64 0,.int .u64 3,.int .u64 0,.int .u64 0]) (ok:=fun _=>True) (okp:=fun _=>True) ?hr ?hp (fun _ hk=>hk) trivial (Below.refl _ _) (Nat.le_refl _) (by simp) ?_;(case hd=>rfl);(case hg=>rfl);(case hr=>first|(go_simp;done)|(go_simp;rfl));(case hp=>exact (Reps.c2 (show Kd.M k51 _ _ _ (⟨0,1⟩ : S51) [.int .u64 0,.int .u64 1] from (z1j _ _ _ (⟨0,1⟩ : S51) )) (Reps.c2 (show Kd.M k51 _ _ _ (⟨0,2⟩ : S51) [.int .u64 0,.int .u64 2] from (z1j _ _ _ (⟨0,2⟩ : S51) )) (Reps.c2 (show Kd.M k51 _ _ _ (⟨0,3⟩ : S51) [.int .u64 0,.int .u64 3] from (z1j _ _ _ (⟨0,3⟩ : S51) )) (Reps.c2 (show Kd.M k51 _ _ _ (⟨0,0⟩ : S51) [.int .u64 0,.int .u64 0] from (z1j _ _ _ (⟨0,0⟩ : S51) )) (Reps.none _ _))))));intro v102 w21 ho22 hb hg_ hnew_;clear hg_ hnew_;(first|rw [← Ny101.out] at ho22|(simp only [Int.reduceToNat] at ho22;rw [← Ny101.out] at ho22));have n0_:=z3.mk (Kd.z1b ho22 (zc (by repeat (first|(with_reducible first|exact HB.out|apply z2|apply z0|apply z1)|exact HB.out))));have n1_:=z3.mk (zb (by repeat (first|(with_reducible first|exact HB.out|apply z2|apply z0|apply z1)|exact HB.out)) hb);clear HB;have HO103:=n0_;have HB:=n1_;clear n0_ n1_;clear hb ho22;obtain ⟨Ao23,co23,eo23⟩:=Kd.z10 HO103.out;subst eo23)|((with_reducible refine zl (f:=30) rfl ?_);refine goesL_ (some 11) rfl rfl Try.func30 (by kernel_rfl) rfl #[.int .i64 1,.int .i64 3,.slice Ao23 y101.length co23] rfl (by (try simp only [List.map_toArray,List.map_cons,List.map_nil]);first|done|rfl|(simp only [List.length_drop,List.length_take];rfl)) ?_;(with_reducible refine (zm.calls k 1 3 _ _ y101 t104 t105 _ ?side1 ?side2 A1.out).mono ?_);(case side1=>repeat (first|exact (Kd.zA HO103.out).2.2|(with_reducible refine Kd.zS ?_ _)|(with_reducible refine Kd.zT ?_ _)|(with_reducible refine Kd.z14 ?_)));(case side2=>exact (Kd.zA HO103.out).2.1);rintro e w24 ⟨v106,rfl,ho0,hb⟩;refine ⟨_,rfl,?_⟩;have n0_:=z3.mk (Kd.z1f (by (with_reducible repeat (first|apply Kd.zr|apply Kd.zs|apply Kd.zy));exact HO103.out) (Kd.z1z ho0) hb);have n1_:=z3.mk (Kd.z1b (Kd.z1A ho0 (Kd.R_lt (by (with_reducible repeat (first|apply Kd.zr|apply Kd.zs|apply Kd.zy));exact HO103.out))) (zc (by repeat (first|(with_reducible first|exact HB.out|apply z2|apply z0|apply z1)|exact HB.out))));have n2_:=z3.mk (zb (by repeat (first|(with_reducible first|exact HB.out|apply z2|apply z0|apply z1)|exact HB.out)) hb);clear HO103;clear HB;have HO103:=n0_;have HO107:=n1_;have HB:=n2_;clear n0_ n1_ n2_;(try clear hb);(try clear hb2);(try clear hk);(try clear hi);(try clear ho0);obtain ⟨Ao25,co25,eo25⟩:=Kd.z10 HO107.out;subst eo25)|((with_reducible refine zl (f:=24) rfl ?_);refine goesL_ (some 16) rfl rfl Try.func24 (by kernel_rfl) rfl #[.slice Ao25 t104.length co25,.int .i64 1] rfl (by (try simp only [List.map_toArray,List.map_cons,List.map_nil]);first|done|rfl|(simp only [List.length_drop,List.length_take];rfl)) ?_;(with_reducible refine (zU.calls k _ _ t104 1 t108 t111 _ ?side1 ?side2 A2.out).mono ?_);(case side1=>repeat (first|exact (Kd.zA HO107.out).2.2|(with_reducible refine Kd.zS ?_ _)|(with_reducible refine Kd.zT ?_ _)|(with_reducible refine Kd.z14 ?_)));(case side2=>exact (Kd.zA HO107.out).2.1);rintro e w26 ⟨v109,rfl,ho0,hb⟩;refine ⟨_,rfl,?_⟩;have n0_:=z3.mk (Kd.zG (by (with_reducible repeat (first|apply Kd.zr|apply Kd.zs|apply Kd.zy));exact HO103.out) hb);have n1_:=z3.mk (Kd.zG (by (with_reducible repeat (first|apply Kd.zr|apply Kd.zs|apply Kd.zy));exact HO107.out) hb);have n2_:=z3.mk (Kd.z31 (Kd.z3X (ok':=fun k_=>some k_ ≠ (.slice Ao23 y101.length co23 : Value).ownBlock ∧ some k_ ≠ (.slice Ao25 t104.length co25 : Value).ownBlock) ho0 (fun k_ hk_=>⟨(Kd.fresh' (Kd.R_lt (by (with_reducible repeat (first|apply Kd.zr|apply Kd.zs|apply Kd.zy));exact HO103.out)) k_ hk_),(Kd.fresh' (Kd.R_lt (by (with_reducible repeat (first|apply Kd.zr|apply Kd.zs|apply Kd.zy));exact HO107.out)) k_ hk_)⟩)) (zc (by repeat (first|(with_reducible first|exact HB.out|apply z2|apply z0|apply z1)|exact HB.out))));have n3_:=z3.mk (zb (by repeat (first|(with_reducible first|exact HB.out|apply z2|apply z0|apply z1)|exact HB.out)) hb);clear HO103;clear HO107;clear HB;have HO103:=n0_;have HO107:=n1_;have HO110:=n2_;have HB:=n3_;clear n0_ n1_ n2_ n3_;(try clear hb);(try clear hb2);(try clear hk);(try clear hi);(try clear ho0)))
   go_ret
   exact ⟨by first|rfl|(simp [zg,zh] <;> rfl)|(simp [*,zg,zh] <;> rfl),by repeat (first|(with_reducible first|exact HB.out|apply z2|apply z0|apply z1)|exact HB.out)⟩
 rw [if_pos c5] at H
 have c5b0 : ((t104.length : Int) == 1) = true:=beq_iff_eq.mpr c5
 have c5b1 : ((t104.length : Int) != 1) = false:=bne_eq_false_iff_eq.mpr c5
 clear c5
 by_cases c6 : 0 < (t104.length : Int)
 rotate_left
 · rw [if_neg c6] at H
   exact absurd H (by simp)
 rw [if_pos c6] at H
 have c6b0 : decide (0 < (t104.length : Int)) = true:=decide_eq_true c6
 have c6b1 : decide (0 < t104.length) = true:=decide_eq_true (by omega)
 clear c6
 by_cases c7 : (((zx t104 0).f0) == 0 && (((zx t104 0).f1) == 57)) = true
 · rw [if_pos c7] at H
   have c7b0 : (((zx t104 0).f0) == 0 && (((zx t104 0).f1) == 57)) = true:=c7
   (try (have c7b1 : decide (((zx t104 0).f0) = 0 && (((zx t104 0).f1) == 57)) = true:=by simpa using c7))
   (try (have c7b2 : (((zx t104 0).f0) == 0 && (((zx t104 0).f1) == 57)) = true:=by simpa using c7))
   clear c7
   obtain rfl:=Option.some.inj H
   go_enter Try.func23,Try.ntmps23
   go_wp2_with (first|((with_reducible refine zE (N:=10) rfl ?_);(try (refine z22 (by rfl) ?_;dsimp only));refine Kd.z3D k51 _ 51 ?hg (N:=10) ?hd (xs:=([(⟨0,1⟩ : S51),(⟨0,2⟩ : S51),(⟨0,3⟩ : S51),(⟨0,0⟩ : S51)] : List (S51))) (inner:=[.int .u64 0,.int .u64 1,.int .u64 0,.int .u64 2,.int .u64 0,.int .u64 3,.int .u64 0,.int .u64 0]) (ok:=fun _=>True) (okp:=fun _=>True) ?hr ?hp (fun _ hk=>hk) trivial (Below.refl _ _) (Nat.le_refl _) (by simp) ?_;(case hd=>rfl);(case hg=>rfl);(case hr=>first|(go_simp;done)|(go_simp;rfl));(case hp=>exact (Reps.c2 (show Kd.M k51 _ _ _ (⟨0,1⟩ : S51) [.int .u64 0,.int .u64 1] from (z1j _ _ _ (⟨0,1⟩ : S51) )) (Reps.c2 (show Kd.M k51 _ _ _ (⟨0,2⟩ : S51) [.int .u64 0,.int .u64 2] from (z1j _ _ _ (⟨0,2⟩ : S51) )) (Reps.c2 (show Kd.M k51 _ _ _ (⟨0,3⟩ : S51) [.int .u64 0,.int .u64 3] from (z1j _ _ _ (⟨0,3⟩ : S51) )) (Reps.c2 (show Kd.M k51 _ _ _ (⟨0,0⟩ : S51) [.int .u64 0,.int .u64 0] from (z1j _ _ _ (⟨0,0⟩ : S51) )) (Reps.none _ _))))));intro v102 w8 ho9 hb hg_ hnew_;clear hg_ hnew_;(first|rw [← Ny101.out] at ho9|(simp only [Int.reduceToNat] at ho9;rw [← Ny101.out] at ho9));have n0_:=z3.mk (Kd.z1b ho9 (zc (by repeat (first|(with_reducible first|exact HB.out|apply z2|apply z0|apply z1)|exact HB.out))));have n1_:=z3.mk (zb (by repeat (first|(with_reducible first|exact HB.out|apply z2|apply z0|apply z1)|exact HB.out)) hb);clear HB;have HO103:=n0_;have HB:=n1_;clear n0_ n1_;clear hb ho9;obtain ⟨Ao10,co10,eo10⟩:=Kd.z10 HO103.out;subst eo10)|((with_reducible refine zl (f:=30) rfl ?_);refine goesL_ (some 11) rfl rfl Try.func30 (by kernel_rfl) rfl #[.int .i64 1,.int .i64 3,.slice Ao10 y101.length co10] rfl (by (try simp only [List.map_toArray,List.map_cons,List.map_nil]);first|done|rfl|(simp only [List.length_drop,List.length_take];rfl)) ?_;(with_reducible refine (zm.calls k 1 3 _ _ y101 t104 t105 _ ?side1 ?side2 A1.out).mono ?_);(case side1=>repeat (first|exact (Kd.zA HO103.out).2.2|(with_reducible refine Kd.zS ?_ _)|(with_reducible refine Kd.zT ?_ _)|(with_reducible refine Kd.z14 ?_)));(case side2=>exact (Kd.zA HO103.out).2.1);rintro e w11 ⟨v106,rfl,ho0,hb⟩;refine ⟨_,rfl,?_⟩;have n0_:=z3.mk (Kd.z1f (by (with_reducible repeat (first|apply Kd.zr|apply Kd.zs|apply Kd.zy));exact HO103.out) (Kd.z1z ho0) hb);have n1_:=z3.mk (Kd.z1b (Kd.z1A ho0 (Kd.R_lt (by (with_reducible repeat (first|apply Kd.zr|apply Kd.zs|apply Kd.zy));exact HO103.out))) (zc (by repeat (first|(with_reducible first|exact HB.out|apply z2|apply z0|apply z1)|exact HB.out))));have n2_:=z3.mk (zb (by repeat (first|(with_reducible first|exact HB.out|apply z2|apply z0|apply z1)|exact HB.out)) hb);clear HO103;clear HB;have HO103:=n0_;have HO107:=n1_;have HB:=n2_;clear n0_ n1_ n2_;(try clear hb);(try clear hb2);(try clear hk);(try clear hi);(try clear ho0);obtain ⟨Ao12,co12,eo12⟩:=Kd.z10 HO107.out;subst eo12)|((with_reducible refine zl (f:=24) rfl ?_);refine goesL_ (some 16) rfl rfl Try.func24 (by kernel_rfl) rfl #[.slice Ao12 t104.length co12,.int .i64 1] rfl (by (try simp only [List.map_toArray,List.map_cons,List.map_nil]);first|done|rfl|(simp only [List.length_drop,List.length_take];rfl)) ?_;(with_reducible refine (zU.calls k _ _ t104 1 t108 t111 _ ?side1 ?side2 A2.out).mono ?_);(case side1=>repeat (first|exact (Kd.zA HO107.out).2.2|(with_reducible refine Kd.zS ?_ _)|(with_reducible refine Kd.zT ?_ _)|(with_reducible refine Kd.z14 ?_)));(case side2=>exact (Kd.zA HO107.out).2.1);rintro e w13 ⟨v109,rfl,ho0,hb⟩;refine ⟨_,rfl,?_⟩;have n0_:=z3.mk (Kd.zG (by (with_reducible repeat (first|apply Kd.zr|apply Kd.zs|apply Kd.zy));exact HO103.out) hb);have n1_:=z3.mk (Kd.zG (by (with_reducible repeat (first|apply Kd.zr|apply Kd.zs|apply Kd.zy));exact HO107.out) hb);have n2_:=z3.mk (Kd.z31 (Kd.z3X (ok':=fun k_=>some k_ ≠ (.slice Ao10 y101.length co10 : Value).ownBlock ∧ some k_ ≠ (.slice Ao12 t104.length co12 : Value).ownBlock) ho0 (fun k_ hk_=>⟨(Kd.fresh' (Kd.R_lt (by (with_reducible repeat (first|apply Kd.zr|apply Kd.zs|apply Kd.zy));exact HO103.out)) k_ hk_),(Kd.fresh' (Kd.R_lt (by (with_reducible repeat (first|apply Kd.zr|apply Kd.zs|apply Kd.zy));exact HO107.out)) k_ hk_)⟩)) (zc (by repeat (first|(with_reducible first|exact HB.out|apply z2|apply z0|apply z1)|exact HB.out))));have n3_:=z3.mk (zb (by repeat (first|(with_reducible first|exact HB.out|apply z2|apply z0|apply z1)|exact HB.out)) hb);clear HO103;clear HO107;clear HB;have HO103:=n0_;have HO107:=n1_;have HO110:=n2_;have HB:=n3_;clear n0_ n1_ n2_ n3_;(try clear hb);(try clear hb2);(try clear hk);(try clear hi);(try clear ho0);have p112 : 0 ≤ (0 : Int):=(by omega);have q112 : 0 < (t104.length : Int):=of_decide_eq_true (by first|(with_reducible assumption)|assumption);obtain ⟨ad112,e112,hx112_0,hx112_1⟩:=z2b (Kd.zA HO107.out).2.2 0 p112 q112;cases e112;have qi112 : (0 < t104.length) = True:=eq_true (by omega);(try rw [show ((0 : Int)).toNat = 0 from rfl] at hx112_0);(try rw [show 0 * 2 = 0 from rfl] at hx112_0);(try rw [Addr.add_zero'] at hx112_0);(try rw [show ((0 : Int)).toNat = 0 from rfl] at hx112_1);(try rw [show 0 * 2 = 0 from rfl] at hx112_1);(try rw [Addr.add_zero'] at hx112_1);replace p112:=eq_true p112;replace q112:=eq_true q112;obtain ⟨Ao14,co14,eo14⟩:=Kd.N_slice HO110.out;subst eo14))
   go_ret
   exact ⟨by first|rfl|(simp [zg,zh] <;> rfl)|(simp [*,zg,zh] <;> rfl),by repeat (first|(with_reducible first|exact HB.out|apply z2|apply z0|apply z1)|exact HB.out)⟩
 rw [if_neg c7] at H
 have c7b0 : (((zx t104 0).f0) == 0 && (((zx t104 0).f1) == 57)) = false:=by simpa using c7
 (try (have c7b1 : decide (((zx t104 0).f0) = 0 && (((zx t104 0).f1) == 57)) = false:=by simpa using c7))
 (try (have c7b2 : (((zx t104 0).f0) == 0 && (((zx t104 0).f1) == 57)) = false:=by simpa using c7))
 (try (have c7b3 : ¬ (((zx t104 0).f0) = 0 && (((zx t104 0).f1) == 57)):=by simpa using c7))
 clear c7
 obtain rfl:=Option.some.inj H
 go_enter Try.func23,Try.ntmps23
 go_wp2_with (first|((with_reducible refine zE (N:=10) rfl ?_);(try (refine z22 (by rfl) ?_;dsimp only));refine Kd.z3D k51 _ 51 ?hg (N:=10) ?hd (xs:=([(⟨0,1⟩ : S51),(⟨0,2⟩ : S51),(⟨0,3⟩ : S51),(⟨0,0⟩ : S51)] : List (S51))) (inner:=[.int .u64 0,.int .u64 1,.int .u64 0,.int .u64 2,.int .u64 0,.int .u64 3,.int .u64 0,.int .u64 0]) (ok:=fun _=>True) (okp:=fun _=>True) ?hr ?hp (fun _ hk=>hk) trivial (Below.refl _ _) (Nat.le_refl _) (by simp) ?_;(case hd=>rfl);(case hg=>rfl);(case hr=>first|(go_simp;done)|(go_simp;rfl));(case hp=>exact (Reps.c2 (show Kd.M k51 _ _ _ (⟨0,1⟩ : S51) [.int .u64 0,.int .u64 1] from (z1j _ _ _ (⟨0,1⟩ : S51) )) (Reps.c2 (show Kd.M k51 _ _ _ (⟨0,2⟩ : S51) [.int .u64 0,.int .u64 2] from (z1j _ _ _ (⟨0,2⟩ : S51) )) (Reps.c2 (show Kd.M k51 _ _ _ (⟨0,3⟩ : S51) [.int .u64 0,.int .u64 3] from (z1j _ _ _ (⟨0,3⟩ : S51) )) (Reps.c2 (show Kd.M k51 _ _ _ (⟨0,0⟩ : S51) [.int .u64 0,.int .u64 0] from (z1j _ _ _ (⟨0,0⟩ : S51) )) (Reps.none _ _))))));intro v102 w15 ho16 hb hg_ hnew_;clear hg_ hnew_;(first|rw [← Ny101.out] at ho16|(simp only [Int.reduceToNat] at ho16;rw [← Ny101.out] at ho16));have n0_:=z3.mk (Kd.z1b ho16 (zc (by repeat (first|(with_reducible first|exact HB.out|apply z2|apply z0|apply z1)|exact HB.out))));have n1_:=z3.mk (zb (by repeat (first|(with_reducible first|exact HB.out|apply z2|apply z0|apply z1)|exact HB.out)) hb);clear HB;have HO103:=n0_;have HB:=n1_;clear n0_ n1_;clear hb ho16;obtain ⟨Ao17,co17,eo17⟩:=Kd.z10 HO103.out;subst eo17)|((with_reducible refine zl (f:=30) rfl ?_);refine goesL_ (some 11) rfl rfl Try.func30 (by kernel_rfl) rfl #[.int .i64 1,.int .i64 3,.slice Ao17 y101.length co17] rfl (by (try simp only [List.map_toArray,List.map_cons,List.map_nil]);first|done|rfl|(simp only [List.length_drop,List.length_take];rfl)) ?_;(with_reducible refine (zm.calls k 1 3 _ _ y101 t104 t105 _ ?side1 ?side2 A1.out).mono ?_);(case side1=>repeat (first|exact (Kd.zA HO103.out).2.2|(with_reducible refine Kd.zS ?_ _)|(with_reducible refine Kd.zT ?_ _)|(with_reducible refine Kd.z14 ?_)));(case side2=>exact (Kd.zA HO103.out).2.1);rintro e w18 ⟨v106,rfl,ho0,hb⟩;refine ⟨_,rfl,?_⟩;have n0_:=z3.mk (Kd.z1f (by (with_reducible repeat (first|apply Kd.zr|apply Kd.zs|apply Kd.zy));exact HO103.out) (Kd.z1z ho0) hb);have n1_:=z3.mk (Kd.z1b (Kd.z1A ho0 (Kd.R_lt (by (with_reducible repeat (first|apply Kd.zr|apply Kd.zs|apply Kd.zy));exact HO103.out))) (zc (by repeat (first|(with_reducible first|exact HB.out|apply z2|apply z0|apply z1)|exact HB.out))));have n2_:=z3.mk (zb (by repeat (first|(with_reducible first|exact HB.out|apply z2|apply z0|apply z1)|exact HB.out)) hb);clear HO103;clear HB;have HO103:=n0_;have HO107:=n1_;have HB:=n2_;clear n0_ n1_ n2_;(try clear hb);(try clear hb2);(try clear hk);(try clear hi);(try clear ho0);obtain ⟨Ao19,co19,eo19⟩:=Kd.z10 HO107.out;subst eo19)|((with_reducible refine zl (f:=24) rfl ?_);refine goesL_ (some 16) rfl rfl Try.func24 (by kernel_rfl) rfl #[.slice Ao19 t104.length co19,.int .i64 1] rfl (by (try simp only [List.map_toArray,List.map_cons,List.map_nil]);first|done|rfl|(simp only [List.length_drop,List.length_take];rfl)) ?_;(with_reducible refine (zU.calls k _ _ t104 1 t108 t111 _ ?side1 ?side2 A2.out).mono ?_);(case side1=>repeat (first|exact (Kd.zA HO107.out).2.2|(with_reducible refine Kd.zS ?_ _)|(with_reducible refine Kd.zT ?_ _)|(with_reducible refine Kd.z14 ?_)));(case side2=>exact (Kd.zA HO107.out).2.1);rintro e w20 ⟨v109,rfl,ho0,hb⟩;refine ⟨_,rfl,?_⟩;have n0_:=z3.mk (Kd.zG (by (with_reducible repeat (first|apply Kd.zr|apply Kd.zs|apply Kd.zy));exact HO103.out) hb);have n1_:=z3.mk (Kd.zG (by (with_reducible repeat (first|apply Kd.zr|apply Kd.zs|apply Kd.zy));exact HO107.out) hb);have n2_:=z3.mk (Kd.z31 (Kd.z3X (ok':=fun k_=>some k_ ≠ (.slice Ao17 y101.length co17 : Value).ownBlock ∧ some k_ ≠ (.slice Ao19 t104.length co19 : Value).ownBlock) ho0 (fun k_ hk_=>⟨(Kd.fresh' (Kd.R_lt (by (with_reducible repeat (first|apply Kd.zr|apply Kd.zs|apply Kd.zy));exact HO103.out)) k_ hk_),(Kd.fresh' (Kd.R_lt (by (with_reducible repeat (first|apply Kd.zr|apply Kd.zs|apply Kd.zy));exact HO107.out)) k_ hk_)⟩)) (zc (by repeat (first|(with_reducible first|exact HB.out|apply z2|apply z0|apply z1)|exact HB.out))));have n3_:=z3.mk (zb (by repeat (first|(with_reducible first|exact HB.out|apply z2|apply z0|apply z1)|exact HB.out)) hb);clear HO103;clear HO107;clear HB;have HO103:=n0_;have HO107:=n1_;have HO110:=n2_;have HB:=n3_;clear n0_ n1_ n2_ n3_;(try clear hb);(try clear hb2);(try clear hk);(try clear hi);(try clear ho0);have p112 : 0 ≤ (0 : Int):=(by omega);have q112 : 0 < (t104.length : Int):=of_decide_eq_true (by first|(with_reducible assumption)|assumption);obtain ⟨ad112,e112,hx112_0,hx112_1⟩:=z2b (Kd.zA HO107.out).2.2 0 p112 q112;cases e112;have qi112 : (0 < t104.length) = True:=eq_true (by omega);(try rw [show ((0 : Int)).toNat = 0 from rfl] at hx112_0);(try rw [show 0 * 2 = 0 from rfl] at hx112_0);(try rw [Addr.add_zero'] at hx112_0);(try rw [show ((0 : Int)).toNat = 0 from rfl] at hx112_1);(try rw [show 0 * 2 = 0 from rfl] at hx112_1);(try rw [Addr.add_zero'] at hx112_1);replace p112:=eq_true p112;replace q112:=eq_true q112))
 go_ret
 exact ⟨by first|rfl|(simp [zg,zh] <;> rfl)|(simp [*,zg,zh] <;> rfl),by repeat (first|(with_reducible first|exact HB.out|apply z2|apply z0|apply z1)|exact HB.out)⟩
end Go.Proofs.Ytngcaphdkgihmaa.P
namespace Go.Proofs.Ytngcaphdkgihmaa.P
open Go.RowKit Go.Proofs.YtngcaphdkgihmaaW.PrintWords Go.Proofs.YtngcaphdkgihmaaW.PrintLast Go.Proofs.YtngcaphdkgihmaaW.PrintMore
attribute [local go_sem] zW zY z15 z16 zQ zR zX zZ   -- for this text's walks alone
set_option linter.unusedVariables false
set_option linter.unusedSimpArgs false
theorem eqA61 (d : Nat) (w : World) (x0 y0 : Int) (x1 y1 : Int) :
 (Op.equalIn (d + 2) 61 (.agg #[.int .u64 x0,.int .u64 x1]) (.agg #[.int .u64 y0,.int .u64 y1])).run Try.prog w = .ok (x0 == y0 && (x1 == y1)) w:=by
 refine eqA_of Try.underlying61 (by kernel_rfl) ?_
 refine z4y (by rfl) (by go_simp;rfl) (by go_simp;rfl) (by go_simp) ?_
 exact z4z (by rfl) (by go_simp;rfl) (by go_simp;rfl) (by go_simp)
end Go.Proofs.Ytngcaphdkgihmaa.P
namespace Go.Proofs.Ytngcaphdkgihmaa.P
open Go.RowKit Go.Proofs.YtngcaphdkgihmaaW.PrintWords Go.Proofs.YtngcaphdkgihmaaW.PrintLast Go.Proofs.YtngcaphdkgihmaaW.PrintMore
attribute [local go_sem] zW zY z15 z16 zQ zR zX zZ   -- for this text's walks alone
set_option linter.unusedVariables false
set_option linter.unusedSimpArgs false
attribute [local go_sem high] eqA61
def zf.l0 : Nat → List (S51) → List (S61) → Int → Option (Bool)
 | 0,_,_,_=>none
 | k + 1,x0,x1,x5=>if x5 < (x0.length : Int) then (if 0 ≤ x5 then (if x5 < (x1.length : Int) then (if (!(((zx x0 x5).f0) == ((z12 x1 x5).f0)) || (!(((zx x0 x5).f1) == ((z12 x1 x5).f1)))) = true then (some false) else (zf.l0 k x0 x1 (wrap64 (x5 + 1)))) else (none)) else (none)) else (some true)
def zf.f (k : Nat) (l0 : List (S51)) (l1 : List (S61)) : Option (Bool):=if (l0.length : Int) = (l1.length : Int) then (zf.l0 k l0 l1 0) else (some false)
theorem zf.z13 : ∀ k,(∀ y0 y1 y2,LeO (zf.l0 k y0 y1 y2) (zf.l0 (k + 1) y0 y1 y2))
 | 0=>fun _ _ _ r h=>by simp [zf.l0] at h
 | k + 1=>by
  have ih0:=zf.z13 k
  · intro y0 y1 y2
    unfold zf.l0
    repeat' first
    | (with_reducible exact ih0 _ _ _)
    | (with_reducible exact LeO.refl _)
    | (with_reducible exact LeO.none _)
    | (with_reducible refine LeO.ite ?_ ?_)
    | (with_reducible refine LeO.bind ?_ (fun _=>?_))
    | exact ih0 _ _ _
    | exact LeO.none _
    | refine LeO.ite ?_ ?_
    | refine LeO.bind ?_ (fun _=>?_)
theorem zf.mono : ∀ a0 a1 k,LeO (zf.f k a0 a1) (zf.f (k + 1) a0 a1):=by
 intro a0 a1 k
 have ih0:=zf.z13 k
 unfold zf.f
 repeat' first
  | (with_reducible exact ih0 _ _ _)
  | (with_reducible exact LeO.refl _)
  | (with_reducible exact LeO.none _)
  | (with_reducible refine LeO.ite ?_ ?_)
  | (with_reducible refine LeO.bind ?_ (fun _=>?_))
  | exact ih0 _ _ _
  | exact LeO.none _
  | refine LeO.ite ?_ ?_
  | refine LeO.bind ?_ (fun _=>?_)
set_option maxHeartbeats 8000000 in
set_option maxRecDepth 100000 in
theorem zf.calls (k : Nat) (A0 : Option Addr) (c0 : Nat) (l0 : List (S51)) (A1 : Option Addr) (c1 : Nat) (l1 : List (S61)) (r : Bool) (w : World) (hr0 : Kd.C k51 w A0 l0.length l0) (hc0 : l0.length ≤ c0) (hr1 : Kd.C k61 w A1 l1.length l1) (hc1 : l1.length ≤ c1) (h : zf.f k l0 l1 = some r) :
 Calls Try.prog 25 #[.slice A0 l0.length c0,.slice A1 l1.length c1] w fun e w'=>e = .returned (.bool r) ∧ Drawn0 w w':=by
 have hu51:=Try.underlying51
 have hu61:=Try.underlying61
 have HR0:=z3.mk hr0
 have HC0:=z3.mk hc0
 clear hr0 hc0
 have HR1:=z3.mk hr1
 have HC1:=z3.mk hc1
 clear hr1 hc1
 have H : (if (l0.length : Int) = (l1.length : Int) then (zf.l0 k l0 l1 0) else (some false)) = some r:=h
 clear h
 by_cases c3 : (l0.length : Int) = (l1.length : Int)
 rotate_left
 · rw [if_neg c3] at H
   have c3b0 : ((l0.length : Int) == (l1.length : Int)) = false:=beq_eq_false_iff_ne.mpr c3
   have c3b1 : ((l0.length : Int) != (l1.length : Int)) = true:=bne_iff_ne.mpr c3
   have c3b2 : (l0.length == l1.length) = false:=by first|simpa using c3|(simp at c3 ⊢;omega)
   obtain rfl:=Option.some.inj H
   go_enter Try.func25,Try.ntmps25
   go_wp2
   repeat (go_quiet (fail);try go_wp2)
   go_ret
   exact ⟨by first|rfl|(simp;done)|(simp [*];done),by repeat (first|exact Drawn0.refl _|apply Drawn0.step)⟩
 rw [if_pos c3] at H
 have c3b0 : ((l0.length : Int) == (l1.length : Int)) = true:=beq_iff_eq.mpr c3
 have c3b1 : ((l0.length : Int) != (l1.length : Int)) = false:=bne_eq_false_iff_eq.mpr c3
 have c3b2 : (l0.length == l1.length) = true:=by first|simpa using c3|(simp at c3 ⊢;omega)
 clear c3
 have H':=z3.mk H
 clear H
 go_enter Try.func25,Try.ntmps25
 go_wp2
 repeat (go_quiet (fail);try go_wp2)
 go_loopg [5] k (fun kq v5 w'=>∃ (x5_1 : Int),v5 = .int .i64 x5_1 ∧ z3 (zf.l0 kq l0 l1 x5_1 = some r) ∧ z3 (kq ≤ k) ∧ Drawn0 w w')
 case atStart=>exact ⟨(0),(by first|rfl|(simp;done)|(simp [*];done)),H',⟨Nat.le_refl _⟩,by repeat (first|exact Drawn0.refl _|apply Drawn0.step)⟩
 case round =>
  clear H'
  (try clear c1);(try clear c2);(try clear p2);(try clear c3);(try clear c3b0);(try clear c3b1);(try clear c3b2)
  obtain ⟨x5_1,rfl,HA,HK1,⟨m1,rfl⟩⟩:=hrel
  cases gk with
  | zero=>exact absurd HA.out (by simp [zf.l0])
  | succ k1 =>
   have H:=HA.out
   clear HA
   simp only [zf.l0] at H
   by_cases c4 : x5_1 < (l0.length : Int)
   rotate_left
   · rw [if_neg c4] at H
     have c4b0 : decide (x5_1 < (l0.length : Int)) = false:=decide_eq_false c4
     clear c4
     obtain rfl:=Option.some.inj H
     go_wp2
     repeat (go_quiet (fail);try go_wp2)
     go_ret
     exact ⟨by first|rfl|(simp;done)|(simp [*];done),by repeat (first|exact Drawn0.refl _|apply Drawn0.step)⟩
   rw [if_pos c4] at H
   have c4b0 : decide (x5_1 < (l0.length : Int)) = true:=decide_eq_true c4
   clear c4
   by_cases c5 : 0 ≤ x5_1
   rotate_left
   · rw [if_neg c5] at H
     exact absurd H (by simp)
   rw [if_pos c5] at H
   have c5b0 : decide (0 ≤ x5_1) = true:=decide_eq_true c5
   clear c5
   by_cases c6 : x5_1 < (l1.length : Int)
   rotate_left
   · rw [if_neg c6] at H
     exact absurd H (by simp)
   rw [if_pos c6] at H
   have c6b0 : decide (x5_1 < (l1.length : Int)) = true:=decide_eq_true c6
   clear c6
   by_cases c7 : (!(((zx l0 x5_1).f0) == ((z12 l1 x5_1).f0)) || (!(((zx l0 x5_1).f1) == ((z12 l1 x5_1).f1)))) = true
   · rw [if_pos c7] at H
     have c7b0 : (!(((zx l0 x5_1).f0) == ((z12 l1 x5_1).f0)) || (!(((zx l0 x5_1).f1) == ((z12 l1 x5_1).f1)))) = true:=c7
     clear c7
     obtain rfl:=Option.some.inj H
     have p101 : 0 ≤ (x5_1 : Int):=of_decide_eq_true (by first|(with_reducible assumption)|assumption)
     have q101 : x5_1 < (l0.length : Int):=of_decide_eq_true (by first|(with_reducible assumption)|assumption)
     obtain ⟨ad101,e101,hx101_0,hx101_1⟩:=z2b HR0.out x5_1 p101 q101
     cases e101
     replace p101:=eq_true p101
     replace q101:=eq_true q101
     have p102 : 0 ≤ (x5_1 : Int):=of_decide_eq_true (by first|(with_reducible assumption)|assumption)
     have q102 : x5_1 < (l1.length : Int):=of_decide_eq_true (by first|(with_reducible assumption)|assumption)
     obtain ⟨ad102,e102,hx102_0,hx102_1⟩:=z2N HR1.out x5_1 p102 q102
     cases e102
     replace p102:=eq_true p102
     replace q102:=eq_true q102
     go_wp2
     repeat (go_quiet (fail);try go_wp2)
     go_ret
     exact ⟨by first|rfl|(simp;done)|(simp [*];done),by repeat (first|exact Drawn0.refl _|apply Drawn0.step)⟩
   rw [if_neg c7] at H
   have c7b0 : (!(((zx l0 x5_1).f0) == ((z12 l1 x5_1).f0)) || (!(((zx l0 x5_1).f1) == ((z12 l1 x5_1).f1)))) = false:=by simpa using c7
   clear c7
   have H':=z3.mk H
   clear H
   have p101 : 0 ≤ (x5_1 : Int):=of_decide_eq_true (by first|(with_reducible assumption)|assumption)
   have q101 : x5_1 < (l0.length : Int):=of_decide_eq_true (by first|(with_reducible assumption)|assumption)
   obtain ⟨ad101,e101,hx101_0,hx101_1⟩:=z2b HR0.out x5_1 p101 q101
   cases e101
   replace p101:=eq_true p101
   replace q101:=eq_true q101
   have p102 : 0 ≤ (x5_1 : Int):=of_decide_eq_true (by first|(with_reducible assumption)|assumption)
   have q102 : x5_1 < (l1.length : Int):=of_decide_eq_true (by first|(with_reducible assumption)|assumption)
   obtain ⟨ad102,e102,hx102_0,hx102_1⟩:=z2N HR1.out x5_1 p102 q102
   cases e102
   replace p102:=eq_true p102
   replace q102:=eq_true q102
   go_wp2
   repeat (go_quiet (fail);try go_wp2)
   go_roundg k1
   case measure=>have:=HK1.out;omega
   case rel=>exact ⟨(wrap64 (x5_1 + 1)),(by first|rfl|(simp;done)|(simp [*];done)),H',⟨by have:=HK1.out;omega⟩,by repeat (first|exact Drawn0.refl _|apply Drawn0.step)⟩
end Go.Proofs.Ytngcaphdkgihmaa.P
namespace Go.Proofs.Ytngcaphdkgihmaa.P
open Go.RowKit Go.Proofs.YtngcaphdkgihmaaW.PrintWords Go.Proofs.YtngcaphdkgihmaaW.PrintLast Go.Proofs.YtngcaphdkgihmaaW.PrintMore
attribute [local go_sem] zW zY z15 z16 zQ zR zX zZ   -- for this text's walks alone
set_option linter.unusedVariables false
set_option linter.unusedSimpArgs false
def zq.l0 : Nat → List (S51) → List (S61) → Int → Option ((List (S61)))
 | 0,_,_,_=>none
 | k + 1,x0,x3,x4=>if x4 < (x0.length : Int) then (if 0 ≤ x4 then (if x3.length < 8796093022208 then (zq.l0 k x0 (x3 ++ [(⟨(zx x0 x4).f0,(zx x0 x4).f1⟩ : S61)]) (wrap64 (x4 + 1))) else (none)) else (none)) else (some x3)
def zq.f (k : Nat) (l0 : List (S51)) : Option ((List (S61))):=zq.l0 k l0 ([] : List (S61)) 0
theorem zq.z13 : ∀ k,(∀ y0 y1 y2,LeO (zq.l0 k y0 y1 y2) (zq.l0 (k + 1) y0 y1 y2))
 | 0=>fun _ _ _ r h=>by simp [zq.l0] at h
 | k + 1=>by
  have ih0:=zq.z13 k
  · intro y0 y1 y2
    unfold zq.l0
    repeat' first
    | (with_reducible exact ih0 _ _ _)
    | (with_reducible exact LeO.refl _)
    | (with_reducible exact LeO.none _)
    | (with_reducible refine LeO.ite ?_ ?_)
    | (with_reducible refine LeO.bind ?_ (fun _=>?_))
    | exact ih0 _ _ _
    | exact LeO.none _
    | refine LeO.ite ?_ ?_
    | refine LeO.bind ?_ (fun _=>?_)
theorem zq.mono : ∀ a0 k,LeO (zq.f k a0) (zq.f (k + 1) a0):=by
 intro a0 k
 have ih0:=zq.z13 k
 unfold zq.f
 repeat' first
  | (with_reducible exact ih0 _ _ _)
  | (with_reducible exact LeO.refl _)
  | (with_reducible exact LeO.none _)
  | (with_reducible refine LeO.ite ?_ ?_)
  | (with_reducible refine LeO.bind ?_ (fun _=>?_))
  | exact ih0 _ _ _
  | exact LeO.none _
  | refine LeO.ite ?_ ?_
  | refine LeO.bind ?_ (fun _=>?_)
set_option maxHeartbeats 8000000 in
set_option maxRecDepth 100000 in
theorem zq.calls (k : Nat) (A0 : Option Addr) (c0 : Nat) (l0 : List (S51)) (r : List (S61)) (w : World) (hr0 : Kd.C k51 w A0 l0.length l0) (hc0 : l0.length ≤ c0) (h : zq.f k l0 = some r) :
 Calls Try.prog 27 #[.slice A0 l0.length c0] w fun e w'=>∃ v0_ : Value,e = .returned (v0_) ∧ Kd.R k61 61 w' w.heap.size (fun _=>True) v0_ r ∧ Below w.heap.size w w':=by
 have hu51:=Try.underlying51
 have HR0:=z3.mk hr0
 have HC0:=z3.mk hc0
 clear hr0 hc0
 have HB:=z3.mk (Below.refl w.heap.size w)
 have H : (zq.l0 k l0 ([] : List (S61)) 0) = some r:=h
 clear h
 have H':=z3.mk H
 clear H
 go_enter Try.func27,Try.ntmps27
 go_wp2
 go_loopg [3,4] k (fun kq v3 v4 w'=>∃ (x3_1 : List (S61)) (x4_1 : Int),v4 = .int .i64 x4_1 ∧ z3 (zq.l0 kq l0 x3_1 x4_1 = some r) ∧ z3 (kq ≤ k) ∧ z3 (Kd.R k61 61 w' w.heap.size (fun _=>True) v3 x3_1) ∧ z3 (Below w.heap.size w w'))
 case atStart=>exact ⟨(([] : List (S61))),(0),(by first|rfl|(simp;done)|(simp [*];done)),H',⟨Nat.le_refl _⟩,⟨by first|exact Kd.z1L _ _ _ _ _|exact Kd.z1S _ _ _ _ _|exact Kd.z1V _ _ _ _ _|exact Kd.z1T _ _ _ _ _|exact Kd.z1U _ _ _ _ _⟩,⟨by repeat (first|(with_reducible first|exact HB.out|apply z2|apply z0|apply z1)|exact HB.out)⟩⟩
 case round =>
  clear H'
  obtain ⟨x3_1,x4_1,rfl,HA,HK1,HO_3,HB⟩:=hrel
  cases gk with
  | zero=>exact absurd HA.out (by simp [zq.l0])
  | succ k1 =>
   have H:=HA.out
   clear HA
   simp only [zq.l0] at H
   by_cases c2 : x4_1 < (l0.length : Int)
   rotate_left
   · rw [if_neg c2] at H
     have c2b0 : decide (x4_1 < (l0.length : Int)) = false:=decide_eq_false c2
     clear c2
     obtain rfl:=Option.some.inj H
     go_wp2
     go_ret
     exact ⟨_,by first|rfl|(simp [zg,zh] <;> rfl)|(simp [*,zg,zh] <;> rfl),by (with_reducible repeat (first|apply Kd.zr|apply Kd.zs|apply Kd.zy));exact HO_3.out,by repeat (first|(with_reducible first|exact HB.out|apply z2|apply z0|apply z1)|exact HB.out)⟩
   rw [if_pos c2] at H
   have c2b0 : decide (x4_1 < (l0.length : Int)) = true:=decide_eq_true c2
   clear c2
   by_cases c3 : 0 ≤ x4_1
   rotate_left
   · rw [if_neg c3] at H
     exact absurd H (by simp)
   rw [if_pos c3] at H
   have c3b0 : decide (0 ≤ x4_1) = true:=decide_eq_true c3
   clear c3
   by_cases c4 : x3_1.length < 8796093022208
   rotate_left
   · rw [if_neg c4] at H
     exact absurd H (by simp)
   rw [if_pos c4] at H
   have LMc4:=z3.mk c4
   clear c4
   obtain ⟨y102,hy102⟩ : ∃ y_ : List (S61),y_ = (x3_1 ++ [(⟨(zx l0 x4_1).f0,(zx l0 x4_1).f1⟩ : S61)]):=⟨_,rfl⟩
   replace H : (zq.l0 k1 l0 y102 (wrap64 (x4_1 + 1))) = some r:=by first|(rw [hy102];with_reducible exact H)|(have H2_:=(Option.bind_some _ _).symm.trans H;rw [hy102];with_reducible exact H2_)|(have H2_:=(Option.bind_some _ _).symm.trans H;with_reducible exact H2_)|with_reducible exact H|(rw [hy102];exact H)|exact H
   have Ny102:=z3.mk hy102
   clear hy102
   have H':=z3.mk H
   clear H
   have p101 : 0 ≤ (x4_1 : Int):=of_decide_eq_true (by first|(with_reducible assumption)|assumption)
   have q101 : x4_1 < (l0.length : Int):=of_decide_eq_true (by first|(with_reducible assumption)|assumption)
   obtain ⟨ad101,e101,hx101_0,hx101_1⟩:=z2b HR0.out x4_1 p101 q101
   cases e101
   replace hx101_0:=(HB.out.cell (World.block_lt_of_cell? w _ hx101_0)).trans hx101_0
   replace hx101_1:=(HB.out.cell (World.block_lt_of_cell? w _ hx101_1)).trans hx101_1
   replace p101:=eq_true p101
   replace q101:=eq_true q101
   go_wp2_with (first|((with_reducible refine z1E (b:=.append) (xs:=#[.tmp 11,.tmp 16]) rfl ?_);at_builtin;refine Kd.z2w k61 (w0:=w) w.heap.size rfl (.tmp 11) (.tmp 16) 43 61 (.agg #[(.int .u64 0),(.int .u64 0)]) 16 rfl Try.underlying43 info61 rfl (by decide) (by omega) u3 x3_1 (⟨(zx l0 x4_1).f0,(zx l0 x4_1).f1⟩ : S61) [.int .u64 ((zx l0 x4_1).f0),.int .u64 ((zx l0 x4_1).f1)] (fun _=>True) (fun _=>False) rfl rfl ?aP (fun _ hk=>hk.elim) ?aF ?aO ?aB ?aS ?aL ?_;(case aP=>exact z3I _ _ _ (⟨(zx l0 x4_1).f0,(zx l0 x4_1).f1⟩ : S61));(case aB=>exact (by repeat (first|(with_reducible first|exact HB.out|apply z2|apply z0|apply z1)|exact HB.out)));(case aF=>exact (fun _ _=>trivial));(case aO=>exact (by (with_reducible repeat (first|apply Kd.zr|apply Kd.zs|apply Kd.zy));exact HO_3.out));(case aS=>exact (zc (by repeat (first|(with_reducible first|exact HB.out|apply z2|apply z0|apply z1)|exact HB.out))));(case aL=>have:=LMc4.out;omega);intro v103 w5 ho hb hg hat;rw [← Ny102.out] at ho;have n0_:=z3.mk (hb);have n1_:=z3.mk (ho);clear HB;clear HO_3;have HB:=n0_;have HO104:=n1_;clear n0_ n1_;clear ho hb hg hat))
   go_roundg k1
   case measure=>have:=HK1.out;omega
   case rel=>exact ⟨(y102),(wrap64 (x4_1 + 1)),(by first|rfl|(simp;done)|(simp [*];done)),H',⟨by have:=HK1.out;omega⟩,⟨by (with_reducible repeat (first|apply Kd.zr|apply Kd.zs|apply Kd.zy));exact HO104.out⟩,⟨by repeat (first|(with_reducible first|exact HB.out|apply z2|apply z0|apply z1)|exact HB.out)⟩⟩
end Go.Proofs.Ytngcaphdkgihmaa.P
namespace Go.Proofs.Ytngcaphdkgihmaa.P
open Go.RowKit Go.Proofs.YtngcaphdkgihmaaW.PrintWords Go.Proofs.YtngcaphdkgihmaaW.PrintLast Go.Proofs.YtngcaphdkgihmaaW.PrintMore
attribute [local go_sem] zW zY z15 z16 zQ zR zX zZ   -- for this text's walks alone
set_option linter.unusedVariables false
set_option linter.unusedSimpArgs false
def z1k.f (a0_0 : Int) (a0_1 : Int) (a1 : Int) : Option (Int):=if a1 ≥ 64 then (if 0 ≤ (IntKind.u64.wrap (wrap64 (a1 - 64))) then (some (Go.bits .and .u64 (shr .u64 a0_0 (IntKind.u64.wrap (wrap64 (a1 - 64)))) 1)) else (none)) else (if 0 ≤ (IntKind.u64.wrap (a1)) then (some (Go.bits .and .u64 (shr .u64 a0_1 (IntKind.u64.wrap (a1))) 1)) else (none))
set_option maxHeartbeats 8000000 in
set_option maxRecDepth 100000 in
theorem z1k.calls (a0_0 : Int) (a0_1 : Int) (a1 : Int) (r : Int) (w : World) (h : z1k.f a0_0 a0_1 a1 = some r) :
 Calls Try.prog 81 #[.agg #[.int .u64 a0_0,.int .u64 a0_1],.int .i64 a1] w fun e w'=>e = .returned (.int .u64 r) ∧ Below w.heap.size w w':=by
 have hu61:=Try.underlying61
 have HB:=z3.mk (Below.refl w.heap.size w)
 have H : (if a1 ≥ 64 then (if 0 ≤ (IntKind.u64.wrap (wrap64 (a1 - 64))) then (some (Go.bits .and .u64 (shr .u64 a0_0 (IntKind.u64.wrap (wrap64 (a1 - 64)))) 1)) else (none)) else (if 0 ≤ (IntKind.u64.wrap (a1)) then (some (Go.bits .and .u64 (shr .u64 a0_1 (IntKind.u64.wrap (a1))) 1)) else (none))) = some r:=h
 clear h
 by_cases c3 : a1 ≥ 64
 · rw [if_pos c3] at H
   have c3b0 : decide (64 ≤ a1) = true:=decide_eq_true c3
   clear c3
   obtain ⟨ji4,hji4⟩ : ∃ j_ : Int,(IntKind.u64.wrap (wrap64 (a1 - 64))) = j_:=⟨_,rfl⟩
   replace H : (if 0 ≤ (ji4) then (some (Go.bits .and .u64 (shr .u64 a0_0 (ji4)) 1)) else (none)) = some r:=by first|(rw [hji4] at H;exact H)|(simp only [hji4] at H ⊢;exact H)
   by_cases c5 : 0 ≤ (ji4)
   rotate_left
   · rw [if_neg c5] at H
     exact absurd H (by simp)
   rw [if_pos c5] at H
   have c5b0:=eq_true c5
   have c5b1 : decide (0 ≤ (ji4)) = true:=decide_eq_true c5
   clear c5
   obtain ⟨ji6,hji6⟩ : ∃ j_ : Int,(shr .u64 a0_0 (ji4)) = j_:=⟨_,rfl⟩
   replace H : (some (Go.bits .and .u64 (ji6) 1)) = some r:=by first|(rw [hji6] at H;exact H)|(simp only [hji6] at H ⊢;exact H)
   have hji6_ : (a0_0 / 2 ^ min (ji4).toNat 64) = ji6:=hji6
   have hji6z : (ji4) ≤ 64 → (a0_0 / 2 ^ (ji4).toNat) = ji6:=z1B hji6
   obtain rfl:=Option.some.inj H
   go_enter Try.func81,Try.ntmps81
   go_wp2_with (first|((with_reducible refine zE (N:=2) rfl ?_);refine zC ?hg (N:=2) ?hd (cs:=#[.int .u64 a0_0,.int .u64 a0_1]) (t:=61) ?hr ?_;(case hd=>rfl);(case hg=>rfl);(case hr=>first|(go_simp;done)|(go_simp;rfl));intro gb101 hg w7 hbox hb;have n0_:=z3.mk (zb (by repeat (first|(with_reducible first|exact HB.out|apply z2|apply z0|apply z1)|exact HB.out)) hb);have n1_:=z3.mk (hbox);have n2_:=z3.mk ((by rw [hg];exact (zc (by repeat (first|(with_reducible first|exact HB.out|apply z2|apply z0|apply z1)|exact HB.out))) : w.heap.size ≤ gb101));have n3_:=z3.mk ((by rw [hg];exact (zc (by repeat (first|(with_reducible first|exact HB.out|apply z2|apply z0|apply z1)|exact HB.out))) : w.heap.size ≤ gb101));clear HB;have HB:=n0_;have BK101:=n1_;have GW101:=n2_;have GE101:=n3_;clear n0_ n1_ n2_ n3_;clear hb hbox hg;have hcz8_0 : w7.cell? ⟨gb101,0,none⟩ = some (.int .u64 a0_0):=(ze BK101.out 0).trans rfl;have hcz8_1 : w7.cell? ⟨gb101,1,none⟩ = some (.int .u64 a0_1):=(ze BK101.out 1).trans rfl;have hfz8_0:=zd BK101.out 0;have hfz8_1:=zd BK101.out 1))
   go_ret
   exact ⟨by first|rfl|(simp [zg,zh] <;> rfl)|(simp only [← hji4,← hji6];first|rfl|(simp [zg,zh] <;> rfl))|(simp [*,zg,zh] <;> rfl),by repeat (first|(with_reducible first|exact HB.out|apply z2|apply z0|apply z1|refine z6 ?_ GE101.out)|exact HB.out)⟩
 rw [if_neg c3] at H
 have c3b0 : decide (64 ≤ a1) = false:=decide_eq_false c3
 clear c3
 obtain ⟨ji9,hji9⟩ : ∃ j_ : Int,(IntKind.u64.wrap (a1)) = j_:=⟨_,rfl⟩
 replace H : (if 0 ≤ (ji9) then (some (Go.bits .and .u64 (shr .u64 a0_1 (ji9)) 1)) else (none)) = some r:=by first|(rw [hji9] at H;exact H)|(simp only [hji9] at H ⊢;exact H)
 by_cases c10 : 0 ≤ (ji9)
 rotate_left
 · rw [if_neg c10] at H
   exact absurd H (by simp)
 rw [if_pos c10] at H
 have c10b0:=eq_true c10
 have c10b1 : decide (0 ≤ (ji9)) = true:=decide_eq_true c10
 clear c10
 obtain ⟨ji11,hji11⟩ : ∃ j_ : Int,(shr .u64 a0_1 (ji9)) = j_:=⟨_,rfl⟩
 replace H : (some (Go.bits .and .u64 (ji11) 1)) = some r:=by first|(rw [hji11] at H;exact H)|(simp only [hji11] at H ⊢;exact H)
 have hji11_ : (a0_1 / 2 ^ min (ji9).toNat 64) = ji11:=hji11
 have hji11z : (ji9) ≤ 64 → (a0_1 / 2 ^ (ji9).toNat) = ji11:=z1B hji11
 obtain rfl:=Option.some.inj H
 go_enter Try.func81,Try.ntmps81
 go_wp2_with (first|((with_reducible refine zE (N:=2) rfl ?_);refine zC ?hg (N:=2) ?hd (cs:=#[.int .u64 a0_0,.int .u64 a0_1]) (t:=61) ?hr ?_;(case hd=>rfl);(case hg=>rfl);(case hr=>first|(go_simp;done)|(go_simp;rfl));intro gb101 hg w12 hbox hb;have n0_:=z3.mk (zb (by repeat (first|(with_reducible first|exact HB.out|apply z2|apply z0|apply z1)|exact HB.out)) hb);have n1_:=z3.mk (hbox);have n2_:=z3.mk ((by rw [hg];exact (zc (by repeat (first|(with_reducible first|exact HB.out|apply z2|apply z0|apply z1)|exact HB.out))) : w.heap.size ≤ gb101));have n3_:=z3.mk ((by rw [hg];exact (zc (by repeat (first|(with_reducible first|exact HB.out|apply z2|apply z0|apply z1)|exact HB.out))) : w.heap.size ≤ gb101));clear HB;have HB:=n0_;have BK101:=n1_;have GW101:=n2_;have GE101:=n3_;clear n0_ n1_ n2_ n3_;clear hb hbox hg;have hcz13_0 : w12.cell? ⟨gb101,0,none⟩ = some (.int .u64 a0_0):=(ze BK101.out 0).trans rfl;have hcz13_1 : w12.cell? ⟨gb101,1,none⟩ = some (.int .u64 a0_1):=(ze BK101.out 1).trans rfl;have hfz13_0:=zd BK101.out 0;have hfz13_1:=zd BK101.out 1))
 go_ret
 exact ⟨by first|rfl|(simp [zg,zh] <;> rfl)|(simp only [← hji9,← hji11];first|rfl|(simp [zg,zh] <;> rfl))|(simp [*,zg,zh] <;> rfl),by repeat (first|(with_reducible first|exact HB.out|apply z2|apply z0|apply z1|refine z6 ?_ GE101.out)|exact HB.out)⟩
end Go.Proofs.Ytngcaphdkgihmaa.P
namespace Go.Proofs.Ytngcaphdkgihmaa.P
open Go.RowKit Go.Proofs.YtngcaphdkgihmaaW.PrintWords Go.Proofs.YtngcaphdkgihmaaW.PrintLast Go.Proofs.YtngcaphdkgihmaaW.PrintMore
attribute [local go_sem] zW zY z15 z16 zQ zR zX zZ   -- for this text's walks alone
set_option linter.unusedVariables false
set_option linter.unusedSimpArgs false
mutual
def zu.j0 : Nat → Int → List Int → Bool → Int → Int → Option (Bool)
 | 0,_,_,_,_,_=>none
 | k + 1,x0,x5,x13,x102000,x102001=>if x13 = true then (some false) else (if 0 ≤ x0 then (if x0 < (x5.length : Int) then (zu.l0 k (rd x5 x0) x102000 x102001) else (none)) else (none))
def zu.l0 : Nat → Int → Int → Int → Option (Bool)
 | 0,_,_,_=>none
 | k + 1,x6,x102000,x102001=>if x6 < 128 then ((z1k.f x102000 x102001 x6).bind fun t106=>(if t106 = 1 then (some false) else (zu.l0 k (wrap64 (x6 + 1)) x102000 x102001))) else (some true)
end
def zu.f (k : Nat) (a0 : Int) (a1_0 : Int) (a1_1 : Int) : Option (Bool):=(some (([1,2,4,8,16,32,64,128] : List Int) : List Int)).bind fun y102=>(if a0 < 0 then (zu.j0 k a0 y102 true a1_0 a1_1) else (zu.j0 k a0 y102 (decide (a0 > 7)) a1_0 a1_1))
theorem zu.z13 : ∀ k,(∀ y0 y1 y2 y3 y4,LeO (zu.j0 k y0 y1 y2 y3 y4) (zu.j0 (k + 1) y0 y1 y2 y3 y4)) ∧ (∀ y0 y1 y2,LeO (zu.l0 k y0 y1 y2) (zu.l0 (k + 1) y0 y1 y2))
 | 0=>⟨fun _ _ _ _ _ r h=>by simp [zu.j0] at h,fun _ _ _ r h=>by simp [zu.l0] at h⟩
 | k + 1=>by
  obtain ⟨ih0,ih1⟩:=zu.z13 k
  refine ⟨?_,?_⟩
  · intro y0 y1 y2 y3 y4
    unfold zu.j0
    repeat' first
    | (with_reducible exact ih0 _ _ _ _ _)
    | (with_reducible exact ih1 _ _ _)
    | (with_reducible exact LeO.refl _)
    | (with_reducible exact LeO.none _)
    | (with_reducible refine LeO.ite ?_ ?_)
    | (with_reducible refine LeO.bind ?_ (fun _=>?_))
    | exact ih0 _ _ _ _ _
    | exact ih1 _ _ _
    | exact LeO.none _
    | refine LeO.ite ?_ ?_
    | refine LeO.bind ?_ (fun _=>?_)
  · intro y0 y1 y2
    unfold zu.l0
    repeat' first
    | (with_reducible exact ih0 _ _ _ _ _)
    | (with_reducible exact ih1 _ _ _)
    | (with_reducible exact LeO.refl _)
    | (with_reducible exact LeO.none _)
    | (with_reducible refine LeO.ite ?_ ?_)
    | (with_reducible refine LeO.bind ?_ (fun _=>?_))
    | exact ih0 _ _ _ _ _
    | exact ih1 _ _ _
    | exact LeO.none _
    | refine LeO.ite ?_ ?_
    | refine LeO.bind ?_ (fun _=>?_)
theorem zu.mono : ∀ a0 a1 a2 k,LeO (zu.f k a0 a1 a2) (zu.f (k + 1) a0 a1 a2):=by
 intro a0 a1 a2 k
 obtain ⟨ih0,ih1⟩:=zu.z13 k
 unfold zu.f
 repeat' first
  | (with_reducible exact ih0 _ _ _ _ _)
  | (with_reducible exact ih1 _ _ _)
  | (with_reducible exact LeO.refl _)
  | (with_reducible exact LeO.none _)
  | (with_reducible refine LeO.ite ?_ ?_)
  | (with_reducible refine LeO.bind ?_ (fun _=>?_))
  | exact ih0 _ _ _ _ _
  | exact ih1 _ _ _
  | exact LeO.none _
  | refine LeO.ite ?_ ?_
  | refine LeO.bind ?_ (fun _=>?_)
set_option maxHeartbeats 8000000 in
set_option maxRecDepth 100000 in
theorem zu.calls (k : Nat) (a0 : Int) (a1_0 : Int) (a1_1 : Int) (r : Bool) (w : World) (h : zu.f k a0 a1_0 a1_1 = some r) :
 Calls Try.prog 39 #[.int .i64 a0,.agg #[.int .u64 a1_0,.int .u64 a1_1]] w fun e w'=>e = .returned (.bool r) ∧ Below w.heap.size w w':=by
 have hu61:=Try.underlying61
 have HB:=z3.mk (Below.refl w.heap.size w)
 have H : ((some (([1,2,4,8,16,32,64,128] : List Int) : List Int)).bind fun y102=>(if a0 < 0 then (zu.j0 k a0 y102 true a1_0 a1_1) else (zu.j0 k a0 y102 (decide (a0 > 7)) a1_0 a1_1))) = some r:=h
 clear h
 obtain ⟨y102,hy102⟩ : ∃ y_ : List Int,y_ = (([1,2,4,8,16,32,64,128] : List Int)):=⟨_,rfl⟩
 replace H : (if a0 < 0 then (zu.j0 k a0 y102 true a1_0 a1_1) else (zu.j0 k a0 y102 (decide (a0 > 7)) a1_0 a1_1)) = some r:=by first|(rw [hy102];with_reducible exact H)|(have H2_:=(Option.bind_some _ _).symm.trans H;rw [hy102];with_reducible exact H2_)|(have H2_:=(Option.bind_some _ _).symm.trans H;with_reducible exact H2_)|with_reducible exact H|(rw [hy102];exact H)|exact H
 have Ny102:=z3.mk hy102
 clear hy102
 have HC3:=z3.mk H
 clear H
 go_enter Try.func39,Try.ntmps39
 go_upto_region 2 with (first|((with_reducible refine zE (N:=3) rfl ?_);refine zC ?hg (N:=3) ?hd (cs:=#[.int .u64 a1_0,.int .u64 a1_1]) (t:=61) ?hr ?_;(case hd=>rfl);(case hg=>rfl);(case hr=>first|(go_simp;done)|(go_simp;rfl));intro gb101 hg w4 hbox hb;have n0_:=z3.mk (zb (by repeat (first|(with_reducible first|exact HB.out|apply z2|apply z0|apply z1)|exact HB.out)) hb);have n1_:=z3.mk (hbox);have n2_:=z3.mk ((by rw [hg];exact (zc (by repeat (first|(with_reducible first|exact HB.out|apply z2|apply z0|apply z1)|exact HB.out))) : w.heap.size ≤ gb101));have n3_:=z3.mk ((by rw [hg];exact (zc (by repeat (first|(with_reducible first|exact HB.out|apply z2|apply z0|apply z1)|exact HB.out))) : w.heap.size ≤ gb101));clear HB;have HB:=n0_;have BK101:=n1_;have GW101:=n2_;have GE101:=n3_;clear n0_ n1_ n2_ n3_;clear hb hbox hg)|((with_reducible refine zE (N:=7) rfl ?_);refine Kd.z3D (Kd.int .i64) _ 3 ?hg (N:=7) ?hd (xs:=([1,2,4,8,16,32,64,128] : List Int)) (inner:=[.int .i64 1,.int .i64 2,.int .i64 4,.int .i64 8,.int .i64 16,.int .i64 32,.int .i64 64,.int .i64 128]) (ok:=fun _=>True) (okp:=fun _=>True) ?hr ?hp (fun _ hk=>hk) trivial (Below.refl _ _) (Nat.le_refl _) (by simp) ?_;(case hd=>rfl);(case hg=>rfl);(case hr=>first|(go_simp;done)|(go_simp;rfl));(case hp=>exact (Reps.one (show Kd.M (Kd.int .i64) _ _ _ 1 [.int .i64 1] from rfl) (Reps.one (show Kd.M (Kd.int .i64) _ _ _ 2 [.int .i64 2] from rfl) (Reps.one (show Kd.M (Kd.int .i64) _ _ _ 4 [.int .i64 4] from rfl) (Reps.one (show Kd.M (Kd.int .i64) _ _ _ 8 [.int .i64 8] from rfl) (Reps.one (show Kd.M (Kd.int .i64) _ _ _ 16 [.int .i64 16] from rfl) (Reps.one (show Kd.M (Kd.int .i64) _ _ _ 32 [.int .i64 32] from rfl) (Reps.one (show Kd.M (Kd.int .i64) _ _ _ 64 [.int .i64 64] from rfl) (Reps.one (show Kd.M (Kd.int .i64) _ _ _ 128 [.int .i64 128] from rfl) (Reps.none _ _))))))))));intro v103 w5 ho6 hb hg_ hnew_;clear hg_ hnew_;(first|rw [← Ny102.out] at ho6|(simp only [Int.reduceToNat] at ho6;rw [← Ny102.out] at ho6));have n0_:=z3.mk (Kd.z1b ho6 (zc (by repeat (first|(with_reducible first|exact HB.out|apply z2|apply z0|apply z1|refine z6 ?_ GE101.out)|exact HB.out))));have n1_:=z3.mk (zn (g:=gb101) (o:=.cells #[.int .u64 a1_0,.int .u64 a1_1] 61 (0,0)) (by (with_reducible repeat (first|refine z5 ?_ _|refine z8 ?_|refine z4 ?_ _));exact BK101.out) hb);have n2_:=z3.mk (zb (by repeat (first|(with_reducible first|exact HB.out|apply z2|apply z0|apply z1|refine z6 ?_ GE101.out)|exact HB.out)) hb);clear BK101;clear HB;have HO104:=n0_;have BK101:=n1_;have HB:=n2_;clear n0_ n1_ n2_;clear hb ho6))
 (try simp only [Act.put,List.setIfInBounds_toArray,List.set_cons_zero,List.set_cons_succ])
 go_cut [13] (fun v13 wc=>∃ (kq : Nat) (x13_2 : Bool),v13 = .bool x13_2 ∧ z3 (zu.j0 kq a0 y102 x13_2 a1_0 a1_1 = some r) ∧ z3 (kq ≤ k) ∧ z3 (Kd.R (Kd.int .i64) 3 wc w.heap.size (fun _=>True) v103 y102) ∧ z3 (wc.heap[gb101]? = some (.cells #[.int .u64 a1_0,.int .u64 a1_1] 61 (0,0))) ∧ z3 (Below w.heap.size w wc))
 case first =>
  have H:=HC3.out
  clear HC3
  by_cases c7 : a0 < 0
  rotate_left
  · rw [if_neg c7] at H
    have c7b0 : decide (a0 < 0) = false:=decide_eq_false c7
    clear c7
    (first|rw [c7b0]|(simp only [zD,zI];rw [c7b0])|skip)
    have H':=z3.mk H
    clear H
    go_wp2
    go_meet
    case rel=>exact ⟨_,(decide (a0 > 7)),(by first|rfl|(simp;done)|(simp [*];done)),H',⟨by first|omega|exact Nat.le_refl _⟩,⟨by (with_reducible repeat (first|apply Kd.zr|apply Kd.zs|apply Kd.zy));exact HO104.out⟩,⟨by (with_reducible repeat (first|refine z5 ?_ _|refine z8 ?_|refine z4 ?_ _));exact BK101.out⟩,⟨by repeat (first|(with_reducible first|exact HB.out|apply z2|apply z0|apply z1|refine z6 ?_ GE101.out)|exact HB.out)⟩⟩
  rw [if_pos c7] at H
  have c7b0 : decide (a0 < 0) = true:=decide_eq_true c7
  clear c7
  (first|rw [c7b0]|(simp only [zD,zI];rw [c7b0])|skip)
  have H':=z3.mk H
  clear H
  go_wp2
  go_meet
  case rel=>exact ⟨_,(true),(by first|rfl|(simp;done)|(simp [*];done)),H',⟨by first|omega|exact Nat.le_refl _⟩,⟨by (with_reducible repeat (first|apply Kd.zr|apply Kd.zs|apply Kd.zy));exact HO104.out⟩,⟨by (with_reducible repeat (first|refine z5 ?_ _|refine z8 ?_|refine z4 ?_ _));exact BK101.out⟩,⟨by repeat (first|(with_reducible first|exact HB.out|apply z2|apply z0|apply z1|refine z6 ?_ GE101.out)|exact HB.out)⟩⟩
 case rest =>
  clear HC3
  (try clear p2);(try clear c3);(try clear c7);(try clear c7b0)
  obtain ⟨kq,x13_2,rfl,HA,HJ2,HO_5,BK101,HB⟩:=hcut
  cases kq with
  | zero=>exact absurd HA.out (by simp [zu.j0])
  | succ kj2 =>
   have H:=HA.out
   clear HA
   simp only [zu.j0] at H
   by_cases c8 : x13_2 = true
   · subst c8
     have H1 : (some false) = some r:=by rw [if_pos rfl] at H;exact H
     clear H
     have H:=H1
     clear H1
     obtain rfl:=Option.some.inj H
     go_wp2
     go_ret
     exact ⟨by first|rfl|(simp [zg,zh] <;> rfl)|(simp [*,zg,zh] <;> rfl),by repeat (first|(with_reducible first|exact HB.out|apply z2|apply z0|apply z1|refine z6 ?_ GE101.out)|exact HB.out)⟩
   replace c8:=Bool.eq_false_iff.mpr c8
   subst c8
   have H1 : (if 0 ≤ a0 then (if a0 < (y102.length : Int) then (zu.l0 kj2 (rd y102 a0) a1_0 a1_1) else (none)) else (none)) = some r:=by rw [if_neg (show ¬ (false = true) by decide)] at H;exact H
   clear H
   have H:=H1
   clear H1
   by_cases c9 : 0 ≤ a0
   rotate_left
   · rw [if_neg c9] at H
     exact absurd H (by simp)
   rw [if_pos c9] at H
   have c9b0 : decide (0 ≤ a0) = true:=decide_eq_true c9
   clear c9
   by_cases c10 : a0 < (y102.length : Int)
   rotate_left
   · rw [if_neg c10] at H
     exact absurd H (by simp)
   rw [if_pos c10] at H
   have c10b0 : decide (a0 < (y102.length : Int)) = true:=decide_eq_true c10
   clear c10
   have H':=z3.mk H
   clear H
   obtain ⟨Ao11,co11,eo11⟩:=Kd.z10 HO_5.out
   subst eo11
   have p105 : 0 ≤ (a0 : Int):=of_decide_eq_true (by first|(with_reducible assumption)|assumption)
   have q105 : a0 < (y102.length : Int):=of_decide_eq_true (by first|(with_reducible assumption)|assumption)
   obtain ⟨ad105,e105,hx105_0⟩:=Kd.z5g (Kd.zA HO_5.out).2.2 a0 p105 q105
   cases e105
   replace p105:=eq_true p105
   replace q105:=eq_true q105
   go_wp2
   go_loopg [6] kj2 (fun kq v6 w'=>∃ (x6_2 : Int),v6 = .int .i64 x6_2 ∧ z3 (zu.l0 kq x6_2 a1_0 a1_1 = some r) ∧ z3 (kq ≤ kj2) ∧ z3 (w'.heap[gb101]? = some (.cells #[.int .u64 a1_0,.int .u64 a1_1] 61 (0,0))) ∧ z3 (Below w.heap.size w w'))
   case atStart=>exact ⟨(rd y102 a0),(by first|rfl|(simp;done)|(simp [*];done)),H',⟨Nat.le_refl _⟩,⟨by (with_reducible repeat (first|refine z5 ?_ _|refine z8 ?_|refine z4 ?_ _));exact BK101.out⟩,⟨by repeat (first|(with_reducible first|exact HB.out|apply z2|apply z0|apply z1|refine z6 ?_ GE101.out)|exact HB.out)⟩⟩
   case round =>
    clear H'
    (try clear c1);(try clear p1);(try clear q1);(try clear hx1);(try clear p2);(try clear c3);(try clear c7);(try clear c7b0);(try clear c8);(try clear c9);(try clear c9b0);(try clear c10);(try clear c10b0);(try clear p10);(try clear q10);(try clear hx10);(try clear hx105_0);(try clear p105);(try clear p2);(try clear q105)
    obtain ⟨x6_2,rfl,HA,HK2,BK101,HB⟩:=hrel
    cases gk with
    | zero=>exact absurd HA.out (by simp [zu.l0])
    | succ k2 =>
     have H:=HA.out
     clear HA
     simp only [zu.l0] at H
     by_cases c12 : x6_2 < 128
     rotate_left
     · rw [if_neg c12] at H
       have c12b0 : decide (x6_2 < 128) = false:=decide_eq_false c12
       clear c12
       obtain rfl:=Option.some.inj H
       go_wp2
       go_ret
       exact ⟨by first|rfl|(simp [zg,zh] <;> rfl)|(simp [*,zg,zh] <;> rfl),by repeat (first|(with_reducible first|exact HB.out|apply z2|apply z0|apply z1|refine z6 ?_ GE101.out)|exact HB.out)⟩
     rw [if_pos c12] at H
     have c12b0 : decide (x6_2 < 128) = true:=decide_eq_true c12
     clear c12
     replace H:=Option.bind_eq_some_iff.mp H
     obtain ⟨t106,A130,H⟩:=H
     replace H : (if t106 = 1 then (some false) else (zu.l0 k2 (wrap64 (x6_2 + 1)) a1_0 a1_1)) = some r:=H
     have A13:=z3.mk A130
     clear A130
     by_cases c14 : t106 = 1
     · rw [if_pos c14] at H
       have c14b0 : (t106 == 1) = true:=beq_iff_eq.mpr c14
       have c14b1 : (t106 != 1) = false:=bne_eq_false_iff_eq.mpr c14
       clear c14
       obtain rfl:=Option.some.inj H
       have hcz15_0 : wr.cell? ⟨gb101,0,none⟩ = some (.int .u64 a1_0):=(ze BK101.out 0).trans rfl
       have hcz15_1 : wr.cell? ⟨gb101,1,none⟩ = some (.int .u64 a1_1):=(ze BK101.out 1).trans rfl
       have hfz15_0:=zd BK101.out 0
       have hfz15_1:=zd BK101.out 1
       go_wp2_with (first|((with_reducible refine zl (f:=81) rfl ?_);refine goesL_ (some 24) rfl rfl Try.func81 (by kernel_rfl) rfl #[.agg #[.int .u64 a1_0,.int .u64 a1_1],.int .i64 x6_2] rfl (by (try simp only [List.map_toArray,List.map_cons,List.map_nil]);first|done|rfl|(simp only [List.length_drop,List.length_take];rfl)) ?_;(with_reducible refine (z1k.calls a1_0 a1_1 x6_2 t106 _ A13.out).mono ?_);rintro e w16 ⟨rfl,hb⟩;refine ⟨_,rfl,?_⟩;have n0_:=z3.mk (zn (g:=gb101) (o:=.cells #[.int .u64 a1_0,.int .u64 a1_1] 61 (0,0)) (by (with_reducible repeat (first|refine z5 ?_ _|refine z8 ?_|refine z4 ?_ _));exact BK101.out) hb);have n1_:=z3.mk (zb (by repeat (first|(with_reducible first|exact HB.out|apply z2|apply z0|apply z1|refine z6 ?_ GE101.out)|exact HB.out)) hb);clear BK101;clear HB;have BK101:=n0_;have HB:=n1_;clear n0_ n1_;(try clear hb);(try clear hb2);(try clear hk);(try clear hi)))
       go_ret
       exact ⟨by first|rfl|(simp [zg,zh] <;> rfl)|(simp [*,zg,zh] <;> rfl),by repeat (first|(with_reducible first|exact HB.out|apply z2|apply z0|apply z1|refine z6 ?_ GE101.out)|exact HB.out)⟩
     rw [if_neg c14] at H
     have c14b0 : (t106 == 1) = false:=beq_eq_false_iff_ne.mpr c14
     have c14b1 : (t106 != 1) = true:=bne_iff_ne.mpr c14
     have H':=z3.mk H
     clear H
     have hcz17_0 : wr.cell? ⟨gb101,0,none⟩ = some (.int .u64 a1_0):=(ze BK101.out 0).trans rfl
     have hcz17_1 : wr.cell? ⟨gb101,1,none⟩ = some (.int .u64 a1_1):=(ze BK101.out 1).trans rfl
     have hfz17_0:=zd BK101.out 0
     have hfz17_1:=zd BK101.out 1
     go_wp2_with (first|((with_reducible refine zl (f:=81) rfl ?_);refine goesL_ (some 24) rfl rfl Try.func81 (by kernel_rfl) rfl #[.agg #[.int .u64 a1_0,.int .u64 a1_1],.int .i64 x6_2] rfl (by (try simp only [List.map_toArray,List.map_cons,List.map_nil]);first|done|rfl|(simp only [List.length_drop,List.length_take];rfl)) ?_;(with_reducible refine (z1k.calls a1_0 a1_1 x6_2 t106 _ A13.out).mono ?_);rintro e w18 ⟨rfl,hb⟩;refine ⟨_,rfl,?_⟩;have n0_:=z3.mk (zn (g:=gb101) (o:=.cells #[.int .u64 a1_0,.int .u64 a1_1] 61 (0,0)) (by (with_reducible repeat (first|refine z5 ?_ _|refine z8 ?_|refine z4 ?_ _));exact BK101.out) hb);have n1_:=z3.mk (zb (by repeat (first|(with_reducible first|exact HB.out|apply z2|apply z0|apply z1|refine z6 ?_ GE101.out)|exact HB.out)) hb);clear BK101;clear HB;have BK101:=n0_;have HB:=n1_;clear n0_ n1_;(try clear hb);(try clear hb2);(try clear hk);(try clear hi)))
     go_roundg k2
     case measure=>have:=HJ2.out;have:=HK2.out;omega
     case rel=>exact ⟨(wrap64 (x6_2 + 1)),(by first|rfl|(simp;done)|(simp [*];done)),H',⟨by have:=HJ2.out;have:=HK2.out;omega⟩,⟨by (with_reducible repeat (first|refine z5 ?_ _|refine z8 ?_|refine z4 ?_ _));exact BK101.out⟩,⟨by repeat (first|(with_reducible first|exact HB.out|apply z2|apply z0|apply z1|refine z6 ?_ GE101.out)|exact HB.out)⟩⟩
end Go.Proofs.Ytngcaphdkgihmaa.P

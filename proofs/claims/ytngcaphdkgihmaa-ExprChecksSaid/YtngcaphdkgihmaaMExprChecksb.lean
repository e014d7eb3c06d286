/- Own text: merged by wip/tools/pack.py out of what the law ExprChecks reaches. -/
import Derived.Test.YtngcaphdkgihmaaProg
import Derived.Below
import Derived.Deep.Draws
import Derived.Deep.AppendLies
import Derived.Maps.AppendAt
import Derived.OwnWalk
import Derived.Laws.BytesArg
import Derived.Laws.MakeOwn
import Derived.Laws.OwnMore
import Derived.Deep.OwnRows
import Derived.Tactics
import Derived.Lib.ConvBytes
import Derived.Laws.Slices
import Derived.WalkKit
import Derived.KernelRfl
import Derived.RowKit3
import Derived.Deep.LoopGhost
import Derived.Deep.QuietTactic
import Derived.BigQuiet
import Derived.WideLaws
import Derived.Deep.DeepCutAuto
import Derived.Deep.CutBlock
import Derived.Deep.RegionHeld3
import Derived.Laws.Rows
import Derived.Lib.AppendStr
import Derived.ArgAppend
import Derived.Laws.IdiomCopy
import Derived.OrdersHeld
import Derived.Laws.BitsLemmas
import Derived.RowKit
import Derived.Test.YtngcaphdkgihmaaMExprChecksa
namespace Go.Proofs.Ytngcaphdkgihmaa.P
open Go.RowKit Go.Proofs.YtngcaphdkgihmaaW.PrintWords Go.Proofs.YtngcaphdkgihmaaW.PrintLast Go.Proofs.YtngcaphdkgihmaaW.PrintMore
attribute [local go_sem] z17 z19 z1e z1f z12 z13 z18 z1a   -- for this text's walks alone
set_option linter.unusedVariables false
set_option linter.unusedSimpArgs false
def errW : Option Int → Value
 | none=>.nilIface
 | some c=>.iface 0 (.int .i64 c)
theorem zl : errW none = .nilIface:=rfl
theorem zm (c : Int) : errW (some c) = .iface 0 (.int .i64 c):=rfl
theorem info3 : (Try.prog.info? 3).map (fun i=>(i.zero,i.size,i.bytes)) = some (some (.int .i64 0),1,8):=by kernel_rfl
theorem info4 : (Try.prog.info? 4).map (fun i=>(i.zero,i.size,i.bytes)) = some (some (.bool false),1,1):=by kernel_rfl
theorem info37 : (Try.prog.info? 37).map (fun i=>(i.zero,i.size,i.bytes)) = some (some (.slice none 0 0),1,24):=by kernel_rfl
theorem info49 : (Try.prog.info? 49).map (fun i=>(i.zero,i.size,i.bytes)) = some (some (.int .u64 0),1,8):=by kernel_rfl
theorem info51 : (Try.prog.info? 51).map (fun i=>(i.zero,i.size,i.bytes)) = some (some (.agg #[(.int .u64 0),(.int .u64 0)]),2,16):=by kernel_rfl
theorem info61 : (Try.prog.info? 61).map (fun i=>(i.zero,i.size,i.bytes)) = some (some (.agg #[(.int .u64 0),(.int .u64 0)]),2,16):=by kernel_rfl
theorem info87 : (Try.prog.info? 87).map (fun i=>(i.zero,i.size,i.bytes)) = some (some (.agg #[(.int .i64 0),(.int .i64 0),(.int .i64 0),(.int .u64 0),(.int .u64 0)]),5,40):=by kernel_rfl
theorem info92 : (Try.prog.info? 92).map (fun i=>(i.zero,i.size,i.bytes)) = some (some (.slice none 0 0),1,24):=by kernel_rfl
theorem info114 : (Try.prog.info? 114).map (fun i=>(i.zero,i.size,i.bytes)) = some (some (.agg #[(.int .i64 0),(.int .i64 0),(.int .i64 0),(.int .u64 0),(.int .u64 0)]),5,40):=by kernel_rfl
-- the values' own types
structure S23 where
 f0 : Int
 f1 : Int
 f2 : Int
def z23 : S23:=⟨(0 : Int),(0 : Int),(0 : Int)⟩
def k23 : Kd S23:=Kd.iso (Kd.pair (Kd.int .i64) (Kd.pair (Kd.int .i64) (Kd.int .i64))) (fun x : S23=>(x.f0,x.f1,x.f2))
theorem k23_open {w : World} {x : S23} {cs : List Value} (h : k23.K w x cs) : cs = [.int .i64 x.f0,.int .i64 x.f1,.int .i64 x.f2]:=by
 obtain ⟨_,_,rfl,rfl,⟨_,_,rfl,rfl,rfl⟩⟩:=h
 exact rfl
theorem k23_openM {w : World} {base : Nat} {ok : Nat → Prop} {x : S23} {cs : List Value} (h : k23.M w base ok x cs) : cs = [.int .i64 x.f0,.int .i64 x.f1,.int .i64 x.f2]:=by
 obtain ⟨_,_,rfl,rfl,⟨_,_,rfl,rfl,rfl⟩⟩:=h
 exact rfl
theorem k23_mk (w : World) (x : S23)  : k23.K w x [.int .i64 x.f0,.int .i64 x.f1,.int .i64 x.f2]:=⟨[.int .i64 x.f0],[.int .i64 x.f1,.int .i64 x.f2],rfl,rfl,⟨[.int .i64 x.f1],[.int .i64 x.f2],rfl,rfl,rfl⟩⟩
theorem k23_mkM (w : World) (base : Nat) (ok : Nat → Prop) (x : S23)  : k23.M w base ok x [.int .i64 x.f0,.int .i64 x.f1,.int .i64 x.f2]:=⟨[.int .i64 x.f0],[.int .i64 x.f1,.int .i64 x.f2],rfl,rfl,⟨[.int .i64 x.f1],[.int .i64 x.f2],rfl,rfl,rfl⟩⟩
theorem k23_mkF (W : World) (ok : Nat → Prop) (x : S23) : Kd.FK k23 W ok x [.int .i64 x.f0,.int .i64 x.f1,.int .i64 x.f2]:=fun W2 _=>k23_mk W2 x
def z5m (xs : List S23) (i : Int) : S23:=xs.getD i.toNat z23
theorem at_T23 {w : World} {A : Option Addr} {n : Nat} {xs : List S23} (h : Kd.C k23 w A n xs) (i : Int) (h0 : 0 ≤ i) (h1 : i < n) : ∃ ad , A = some ad ∧ w.cell? (ad.add (i.toNat * 3)) = some (.int .i64 (z5m xs i).f0) ∧ w.cell? ⟨(ad.add (i.toNat * 3)).block,(ad.add (i.toNat * 3)).off + 1,none⟩ = some (.int .i64 (z5m xs i).f1) ∧ w.cell? ⟨(ad.add (i.toNat * 3)).block,(ad.add (i.toNat * 3)).off + 2,none⟩ = some (.int .i64 (z5m xs i).f2):=by
 obtain ⟨ad,c,e,_,hK,hc0⟩:=Kd.z2V h z23 i h0 h1
 have hc : ∀ j u,c[j]? = some u → w.cell? (ad.add (i.toNat * 3 + j)) = some u:=hc0
 obtain rfl:=k23_open hK
 exact ⟨ad,e,hc 0 _ rfl,by rw [← z1s _ _ 1 (by omega)];exact hc 1 _ rfl,by rw [← z1s _ _ 2 (by omega)];exact hc 2 _ rfl⟩
def rd_L3 (xs : List (List Bool)) (i : Int) : (List Bool):=xs.getD i.toNat ([] : List Bool)
theorem at_L3 {w : World} {A : Option Addr} {n : Nat} {xs : List (List Bool)} (h : Kd.C (Kd.slice 4 Kd.bool) w A n xs) (i : Int) (h0 : 0 ≤ i) (h1 : i < n) : ∃ ad A0 c0,A = some ad ∧ w.cell? (ad.add i.toNat) = some (.slice A0 (rd_L3 xs i).length c0) ∧ (rd_L3 xs i).length ≤ c0 ∧ Kd.bool.C w A0 (rd_L3 xs i).length (rd_L3 xs i):=by
 obtain ⟨ad,c,e,_,hK,hc0⟩:=Kd.z2V h ([] : List Bool) i h0 h1
 have hc : ∀ j u,c[j]? = some u → w.cell? (ad.add (i.toNat * 1 + j)) = some u:=hc0
 obtain ⟨A0,c0,rfl,l0,g0⟩:=hK
 exact ⟨ad,A0,c0,e,by have hq:=hc 0 _ rfl;rwa [Nat.mul_one,Nat.add_zero] at hq,l0,g0⟩
structure S51 where
 f0 : Int
 f1 : Int
def z51 : S51:=⟨(0 : Int),(0 : Int)⟩
def k51 : Kd S51:=Kd.iso (Kd.pair (Kd.int .u64) (Kd.int .u64)) (fun x : S51=>(x.f0,x.f1))
theorem z4m {w : World} {x : S51} {cs : List Value} (h : k51.K w x cs) : cs = [.int .u64 x.f0,.int .u64 x.f1]:=by
 obtain ⟨_,_,rfl,rfl,rfl⟩:=h
 exact rfl
theorem z5b {w : World} {base : Nat} {ok : Nat → Prop} {x : S51} {cs : List Value} (h : k51.M w base ok x cs) : cs = [.int .u64 x.f0,.int .u64 x.f1]:=by
 obtain ⟨_,_,rfl,rfl,rfl⟩:=h
 exact rfl
theorem k51_mk (w : World) (x : S51)  : k51.K w x [.int .u64 x.f0,.int .u64 x.f1]:=⟨[.int .u64 x.f0],[.int .u64 x.f1],rfl,rfl,rfl⟩
theorem z1Q (w : World) (base : Nat) (ok : Nat → Prop) (x : S51)  : k51.M w base ok x [.int .u64 x.f0,.int .u64 x.f1]:=⟨[.int .u64 x.f0],[.int .u64 x.f1],rfl,rfl,rfl⟩
theorem k51_mkF (W : World) (ok : Nat → Prop) (x : S51) : Kd.FK k51 W ok x [.int .u64 x.f0,.int .u64 x.f1]:=fun W2 _=>k51_mk W2 x
def zT (xs : List S51) (i : Int) : S51:=xs.getD i.toNat z51
theorem z2d {w : World} {A : Option Addr} {n : Nat} {xs : List S51} (h : Kd.C k51 w A n xs) (i : Int) (h0 : 0 ≤ i) (h1 : i < n) : ∃ ad , A = some ad ∧ w.cell? (ad.add (i.toNat * 2)) = some (.int .u64 (zT xs i).f0) ∧ w.cell? ⟨(ad.add (i.toNat * 2)).block,(ad.add (i.toNat * 2)).off + 1,none⟩ = some (.int .u64 (zT xs i).f1):=by
 obtain ⟨ad,c,e,_,hK,hc0⟩:=Kd.z2V h z51 i h0 h1
 have hc : ∀ j u,c[j]? = some u → w.cell? (ad.add (i.toNat * 2 + j)) = some u:=hc0
 obtain rfl:=z4m hK
 exact ⟨ad,e,hc 0 _ rfl,by rw [← z1s _ _ 1 (by omega)];exact hc 1 _ rfl⟩
def rd_L6 (xs : List (List S51)) (i : Int) : (List S51):=xs.getD i.toNat ([] : List S51)
theorem at_L6 {w : World} {A : Option Addr} {n : Nat} {xs : List (List S51)} (h : Kd.C (Kd.slice 51 k51) w A n xs) (i : Int) (h0 : 0 ≤ i) (h1 : i < n) : ∃ ad A0 c0,A = some ad ∧ w.cell? (ad.add i.toNat) = some (.slice A0 (rd_L6 xs i).length c0) ∧ (rd_L6 xs i).length ≤ c0 ∧ k51.C w A0 (rd_L6 xs i).length (rd_L6 xs i):=by
 obtain ⟨ad,c,e,_,hK,hc0⟩:=Kd.z2V h ([] : List S51) i h0 h1
 have hc : ∀ j u,c[j]? = some u → w.cell? (ad.add (i.toNat * 1 + j)) = some u:=hc0
 obtain ⟨A0,c0,rfl,l0,g0⟩:=hK
 exact ⟨ad,A0,c0,e,by have hq:=hc 0 _ rfl;rwa [Nat.mul_one,Nat.add_zero] at hq,l0,g0⟩
structure S61 where
 f0 : Int
 f1 : Int
def z61 : S61:=⟨(0 : Int),(0 : Int)⟩
def k61 : Kd S61:=Kd.iso (Kd.pair (Kd.int .u64) (Kd.int .u64)) (fun x : S61=>(x.f0,x.f1))
theorem z4n {w : World} {x : S61} {cs : List Value} (h : k61.K w x cs) : cs = [.int .u64 x.f0,.int .u64 x.f1]:=by
 obtain ⟨_,_,rfl,rfl,rfl⟩:=h
 exact rfl
theorem z5c {w : World} {base : Nat} {ok : Nat → Prop} {x : S61} {cs : List Value} (h : k61.M w base ok x cs) : cs = [.int .u64 x.f0,.int .u64 x.f1]:=by
 obtain ⟨_,_,rfl,rfl,rfl⟩:=h
 exact rfl
theorem k61_mk (w : World) (x : S61)  : k61.K w x [.int .u64 x.f0,.int .u64 x.f1]:=⟨[.int .u64 x.f0],[.int .u64 x.f1],rfl,rfl,rfl⟩
theorem z2F (w : World) (base : Nat) (ok : Nat → Prop) (x : S61)  : k61.M w base ok x [.int .u64 x.f0,.int .u64 x.f1]:=⟨[.int .u64 x.f0],[.int .u64 x.f1],rfl,rfl,rfl⟩
theorem k61_mkF (W : World) (ok : Nat → Prop) (x : S61) : Kd.FK k61 W ok x [.int .u64 x.f0,.int .u64 x.f1]:=fun W2 _=>k61_mk W2 x
def zS (xs : List S61) (i : Int) : S61:=xs.getD i.toNat z61
theorem z1W {w : World} {A : Option Addr} {n : Nat} {xs : List S61} (h : Kd.C k61 w A n xs) (i : Int) (h0 : 0 ≤ i) (h1 : i < n) : ∃ ad , A = some ad ∧ w.cell? (ad.add (i.toNat * 2)) = some (.int .u64 (zS xs i).f0) ∧ w.cell? ⟨(ad.add (i.toNat * 2)).block,(ad.add (i.toNat * 2)).off + 1,none⟩ = some (.int .u64 (zS xs i).f1):=by
 obtain ⟨ad,c,e,_,hK,hc0⟩:=Kd.z2V h z61 i h0 h1
 have hc : ∀ j u,c[j]? = some u → w.cell? (ad.add (i.toNat * 2 + j)) = some u:=hc0
 obtain rfl:=z4n hK
 exact ⟨ad,e,hc 0 _ rfl,by rw [← z1s _ _ 1 (by omega)];exact hc 1 _ rfl⟩
structure S64 where
 f0 : (List S51)
 f1 : (List S51)
def z64 : S64:=⟨([] : List S51),([] : List S51)⟩
def k64 : Kd S64:=Kd.iso (Kd.pair (Kd.slice 51 k51) (Kd.slice 51 k51)) (fun x : S64=>(x.f0,x.f1))
theorem z2P {w : World} {x : S64} {cs : List Value} (h : k64.K w x cs) : ∃ A0 c0 A1 c1,cs = [.slice A0 x.f0.length c0,.slice A1 x.f1.length c1] ∧ x.f0.length ≤ c0 ∧ k51.C w A0 x.f0.length x.f0 ∧ x.f1.length ≤ c1 ∧ k51.C w A1 x.f1.length x.f1:=by
 obtain ⟨_,_,rfl,⟨A0,c0,rfl,l0,g0⟩,⟨A1,c1,rfl,l1,g1⟩⟩:=h
 exact ⟨A0,c0,A1,c1,rfl,l0,g0,l1,g1⟩
theorem k64_openM {w : World} {base : Nat} {ok : Nat → Prop} {x : S64} {cs : List Value} (h : k64.M w base ok x cs) : ∃ v0 v1,cs = [v0,v1] ∧ k51.R 51 w base ok v0 x.f0 ∧ k51.R 51 w base ok v1 x.f1:=by
 obtain ⟨_,_,rfl,⟨v0,rfl,g0⟩,⟨v1,rfl,g1⟩⟩:=h
 exact ⟨v0,v1,rfl,g0,g1⟩
theorem k64_mk (w : World) (x : S64) {A0 : Option Addr} {c0 : Nat} (l0 : x.f0.length ≤ c0) (g0 : k51.C w A0 x.f0.length x.f0) {A1 : Option Addr} {c1 : Nat} (l1 : x.f1.length ≤ c1) (g1 : k51.C w A1 x.f1.length x.f1) : k64.K w x [.slice A0 x.f0.length c0,.slice A1 x.f1.length c1]:=⟨[.slice A0 x.f0.length c0],[.slice A1 x.f1.length c1],rfl,⟨A0,c0,rfl,l0,g0⟩,⟨A1,c1,rfl,l1,g1⟩⟩
theorem k64_mkM (w : World) (base : Nat) (ok : Nat → Prop) (x : S64) {v0 : Value} (g0 : k51.R 51 w base ok v0 x.f0) {v1 : Value} (g1 : k51.R 51 w base ok v1 x.f1) : k64.M w base ok x [v0,v1]:=⟨[v0],[v1],rfl,⟨v0,rfl,g0⟩,⟨v1,rfl,g1⟩⟩
theorem k64_openF {W : World} {ok : Nat → Prop} {x : S64} {cs : List Value} (h : Kd.FK k64 W ok x cs) : ∃ A0 c0 A1 c1,cs = [.slice A0 x.f0.length c0,.slice A1 x.f1.length c1] ∧ x.f0.length ≤ c0 ∧ Kd.F k51 W ok A0 x.f0.length x.f0 ∧ x.f1.length ≤ c1 ∧ Kd.F k51 W ok A1 x.f1.length x.f1:=by
 obtain ⟨A0,c0,A1,c1,rfl,l0,_,l1,_⟩:=z2P (Kd.FK_now h)
 exact ⟨A0,c0,A1,c1,rfl,l0,(fun W' hW=>by obtain ⟨A0_,c0_,A1_,c1_,he,l0_,g0_,l1_,g1_⟩:=z2P (h W' hW);injection (Option.some.inj (show some (Value.slice A0 x.f0.length c0) = some (Value.slice A0_ x.f0.length c0_) from congrArg (fun l=>l[0]?) he)) with ha_ _ _;rw [ha_];exact g0_),l1,(fun W' hW=>by obtain ⟨A0_,c0_,A1_,c1_,he,l0_,g0_,l1_,g1_⟩:=z2P (h W' hW);injection (Option.some.inj (show some (Value.slice A1 x.f1.length c1) = some (Value.slice A1_ x.f1.length c1_) from congrArg (fun l=>l[1]?) he)) with ha_ _ _;rw [ha_];exact g1_)⟩
theorem k64_mkF (W : World) (ok : Nat → Prop) (x : S64) {A0 : Option Addr} {c0 : Nat} (l0 : x.f0.length ≤ c0) (g0 : Kd.F k51 W ok A0 x.f0.length x.f0) {A1 : Option Addr} {c1 : Nat} (l1 : x.f1.length ≤ c1) (g1 : Kd.F k51 W ok A1 x.f1.length x.f1) : Kd.FK k64 W ok x [.slice A0 x.f0.length c0,.slice A1 x.f1.length c1]:=fun W2 hW=>k64_mk W2 x l0 (g0 W2 hW) l1 (g1 W2 hW)
def z2M (xs : List S64) (i : Int) : S64:=xs.getD i.toNat z64
theorem at_T64 {w : World} {A : Option Addr} {n : Nat} {xs : List S64} (h : Kd.C k64 w A n xs) (i : Int) (h0 : 0 ≤ i) (h1 : i < n) : ∃ ad A0 c0 A1 c1,A = some ad ∧ w.cell? (ad.add (i.toNat * 2)) = some (.slice A0 (z2M xs i).f0.length c0) ∧ w.cell? ⟨(ad.add (i.toNat * 2)).block,(ad.add (i.toNat * 2)).off + 1,none⟩ = some (.slice A1 (z2M xs i).f1.length c1) ∧ (z2M xs i).f0.length ≤ c0 ∧ k51.C w A0 (z2M xs i).f0.length (z2M xs i).f0 ∧ (z2M xs i).f1.length ≤ c1 ∧ k51.C w A1 (z2M xs i).f1.length (z2M xs i).f1:=by
 obtain ⟨ad,c,e,_,hK,hc0⟩:=Kd.z2V h z64 i h0 h1
 have hc : ∀ j u,c[j]? = some u → w.cell? (ad.add (i.toNat * 2 + j)) = some u:=hc0
 obtain ⟨A0,c0,A1,c1,rfl,l0,g0,l1,g1⟩:=z2P hK
 exact ⟨ad,A0,c0,A1,c1,e,hc 0 _ rfl,by rw [← z1s _ _ 1 (by omega)];exact hc 1 _ rfl,l0,g0,l1,g1⟩
structure S66 where
 f0 : (List S51)
 f1 : (List S51)
def z66 : S66:=⟨([] : List S51),([] : List S51)⟩
def k66 : Kd S66:=Kd.iso (Kd.pair (Kd.slice 51 k51) (Kd.slice 51 k51)) (fun x : S66=>(x.f0,x.f1))
theorem z2Q {w : World} {x : S66} {cs : List Value} (h : k66.K w x cs) : ∃ A0 c0 A1 c1,cs = [.slice A0 x.f0.length c0,.slice A1 x.f1.length c1] ∧ x.f0.length ≤ c0 ∧ k51.C w A0 x.f0.length x.f0 ∧ x.f1.length ≤ c1 ∧ k51.C w A1 x.f1.length x.f1:=by
 obtain ⟨_,_,rfl,⟨A0,c0,rfl,l0,g0⟩,⟨A1,c1,rfl,l1,g1⟩⟩:=h
 exact ⟨A0,c0,A1,c1,rfl,l0,g0,l1,g1⟩
theorem k66_openM {w : World} {base : Nat} {ok : Nat → Prop} {x : S66} {cs : List Value} (h : k66.M w base ok x cs) : ∃ v0 v1,cs = [v0,v1] ∧ k51.R 51 w base ok v0 x.f0 ∧ k51.R 51 w base ok v1 x.f1:=by
 obtain ⟨_,_,rfl,⟨v0,rfl,g0⟩,⟨v1,rfl,g1⟩⟩:=h
 exact ⟨v0,v1,rfl,g0,g1⟩
theorem k66_mk (w : World) (x : S66) {A0 : Option Addr} {c0 : Nat} (l0 : x.f0.length ≤ c0) (g0 : k51.C w A0 x.f0.length x.f0) {A1 : Option Addr} {c1 : Nat} (l1 : x.f1.length ≤ c1) (g1 : k51.C w A1 x.f1.length x.f1) : k66.K w x [.slice A0 x.f0.length c0,.slice A1 x.f1.length c1]:=⟨[.slice A0 x.f0.length c0],[.slice A1 x.f1.length c1],rfl,⟨A0,c0,rfl,l0,g0⟩,⟨A1,c1,rfl,l1,g1⟩⟩
theorem k66_mkM (w : World) (base : Nat) (ok : Nat → Prop) (x : S66) {v0 : Value} (g0 : k51.R 51 w base ok v0 x.f0) {v1 : Value} (g1 : k51.R 51 w base ok v1 x.f1) : k66.M w base ok x [v0,v1]:=⟨[v0],[v1],rfl,⟨v0,rfl,g0⟩,⟨v1,rfl,g1⟩⟩
theorem k66_openF {W : World} {ok : Nat → Prop} {x : S66} {cs : List Value} (h : Kd.FK k66 W ok x cs) : ∃ A0 c0 A1 c1,cs = [.slice A0 x.f0.length c0,.slice A1 x.f1.length c1] ∧ x.f0.length ≤ c0 ∧ Kd.F k51 W ok A0 x.f0.length x.f0 ∧ x.f1.length ≤ c1 ∧ Kd.F k51 W ok A1 x.f1.length x.f1:=by
 obtain ⟨A0,c0,A1,c1,rfl,l0,_,l1,_⟩:=z2Q (Kd.FK_now h)
 exact ⟨A0,c0,A1,c1,rfl,l0,(fun W' hW=>by obtain ⟨A0_,c0_,A1_,c1_,he,l0_,g0_,l1_,g1_⟩:=z2Q (h W' hW);injection (Option.some.inj (show some (Value.slice A0 x.f0.length c0) = some (Value.slice A0_ x.f0.length c0_) from congrArg (fun l=>l[0]?) he)) with ha_ _ _;rw [ha_];exact g0_),l1,(fun W' hW=>by obtain ⟨A0_,c0_,A1_,c1_,he,l0_,g0_,l1_,g1_⟩:=z2Q (h W' hW);injection (Option.some.inj (show some (Value.slice A1 x.f1.length c1) = some (Value.slice A1_ x.f1.length c1_) from congrArg (fun l=>l[1]?) he)) with ha_ _ _;rw [ha_];exact g1_)⟩
theorem k66_mkF (W : World) (ok : Nat → Prop) (x : S66) {A0 : Option Addr} {c0 : Nat} (l0 : x.f0.length ≤ c0) (g0 : Kd.F k51 W ok A0 x.f0.length x.f0) {A1 : Option Addr} {c1 : Nat} (l1 : x.f1.length ≤ c1) (g1 : Kd.F k51 W ok A1 x.f1.length x.f1) : Kd.FK k66 W ok x [.slice A0 x.f0.length c0,.slice A1 x.f1.length c1]:=fun W2 hW=>k66_mk W2 x l0 (g0 W2 hW) l1 (g1 W2 hW)
def z2N (xs : List S66) (i : Int) : S66:=xs.getD i.toNat z66
theorem at_T66 {w : World} {A : Option Addr} {n : Nat} {xs : List S66} (h : Kd.C k66 w A n xs) (i : Int) (h0 : 0 ≤ i) (h1 : i < n) : ∃ ad A0 c0 A1 c1,A = some ad ∧ w.cell? (ad.add (i.toNat * 2)) = some (.slice A0 (z2N xs i).f0.length c0) ∧ w.cell? ⟨(ad.add (i.toNat * 2)).block,(ad.add (i.toNat * 2)).off + 1,none⟩ = some (.slice A1 (z2N xs i).f1.length c1) ∧ (z2N xs i).f0.length ≤ c0 ∧ k51.C w A0 (z2N xs i).f0.length (z2N xs i).f0 ∧ (z2N xs i).f1.length ≤ c1 ∧ k51.C w A1 (z2N xs i).f1.length (z2N xs i).f1:=by
 obtain ⟨ad,c,e,_,hK,hc0⟩:=Kd.z2V h z66 i h0 h1
 have hc : ∀ j u,c[j]? = some u → w.cell? (ad.add (i.toNat * 2 + j)) = some u:=hc0
 obtain ⟨A0,c0,A1,c1,rfl,l0,g0,l1,g1⟩:=z2Q hK
 exact ⟨ad,A0,c0,A1,c1,e,hc 0 _ rfl,by rw [← z1s _ _ 1 (by omega)];exact hc 1 _ rfl,l0,g0,l1,g1⟩
structure S87 where
 f0 : Int
 f1 : Int
 f2 : Int
 f3 : S51
def z87 : S87:=⟨(0 : Int),(0 : Int),(0 : Int),z51⟩
def k87 : Kd S87:=Kd.iso (Kd.pair (Kd.int .i64) (Kd.pair (Kd.int .i64) (Kd.pair (Kd.int .i64) k51))) (fun x : S87=>(x.f0,x.f1,x.f2,x.f3))
theorem k87_open {w : World} {x : S87} {cs : List Value} (h : k87.K w x cs) : cs = [.int .i64 x.f0,.int .i64 x.f1,.int .i64 x.f2,.int .u64 x.f3.f0,.int .u64 x.f3.f1]:=by
 obtain ⟨_,_,rfl,rfl,⟨_,_,rfl,rfl,⟨_,_,rfl,rfl,s3⟩⟩⟩:=h
 obtain rfl:=z4m s3
 exact rfl
theorem k87_openM {w : World} {base : Nat} {ok : Nat → Prop} {x : S87} {cs : List Value} (h : k87.M w base ok x cs) : cs = [.int .i64 x.f0,.int .i64 x.f1,.int .i64 x.f2,.int .u64 x.f3.f0,.int .u64 x.f3.f1]:=by
 obtain ⟨_,_,rfl,rfl,⟨_,_,rfl,rfl,⟨_,_,rfl,rfl,s3⟩⟩⟩:=h
 obtain rfl:=z5b s3
 exact rfl
theorem k87_mk (w : World) (x : S87)  : k87.K w x [.int .i64 x.f0,.int .i64 x.f1,.int .i64 x.f2,.int .u64 x.f3.f0,.int .u64 x.f3.f1]:=⟨[.int .i64 x.f0],[.int .i64 x.f1,.int .i64 x.f2,.int .u64 x.f3.f0,.int .u64 x.f3.f1],rfl,rfl,⟨[.int .i64 x.f1],[.int .i64 x.f2,.int .u64 x.f3.f0,.int .u64 x.f3.f1],rfl,rfl,⟨[.int .i64 x.f2],[.int .u64 x.f3.f0,.int .u64 x.f3.f1],rfl,rfl,(k51_mk w x.f3 )⟩⟩⟩
theorem z36 (w : World) (base : Nat) (ok : Nat → Prop) (x : S87)  : k87.M w base ok x [.int .i64 x.f0,.int .i64 x.f1,.int .i64 x.f2,.int .u64 x.f3.f0,.int .u64 x.f3.f1]:=⟨[.int .i64 x.f0],[.int .i64 x.f1,.int .i64 x.f2,.int .u64 x.f3.f0,.int .u64 x.f3.f1],rfl,rfl,⟨[.int .i64 x.f1],[.int .i64 x.f2,.int .u64 x.f3.f0,.int .u64 x.f3.f1],rfl,rfl,⟨[.int .i64 x.f2],[.int .u64 x.f3.f0,.int .u64 x.f3.f1],rfl,rfl,(z1Q w base ok x.f3 )⟩⟩⟩
theorem k87_mkF (W : World) (ok : Nat → Prop) (x : S87) : Kd.FK k87 W ok x [.int .i64 x.f0,.int .i64 x.f1,.int .i64 x.f2,.int .u64 x.f3.f0,.int .u64 x.f3.f1]:=fun W2 _=>k87_mk W2 x
def zd (xs : List S87) (i : Int) : S87:=xs.getD i.toNat z87
theorem z1R {w : World} {A : Option Addr} {n : Nat} {xs : List S87} (h : Kd.C k87 w A n xs) (i : Int) (h0 : 0 ≤ i) (h1 : i < n) : ∃ ad , A = some ad ∧ w.cell? (ad.add (i.toNat * 5)) = some (.int .i64 (zd xs i).f0) ∧ w.cell? ⟨(ad.add (i.toNat * 5)).block,(ad.add (i.toNat * 5)).off + 1,none⟩ = some (.int .i64 (zd xs i).f1) ∧ w.cell? ⟨(ad.add (i.toNat * 5)).block,(ad.add (i.toNat * 5)).off + 2,none⟩ = some (.int .i64 (zd xs i).f2) ∧ w.cell? ⟨(ad.add (i.toNat * 5)).block,(ad.add (i.toNat * 5)).off + 3,none⟩ = some (.int .u64 (zd xs i).f3.f0) ∧ w.cell? ⟨(ad.add (i.toNat * 5)).block,(ad.add (i.toNat * 5)).off + 4,none⟩ = some (.int .u64 (zd xs i).f3.f1):=by
 obtain ⟨ad,c,e,_,hK,hc0⟩:=Kd.z2V h z87 i h0 h1
 have hc : ∀ j u,c[j]? = some u → w.cell? (ad.add (i.toNat * 5 + j)) = some u:=hc0
 obtain rfl:=k87_open hK
 exact ⟨ad,e,hc 0 _ rfl,by rw [← z1s _ _ 1 (by omega)];exact hc 1 _ rfl,by rw [← z1s _ _ 2 (by omega)];exact hc 2 _ rfl,by rw [← z1s _ _ 3 (by omega)];exact hc 3 _ rfl,by rw [← z1s _ _ 4 (by omega)];exact hc 4 _ rfl⟩
structure S114 where
 f0 : Int
 f1 : Int
 f2 : Int
 f3 : S61
def z114 : S114:=⟨(0 : Int),(0 : Int),(0 : Int),z61⟩
def k114 : Kd S114:=Kd.iso (Kd.pair (Kd.int .i64) (Kd.pair (Kd.int .i64) (Kd.pair (Kd.int .i64) k61))) (fun x : S114=>(x.f0,x.f1,x.f2,x.f3))
theorem z5a {w : World} {x : S114} {cs : List Value} (h : k114.K w x cs) : cs = [.int .i64 x.f0,.int .i64 x.f1,.int .i64 x.f2,.int .u64 x.f3.f0,.int .u64 x.f3.f1]:=by
 obtain ⟨_,_,rfl,rfl,⟨_,_,rfl,rfl,⟨_,_,rfl,rfl,s3⟩⟩⟩:=h
 obtain rfl:=z4n s3
 exact rfl
theorem k114_openM {w : World} {base : Nat} {ok : Nat → Prop} {x : S114} {cs : List Value} (h : k114.M w base ok x cs) : cs = [.int .i64 x.f0,.int .i64 x.f1,.int .i64 x.f2,.int .u64 x.f3.f0,.int .u64 x.f3.f1]:=by
 obtain ⟨_,_,rfl,rfl,⟨_,_,rfl,rfl,⟨_,_,rfl,rfl,s3⟩⟩⟩:=h
 obtain rfl:=z5c s3
 exact rfl
theorem k114_mk (w : World) (x : S114)  : k114.K w x [.int .i64 x.f0,.int .i64 x.f1,.int .i64 x.f2,.int .u64 x.f3.f0,.int .u64 x.f3.f1]:=⟨[.int .i64 x.f0],[.int .i64 x.f1,.int .i64 x.f2,.int .u64 x.f3.f0,.int .u64 x.f3.f1],rfl,rfl,⟨[.int .i64 x.f1],[.int .i64 x.f2,.int .u64 x.f3.f0,.int .u64 x.f3.f1],rfl,rfl,⟨[.int .i64 x.f2],[.int .u64 x.f3.f0,.int .u64 x.f3.f1],rfl,rfl,(k61_mk w x.f3 )⟩⟩⟩
theorem k114_mkM (w : World) (base : Nat) (ok : Nat → Prop) (x : S114)  : k114.M w base ok x [.int .i64 x.f0,.int .i64 x.f1,.int .i64 x.f2,.int .u64 x.f3.f0,.int .u64 x.f3.f1]:=⟨[.int .i64 x.f0],[.int .i64 x.f1,.int .i64 x.f2,.int .u64 x.f3.f0,.int .u64 x.f3.f1],rfl,rfl,⟨[.int .i64 x.f1],[.int .i64 x.f2,.int .u64 x.f3.f0,.int .u64 x.f3.f1],rfl,rfl,⟨[.int .i64 x.f2],[.int .u64 x.f3.f0,.int .u64 x.f3.f1],rfl,rfl,(z2F w base ok x.f3 )⟩⟩⟩
theorem k114_mkF (W : World) (ok : Nat → Prop) (x : S114) : Kd.FK k114 W ok x [.int .i64 x.f0,.int .i64 x.f1,.int .i64 x.f2,.int .u64 x.f3.f0,.int .u64 x.f3.f1]:=fun W2 _=>k114_mk W2 x
def za (xs : List S114) (i : Int) : S114:=xs.getD i.toNat z114
theorem z16 {w : World} {A : Option Addr} {n : Nat} {xs : List S114} (h : Kd.C k114 w A n xs) (i : Int) (h0 : 0 ≤ i) (h1 : i < n) : ∃ ad , A = some ad ∧ w.cell? (ad.add (i.toNat * 5)) = some (.int .i64 (za xs i).f0) ∧ w.cell? ⟨(ad.add (i.toNat * 5)).block,(ad.add (i.toNat * 5)).off + 1,none⟩ = some (.int .i64 (za xs i).f1) ∧ w.cell? ⟨(ad.add (i.toNat * 5)).block,(ad.add (i.toNat * 5)).off + 2,none⟩ = some (.int .i64 (za xs i).f2) ∧ w.cell? ⟨(ad.add (i.toNat * 5)).block,(ad.add (i.toNat * 5)).off + 3,none⟩ = some (.int .u64 (za xs i).f3.f0) ∧ w.cell? ⟨(ad.add (i.toNat * 5)).block,(ad.add (i.toNat * 5)).off + 4,none⟩ = some (.int .u64 (za xs i).f3.f1):=by
 obtain ⟨ad,c,e,_,hK,hc0⟩:=Kd.z2V h z114 i h0 h1
 have hc : ∀ j u,c[j]? = some u → w.cell? (ad.add (i.toNat * 5 + j)) = some u:=hc0
 obtain rfl:=z5a hK
 exact ⟨ad,e,hc 0 _ rfl,by rw [← z1s _ _ 1 (by omega)];exact hc 1 _ rfl,by rw [← z1s _ _ 2 (by omega)];exact hc 2 _ rfl,by rw [← z1s _ _ 3 (by omega)];exact hc 3 _ rfl,by rw [← z1s _ _ 4 (by omega)];exact hc 4 _ rfl⟩
def z4s (xs : List (List S87)) (i : Int) : (List S87):=xs.getD i.toNat ([] : List S87)
theorem at_L12 {w : World} {A : Option Addr} {n : Nat} {xs : List (List S87)} (h : Kd.C (Kd.slice 87 k87) w A n xs) (i : Int) (h0 : 0 ≤ i) (h1 : i < n) : ∃ ad A0 c0,A = some ad ∧ w.cell? (ad.add i.toNat) = some (.slice A0 (z4s xs i).length c0) ∧ (z4s xs i).length ≤ c0 ∧ k87.C w A0 (z4s xs i).length (z4s xs i):=by
 obtain ⟨ad,c,e,_,hK,hc0⟩:=Kd.z2V h ([] : List S87) i h0 h1
 have hc : ∀ j u,c[j]? = some u → w.cell? (ad.add (i.toNat * 1 + j)) = some u:=hc0
 obtain ⟨A0,c0,rfl,l0,g0⟩:=hK
 exact ⟨ad,A0,c0,e,by have hq:=hc 0 _ rfl;rwa [Nat.mul_one,Nat.add_zero] at hq,l0,g0⟩
structure S79 where
 f0 : Int
 f1 : Int
def z79 : S79:=⟨(0 : Int),(0 : Int)⟩
def k79 : Kd S79:=Kd.iso (Kd.pair (Kd.int .i64) (Kd.int .i64)) (fun x : S79=>(x.f0,x.f1))
theorem k79_open {w : World} {x : S79} {cs : List Value} (h : k79.K w x cs) : cs = [.int .i64 x.f0,.int .i64 x.f1]:=by
 obtain ⟨_,_,rfl,rfl,rfl⟩:=h
 exact rfl
theorem k79_openM {w : World} {base : Nat} {ok : Nat → Prop} {x : S79} {cs : List Value} (h : k79.M w base ok x cs) : cs = [.int .i64 x.f0,.int .i64 x.f1]:=by
 obtain ⟨_,_,rfl,rfl,rfl⟩:=h
 exact rfl
theorem k79_mk (w : World) (x : S79)  : k79.K w x [.int .i64 x.f0,.int .i64 x.f1]:=⟨[.int .i64 x.f0],[.int .i64 x.f1],rfl,rfl,rfl⟩
theorem k79_mkM (w : World) (base : Nat) (ok : Nat → Prop) (x : S79)  : k79.M w base ok x [.int .i64 x.f0,.int .i64 x.f1]:=⟨[.int .i64 x.f0],[.int .i64 x.f1],rfl,rfl,rfl⟩
theorem k79_mkF (W : World) (ok : Nat → Prop) (x : S79) : Kd.FK k79 W ok x [.int .i64 x.f0,.int .i64 x.f1]:=fun W2 _=>k79_mk W2 x
def rd_T79 (xs : List S79) (i : Int) : S79:=xs.getD i.toNat z79
theorem at_T79 {w : World} {A : Option Addr} {n : Nat} {xs : List S79} (h : Kd.C k79 w A n xs) (i : Int) (h0 : 0 ≤ i) (h1 : i < n) : ∃ ad , A = some ad ∧ w.cell? (ad.add (i.toNat * 2)) = some (.int .i64 (rd_T79 xs i).f0) ∧ w.cell? ⟨(ad.add (i.toNat * 2)).block,(ad.add (i.toNat * 2)).off + 1,none⟩ = some (.int .i64 (rd_T79 xs i).f1):=by
 obtain ⟨ad,c,e,_,hK,hc0⟩:=Kd.z2V h z79 i h0 h1
 have hc : ∀ j u,c[j]? = some u → w.cell? (ad.add (i.toNat * 2 + j)) = some u:=hc0
 obtain rfl:=k79_open hK
 exact ⟨ad,e,hc 0 _ rfl,by rw [← z1s _ _ 1 (by omega)];exact hc 1 _ rfl⟩
end Go.Proofs.Ytngcaphdkgihmaa.P
namespace Go.Proofs.Ytngcaphdkgihmaa.P
open Go.RowKit Go.Proofs.YtngcaphdkgihmaaW.PrintWords Go.Proofs.YtngcaphdkgihmaaW.PrintLast Go.Proofs.YtngcaphdkgihmaaW.PrintMore
attribute [local go_sem] z17 z19 z1e z1f z12 z13 z18 z1a   -- for this text's walks alone
set_option linter.unusedVariables false
set_option linter.unusedSimpArgs false
def zR.j0 : Nat → Int → Bool → Option (Int)
 | 0,_,_=>none
 | k + 1,x0,x3=>if x3 = true then (some 0) else (if x0 ≤ 3 then (some 1) else (if 0 ≤ (wrap64 (x0 - 3)) then (some (shl .i64 1 (wrap64 (x0 - 3)))) else (none)))
def zR.f (k : Nat) (a0 : Int) : Option (Int):=if a0 < 0 then (zR.j0 k a0 true) else (zR.j0 k a0 (decide (a0 > 7)))
theorem zR.z1b : ∀ k,(∀ y0 y1,LeO (zR.j0 k y0 y1) (zR.j0 (k + 1) y0 y1))
 | 0=>fun _ _ r h=>by simp [zR.j0] at h
 | k + 1=>by
  have ih0:=zR.z1b k
  · intro y0 y1
    unfold zR.j0
    repeat' first
    | (with_reducible exact ih0 _ _)
    | (with_reducible exact LeO.refl _)
    | (with_reducible exact LeO.none _)
    | (with_reducible refine LeO.ite ?_ ?_)
    | (with_reducible refine LeO.bind ?_ (fun _=>?_))
    | exact ih0 _ _
    | exact LeO.none _
    | refine LeO.ite ?_ ?_
    | refine LeO.bind ?_ (fun _=>?_)
theorem zR.mono : ∀ a0 k,LeO (zR.f k a0) (zR.f (k + 1) a0):=by
 intro a0 k
 have ih0:=zR.z1b k
 unfold zR.f
 repeat' first
  | (with_reducible exact ih0 _ _)
  | (with_reducible exact LeO.refl _)
  | (with_reducible exact LeO.none _)
  | (with_reducible refine LeO.ite ?_ ?_)
  | (with_reducible refine LeO.bind ?_ (fun _=>?_))
  | exact ih0 _ _
  | exact LeO.none _
  | refine LeO.ite ?_ ?_
  | refine LeO.bind ?_ (fun _=>?_)
set_option maxHeartbeats 8000000 in
set_option maxRecDepth 100000 in
theorem zR.calls (k : Nat) (a0 : Int) (r : Int) (w : World) (h : zR.f k a0 = some r) :
 Calls Try.prog 78 #[.int .i64 a0] w fun e w'=>e = .returned (.int .i64 r) ∧ Drawn0 w w':=by
 have H : (if a0 < 0 then (zR.j0 k a0 true) else (zR.j0 k a0 (decide (a0 > 7)))) = some r:=h
 clear h
 have HC2:=z7.mk H
 clear H
 go_enter Try.func78,Try.ntmps78
 go_upto_region 1 with (fail)
 go_cut [3] (fun v3 wc=>∃ (kq : Nat) (x3_1 : Bool),v3 = .bool x3_1 ∧ z7 (zR.j0 kq a0 x3_1 = some r) ∧ z7 (kq ≤ k) ∧ Drawn0 w wc)
 case first =>
  have H:=HC2.out
  clear HC2
  by_cases c3 : a0 < 0
  rotate_left
  · rw [if_neg c3] at H
    have c3b0 : decide (a0 < 0) = false:=decide_eq_false c3
    clear c3
    (first|rw [c3b0]|(simp only [zH,zL];rw [c3b0])|skip)
    have H':=z7.mk H
    clear H
    go_wp2
    go_meet
    case rel=>exact ⟨_,(decide (a0 > 7)),(by first|rfl|(simp;done)|(simp [*];done)),H',⟨by first|omega|exact Nat.le_refl _⟩,by repeat (first|exact Drawn0.refl _|apply Drawn0.step)⟩
  rw [if_pos c3] at H
  have c3b0 : decide (a0 < 0) = true:=decide_eq_true c3
  clear c3
  (first|rw [c3b0]|(simp only [zH,zL];rw [c3b0])|skip)
  have H':=z7.mk H
  clear H
  go_wp2
  go_meet
  case rel=>exact ⟨_,(true),(by first|rfl|(simp;done)|(simp [*];done)),H',⟨by first|omega|exact Nat.le_refl _⟩,by repeat (first|exact Drawn0.refl _|apply Drawn0.step)⟩
 case rest =>
  clear HC2
  (try clear p2);(try clear c3);(try clear c3b0)
  obtain ⟨kq,x3_1,rfl,HA,HJ1,⟨mc1,rfl⟩⟩:=hcut
  cases kq with
  | zero=>exact absurd HA.out (by simp [zR.j0])
  | succ kj1 =>
   have H:=HA.out
   clear HA
   simp only [zR.j0] at H
   by_cases c4 : x3_1 = true
   · subst c4
     have H1 : (some 0) = some r:=by rw [if_pos rfl] at H;exact H
     clear H
     have H:=H1
     clear H1
     obtain rfl:=Option.some.inj H
     go_wp2
     go_ret
     exact ⟨by first|rfl|(simp;done)|(simp [*];done),by repeat (first|exact Drawn0.refl _|apply Drawn0.step)⟩
   replace c4:=Bool.eq_false_iff.mpr c4
   subst c4
   have H1 : (if a0 ≤ 3 then (some 1) else (if 0 ≤ (wrap64 (a0 - 3)) then (some (shl .i64 1 (wrap64 (a0 - 3)))) else (none))) = some r:=by rw [if_neg (show ¬ (false = true) by decide)] at H;exact H
   clear H
   have H:=H1
   clear H1
   by_cases c5 : a0 ≤ 3
   · rw [if_pos c5] at H
     have c5b0 : decide (a0 ≤ 3) = true:=decide_eq_true c5
     clear c5
     obtain rfl:=Option.some.inj H
     go_wp2
     go_ret
     exact ⟨by first|rfl|(simp;done)|(simp [*];done),by repeat (first|exact Drawn0.refl _|apply Drawn0.step)⟩
   rw [if_neg c5] at H
   have c5b0 : decide (a0 ≤ 3) = false:=decide_eq_false c5
   clear c5
   obtain ⟨ji6,hji6⟩ : ∃ j_ : Int,(wrap64 (a0 - 3)) = j_:=⟨_,rfl⟩
   replace H : (if 0 ≤ (ji6) then (some (shl .i64 1 (ji6))) else (none)) = some r:=by first|(rw [hji6] at H;exact H)|(simp only [hji6] at H ⊢;exact H)
   have hji6w : (IntKind.i64.wrap (a0 - 3)) = ji6:=(zH _).trans hji6
   by_cases c7 : 0 ≤ (ji6)
   rotate_left
   · rw [if_neg c7] at H
     exact absurd H (by simp)
   rw [if_pos c7] at H
   have c7b0:=eq_true c7
   have c7b1 : decide (0 ≤ (ji6)) = true:=decide_eq_true c7
   clear c7
   obtain ⟨ji8,hji8⟩ : ∃ j_ : Int,(shl .i64 1 (ji6)) = j_:=⟨_,rfl⟩
   replace H : (some ji8) = some r:=by first|(rw [hji8] at H;exact H)|(simp only [hji8] at H ⊢;exact H)
   have hji8_ : (IntKind.i64.wrap (1 * 2 ^ min (ji6).toNat 64)) = ji8:=hji8
   have hji8z : (ji6) ≤ 64 → (IntKind.i64.wrap (1 * 2 ^ (ji6).toNat)) = ji8:=z1D hji8
   have hji8u : (IntKind.i64.wrap (2 ^ min (ji6).toNat 64)) = ji8:=by have h_:=hji8_;rw [Int.one_mul] at h_;exact h_
   have hji8v : (ji6) ≤ 64 → (IntKind.i64.wrap (2 ^ (ji6).toNat)) = ji8:=fun hle_=>by have h_:=hji8z hle_;rw [Int.one_mul] at h_;exact h_
   have hji8y : (wrap64 (1 * 2 ^ min (ji6).toNat 64)) = ji8:=(zH _).symm.trans hji8_
   have hji8x : (ji6) ≤ 64 → (wrap64 (1 * 2 ^ (ji6).toNat)) = ji8:=fun h_=>(zH _).symm.trans (hji8z h_)
   obtain rfl:=Option.some.inj H
   go_wp2
   go_ret
   exact ⟨by first|rfl|(simp;done)|(simp only [← hji6,← hji8] <;> (first|rfl|simp))|(simp [*];done),by repeat (first|exact Drawn0.refl _|apply Drawn0.step)⟩
end Go.Proofs.Ytngcaphdkgihmaa.P
namespace Go.Proofs.Ytngcaphdkgihmaa.P
open Go.RowKit Go.Proofs.YtngcaphdkgihmaaW.PrintWords Go.Proofs.YtngcaphdkgihmaaW.PrintLast Go.Proofs.YtngcaphdkgihmaaW.PrintMore
attribute [local go_sem] z17 z19 z1e z1f z12 z13 z18 z1a   -- for this text's walks alone
set_option linter.unusedVariables false
set_option linter.unusedSimpArgs false
theorem eqA51 (d : Nat) (w : World) (x0 y0 : Int) (x1 y1 : Int) :
 (Op.equalIn (d + 2) 51 (.agg #[.int .u64 x0,.int .u64 x1]) (.agg #[.int .u64 y0,.int .u64 y1])).run Try.prog w = .ok (x0 == y0 && (x1 == y1)) w:=by
 refine eqA_of Try.underlying51 (by kernel_rfl) ?_
 refine z4h (by rfl) (by go_simp;rfl) (by go_simp;rfl) (by go_simp) ?_
 exact z4i (by rfl) (by go_simp;rfl) (by go_simp;rfl) (by go_simp)
end Go.Proofs.Ytngcaphdkgihmaa.P
namespace Go.Proofs.Ytngcaphdkgihmaa.P
open Go.RowKit Go.Proofs.YtngcaphdkgihmaaW.PrintWords Go.Proofs.YtngcaphdkgihmaaW.PrintLast Go.Proofs.YtngcaphdkgihmaaW.PrintMore
attribute [local go_sem] z17 z19 z1e z1f z12 z13 z18 z1a   -- for this text's walks alone
set_option linter.unusedVariables false
set_option linter.unusedSimpArgs false
def zJ.j0 : Nat → Int → Bool → Int → Int → Option (Bool)
 | 0,_,_,_,_=>none
 | k + 1,x0,x5,x102000,x102001=>if x5 = true then (some false) else (if x0 = 7 then (some true) else (if x0 = 6 then (some (x102000 == 0)) else (if x102000 = 0 then (if 0 ≤ x0 then (some ((shr .u64 x102001 (shl .u64 1 x0)) == 0)) else (none)) else (some false))))
def zJ.f (k : Nat) (a0 : Int) (a1_0 : Int) (a1_1 : Int) : Option (Bool):=if a0 < 0 then (zJ.j0 k a0 true a1_0 a1_1) else (zJ.j0 k a0 (decide (a0 > 7)) a1_0 a1_1)
theorem zJ.z1b : ∀ k,(∀ y0 y1 y2 y3,LeO (zJ.j0 k y0 y1 y2 y3) (zJ.j0 (k + 1) y0 y1 y2 y3))
 | 0=>fun _ _ _ _ r h=>by simp [zJ.j0] at h
 | k + 1=>by
  have ih0:=zJ.z1b k
  · intro y0 y1 y2 y3
    unfold zJ.j0
    repeat' first
    | (with_reducible exact ih0 _ _ _ _)
    | (with_reducible exact LeO.refl _)
    | (with_reducible exact LeO.none _)
    | (with_reducible refine LeO.ite ?_ ?_)
    | (with_reducible refine LeO.bind ?_ (fun _=>?_))
    | exact ih0 _ _ _ _
    | exact LeO.none _
    | refine LeO.ite ?_ ?_
    | refine LeO.bind ?_ (fun _=>?_)
theorem zJ.mono : ∀ a0 a1 a2 k,LeO (zJ.f k a0 a1 a2) (zJ.f (k + 1) a0 a1 a2):=by
 intro a0 a1 a2 k
 have ih0:=zJ.z1b k
 unfold zJ.f
 repeat' first
  | (with_reducible exact ih0 _ _ _ _)
  | (with_reducible exact LeO.refl _)
  | (with_reducible exact LeO.none _)
  | (with_reducible refine LeO.ite ?_ ?_)
  | (with_reducible refine LeO.bind ?_ (fun _=>?_))
  | exact ih0 _ _ _ _
  | exact LeO.none _
  | refine LeO.ite ?_ ?_
  | refine LeO.bind ?_ (fun _=>?_)
set_option maxHeartbeats 8000000 in
set_option maxRecDepth 100000 in
theorem zJ.calls (k : Nat) (a0 : Int) (a1_0 : Int) (a1_1 : Int) (r : Bool) (w : World) (h : zJ.f k a0 a1_0 a1_1 = some r) :
 Calls Try.prog 67 #[.int .i64 a0,.agg #[.int .u64 a1_0,.int .u64 a1_1]] w fun e w'=>e = .returned (.bool r) ∧ Below w.heap.size w w':=by
 have hu51:=Try.underlying51
 have HB:=z7.mk (Below.refl w.heap.size w)
 have H : (if a0 < 0 then (zJ.j0 k a0 true a1_0 a1_1) else (zJ.j0 k a0 (decide (a0 > 7)) a1_0 a1_1)) = some r:=h
 clear h
 have HC3:=z7.mk H
 clear H
 go_enter Try.func67,Try.ntmps67
 go_upto_region 1 with (first|((with_reducible refine zG (N:=3) rfl ?_);refine zE ?hg (N:=3) ?hd (cs:=#[.int .u64 a1_0,.int .u64 a1_1]) (t:=51) ?hr ?_;(case hd=>rfl);(case hg=>rfl);(case hr=>first|(go_simp;done)|(go_simp;rfl));intro gb101 hg w4 hbox hb;have n0_:=z7.mk (zg (by repeat (first|(with_reducible first|exact HB.out|apply z4|apply z0|apply z3)|exact HB.out)) hb);have n1_:=z7.mk (hbox);have n2_:=z7.mk ((by rw [hg];exact (zf (by repeat (first|(with_reducible first|exact HB.out|apply z4|apply z0|apply z3)|exact HB.out))) : w.heap.size ≤ gb101));have n3_:=z7.mk ((by rw [hg];exact (zf (by repeat (first|(with_reducible first|exact HB.out|apply z4|apply z0|apply z3)|exact HB.out))) : w.heap.size ≤ gb101));clear HB;have HB:=n0_;have BK101:=n1_;have GW101:=n2_;have GE101:=n3_;clear n0_ n1_ n2_ n3_;clear hb hbox hg))
 repeat (go_quiet (first|((with_reducible refine zG (N:=3) rfl ?_);refine zE ?hg (N:=3) ?hd (cs:=#[.int .u64 a1_0,.int .u64 a1_1]) (t:=51) ?hr ?_;(case hd=>rfl);(case hg=>rfl);(case hr=>first|(go_simp;done)|(go_simp;rfl));intro gb101 hg w4 hbox hb;have n0_:=z7.mk (zg (by repeat (first|(with_reducible first|exact HB.out|apply z4|apply z0|apply z3)|exact HB.out)) hb);have n1_:=z7.mk (hbox);have n2_:=z7.mk ((by rw [hg];exact (zf (by repeat (first|(with_reducible first|exact HB.out|apply z4|apply z0|apply z3)|exact HB.out))) : w.heap.size ≤ gb101));have n3_:=z7.mk ((by rw [hg];exact (zf (by repeat (first|(with_reducible first|exact HB.out|apply z4|apply z0|apply z3)|exact HB.out))) : w.heap.size ≤ gb101));clear HB;have HB:=n0_;have BK101:=n1_;have GW101:=n2_;have GE101:=n3_;clear n0_ n1_ n2_ n3_;clear hb hbox hg));go_upto_region 1 with (first|((with_reducible refine zG (N:=3) rfl ?_);refine zE ?hg (N:=3) ?hd (cs:=#[.int .u64 a1_0,.int .u64 a1_1]) (t:=51) ?hr ?_;(case hd=>rfl);(case hg=>rfl);(case hr=>first|(go_simp;done)|(go_simp;rfl));intro gb101 hg w4 hbox hb;have n0_:=z7.mk (zg (by repeat (first|(with_reducible first|exact HB.out|apply z4|apply z0|apply z3)|exact HB.out)) hb);have n1_:=z7.mk (hbox);have n2_:=z7.mk ((by rw [hg];exact (zf (by repeat (first|(with_reducible first|exact HB.out|apply z4|apply z0|apply z3)|exact HB.out))) : w.heap.size ≤ gb101));have n3_:=z7.mk ((by rw [hg];exact (zf (by repeat (first|(with_reducible first|exact HB.out|apply z4|apply z0|apply z3)|exact HB.out))) : w.heap.size ≤ gb101));clear HB;have HB:=n0_;have BK101:=n1_;have GW101:=n2_;have GE101:=n3_;clear n0_ n1_ n2_ n3_;clear hb hbox hg)))
 (try simp only [Act.put,List.setIfInBounds_toArray,List.set_cons_zero,List.set_cons_succ])
 go_cut [5] (fun v5 wc=>∃ (kq : Nat) (x5_2 : Bool),v5 = .bool x5_2 ∧ z7 (zJ.j0 kq a0 x5_2 a1_0 a1_1 = some r) ∧ z7 (kq ≤ k) ∧ z7 (wc.heap[gb101]? = some (.cells #[.int .u64 a1_0,.int .u64 a1_1] 51 (0,0))) ∧ z7 (Below w.heap.size w wc))
 case first =>
  have H:=HC3.out
  clear HC3
  by_cases c5 : a0 < 0
  rotate_left
  · rw [if_neg c5] at H
    have c5b0 : decide (a0 < 0) = false:=decide_eq_false c5
    clear c5
    (first|rw [c5b0]|(simp only [zH,zL];rw [c5b0])|skip)
    have H':=z7.mk H
    clear H
    go_wp2
    repeat (go_quiet (fail);try go_wp2)
    go_meet
    case rel=>exact ⟨_,(decide (a0 > 7)),(by first|rfl|(simp;done)|(simp [*];done)),H',⟨by first|omega|exact Nat.le_refl _⟩,⟨by (with_reducible repeat (first|refine z2 ?_ _|refine z5 ?_|refine z1 ?_ _));exact BK101.out⟩,⟨by repeat (first|(with_reducible first|exact HB.out|apply z4|apply z0|apply z3|refine z9 ?_ GE101.out)|exact HB.out)⟩⟩
  rw [if_pos c5] at H
  have c5b0 : decide (a0 < 0) = true:=decide_eq_true c5
  clear c5
  (first|rw [c5b0]|(simp only [zH,zL];rw [c5b0])|skip)
  have H':=z7.mk H
  clear H
  go_wp2
  repeat (go_quiet (fail);try go_wp2)
  go_meet
  case rel=>exact ⟨_,(true),(by first|rfl|(simp;done)|(simp [*];done)),H',⟨by first|omega|exact Nat.le_refl _⟩,⟨by (with_reducible repeat (first|refine z2 ?_ _|refine z5 ?_|refine z1 ?_ _));exact BK101.out⟩,⟨by repeat (first|(with_reducible first|exact HB.out|apply z4|apply z0|apply z3|refine z9 ?_ GE101.out)|exact HB.out)⟩⟩
 case rest =>
  clear HC3
  (try clear p2);(try clear c5);(try clear c5b0)
  obtain ⟨kq,x5_2,rfl,HA,HJ2,BK101,HB⟩:=hcut
  cases kq with
  | zero=>exact absurd HA.out (by simp [zJ.j0])
  | succ kj2 =>
   have H:=HA.out
   clear HA
   simp only [zJ.j0] at H
   by_cases c6 : x5_2 = true
   · subst c6
     have H1 : (some false) = some r:=by rw [if_pos rfl] at H;exact H
     clear H
     have H:=H1
     clear H1
     obtain rfl:=Option.some.inj H
     go_wp2
     repeat (go_quiet (fail);try go_wp2)
     go_ret
     exact ⟨by first|rfl|(simp [zl,zm] <;> rfl)|(simp [*,zl,zm] <;> rfl),by repeat (first|(with_reducible first|exact HB.out|apply z4|apply z0|apply z3|refine z9 ?_ GE101.out)|exact HB.out)⟩
   replace c6:=Bool.eq_false_iff.mpr c6
   subst c6
   have H1 : (if a0 = 7 then (some true) else (if a0 = 6 then (some (a1_0 == 0)) else (if a1_0 = 0 then (if 0 ≤ a0 then (some ((shr .u64 a1_1 (shl .u64 1 a0)) == 0)) else (none)) else (some false)))) = some r:=by rw [if_neg (show ¬ (false = true) by decide)] at H;exact H
   clear H
   have H:=H1
   clear H1
   by_cases c7 : a0 = 7
   · rw [if_pos c7] at H
     have c7b0 : (a0 == 7) = true:=beq_iff_eq.mpr c7
     have c7b1 : (a0 != 7) = false:=bne_eq_false_iff_eq.mpr c7
     clear c7
     obtain rfl:=Option.some.inj H
     go_wp2
     repeat (go_quiet (fail);try go_wp2)
     go_ret
     exact ⟨by first|rfl|(simp [zl,zm] <;> rfl)|(simp [*,zl,zm] <;> rfl),by repeat (first|(with_reducible first|exact HB.out|apply z4|apply z0|apply z3|refine z9 ?_ GE101.out)|exact HB.out)⟩
   rw [if_neg c7] at H
   have c7b0 : (a0 == 7) = false:=beq_eq_false_iff_ne.mpr c7
   have c7b1 : (a0 != 7) = true:=bne_iff_ne.mpr c7
   by_cases c8 : a0 = 6
   · rw [if_pos c8] at H
     have c8b0 : (a0 == 6) = true:=beq_iff_eq.mpr c8
     have c8b1 : (a0 != 6) = false:=bne_eq_false_iff_eq.mpr c8
     clear c8
     obtain rfl:=Option.some.inj H
     have hcz9_0 : wc.cell? ⟨gb101,0,none⟩ = some (.int .u64 a1_0):=(zb BK101.out 0).trans rfl
     have hcz9_1 : wc.cell? ⟨gb101,1,none⟩ = some (.int .u64 a1_1):=(zb BK101.out 1).trans rfl
     have hfz9_0:=z8 BK101.out 0
     have hfz9_1:=z8 BK101.out 1
     go_wp2
     repeat (go_quiet (fail);try go_wp2)
     go_ret
     exact ⟨by first|rfl|(simp [zl,zm] <;> rfl)|(simp [*,zl,zm] <;> rfl),by repeat (first|(with_reducible first|exact HB.out|apply z4|apply z0|apply z3|refine z9 ?_ GE101.out)|exact HB.out)⟩
   rw [if_neg c8] at H
   have c8b0 : (a0 == 6) = false:=beq_eq_false_iff_ne.mpr c8
   have c8b1 : (a0 != 6) = true:=bne_iff_ne.mpr c8
   by_cases c10 : a1_0 = 0
   rotate_left
   · rw [if_neg c10] at H
     have c10b0 : (a1_0 == 0) = false:=beq_eq_false_iff_ne.mpr c10
     have c10b1 : (a1_0 != 0) = true:=bne_iff_ne.mpr c10
     obtain rfl:=Option.some.inj H
     have hcz15_0 : wc.cell? ⟨gb101,0,none⟩ = some (.int .u64 a1_0):=(zb BK101.out 0).trans rfl
     have hcz15_1 : wc.cell? ⟨gb101,1,none⟩ = some (.int .u64 a1_1):=(zb BK101.out 1).trans rfl
     have hfz15_0:=z8 BK101.out 0
     have hfz15_1:=z8 BK101.out 1
     go_wp2
     repeat (go_quiet (fail);try go_wp2)
     go_ret
     exact ⟨by first|rfl|(simp [zl,zm] <;> rfl)|(simp [*,zl,zm] <;> rfl),by repeat (first|(with_reducible first|exact HB.out|apply z4|apply z0|apply z3|refine z9 ?_ GE101.out)|exact HB.out)⟩
   rw [if_pos c10] at H
   have c10b0 : (a1_0 == 0) = true:=beq_iff_eq.mpr c10
   have c10b1 : (a1_0 != 0) = false:=bne_eq_false_iff_eq.mpr c10
   clear c10
   by_cases c11 : 0 ≤ a0
   rotate_left
   · rw [if_neg c11] at H
     exact absurd H (by simp)
   rw [if_pos c11] at H
   have c11b0:=eq_true c11
   have c11b1 : decide (0 ≤ a0) = true:=decide_eq_true c11
   clear c11
   obtain ⟨ji12,hji12⟩ : ∃ j_ : Int,(shl .u64 1 a0) = j_:=⟨_,rfl⟩
   replace H : (some ((shr .u64 a1_1 (ji12)) == 0)) = some r:=by first|(rw [hji12] at H;exact H)|(simp only [hji12] at H ⊢;exact H)
   have hji12_ : (IntKind.u64.wrap (1 * 2 ^ min a0.toNat 64)) = ji12:=hji12
   have hji12z : a0 ≤ 64 → (IntKind.u64.wrap (1 * 2 ^ a0.toNat)) = ji12:=z1D hji12
   have hji12n0 : 0 ≤ ji12:=by rw [← hji12];exact Int.emod_nonneg _ (by decide)
   have hji12n1 : decide (0 ≤ ji12) = true:=decide_eq_true hji12n0
   replace hji12n0:=eq_true hji12n0
   have hji12u : (IntKind.u64.wrap (2 ^ min a0.toNat 64)) = ji12:=by have h_:=hji12_;rw [Int.one_mul] at h_;exact h_
   have hji12v : a0 ≤ 64 → (IntKind.u64.wrap (2 ^ a0.toNat)) = ji12:=fun hle_=>by have h_:=hji12z hle_;rw [Int.one_mul] at h_;exact h_
   obtain ⟨ji13,hji13⟩ : ∃ j_ : Int,(shr .u64 a1_1 (ji12)) = j_:=⟨_,rfl⟩
   replace H : (some ((ji13) == 0)) = some r:=by first|(rw [hji13] at H;exact H)|(simp only [hji13] at H ⊢;exact H)
   have hji13_ : (a1_1 / 2 ^ min (ji12).toNat 64) = ji13:=hji13
   have hji13z : (ji12) ≤ 64 → (a1_1 / 2 ^ (ji12).toNat) = ji13:=z24 hji13
   obtain rfl:=Option.some.inj H
   have hcz14_0 : wc.cell? ⟨gb101,0,none⟩ = some (.int .u64 a1_0):=(zb BK101.out 0).trans rfl
   have hcz14_1 : wc.cell? ⟨gb101,1,none⟩ = some (.int .u64 a1_1):=(zb BK101.out 1).trans rfl
   have hfz14_0:=z8 BK101.out 0
   have hfz14_1:=z8 BK101.out 1
   go_wp2
   repeat (go_quiet (fail);try go_wp2)
   go_ret
   exact ⟨by first|rfl|(simp [zl,zm] <;> rfl)|(simp only [← hji12,← hji13];first|rfl|(simp [zl,zm] <;> rfl))|(simp [*,zl,zm] <;> rfl),by repeat (first|(with_reducible first|exact HB.out|apply z4|apply z0|apply z3|refine z9 ?_ GE101.out)|exact HB.out)⟩
end Go.Proofs.Ytngcaphdkgihmaa.P
namespace Go.Proofs.Ytngcaphdkgihmaa.P
open Go.RowKit Go.Proofs.YtngcaphdkgihmaaW.PrintWords Go.Proofs.YtngcaphdkgihmaaW.PrintLast Go.Proofs.YtngcaphdkgihmaaW.PrintMore
attribute [local go_sem] z17 z19 z1e z1f z12 z13 z18 z1a   -- for this text's walks alone
set_option linter.unusedVariables false
set_option linter.unusedSimpArgs false
def z1n.f (a0_0 : Int) (a0_1 : Int) (a0_2 : Int) (a0_3 : Int) (a0_4 : Int) (a1 : Int) : Option (Bool):=if a0_1 ≥ 0 then (if a0_1 < a1 then (if a0_2 ≥ 0 then (some (decide (a0_2 < a1))) else (some false)) else (some false)) else (some false)
set_option maxHeartbeats 8000000 in
set_option maxRecDepth 100000 in
theorem z1n.calls (a0_0 : Int) (a0_1 : Int) (a0_2 : Int) (a0_3 : Int) (a0_4 : Int) (a1 : Int) (r : Bool) (w : World) (h : z1n.f a0_0 a0_1 a0_2 a0_3 a0_4 a1 = some r) :
 Calls Try.prog 105 #[.agg #[.int .i64 a0_0,.int .i64 a0_1,.int .i64 a0_2,.int .u64 a0_3,.int .u64 a0_4],.int .i64 a1] w fun e w'=>e = .returned (.bool r) ∧ Below w.heap.size w w':=by
 have hu87:=Try.underlying87
 have HB:=z7.mk (Below.refl w.heap.size w)
 have H : (if a0_1 ≥ 0 then (if a0_1 < a1 then (if a0_2 ≥ 0 then (some (decide (a0_2 < a1))) else (some false)) else (some false)) else (some false)) = some r:=h
 clear h
 by_cases c3 : a0_1 ≥ 0
 rotate_left
 · rw [if_neg c3] at H
   have c3b0 : decide (0 ≤ a0_1) = false:=decide_eq_false c3
   clear c3
   obtain rfl:=Option.some.inj H
   go_enter Try.func105,Try.ntmps105
   go_wp2_with (first|((with_reducible refine zG (N:=2) rfl ?_);refine zE ?hg (N:=2) ?hd (cs:=#[.int .i64 a0_0,.int .i64 a0_1,.int .i64 a0_2,.int .u64 a0_3,.int .u64 a0_4]) (t:=87) ?hr ?_;(case hd=>rfl);(case hg=>rfl);(case hr=>first|(go_simp;done)|(go_simp;rfl));intro gb101 hg w12 hbox hb;have n0_:=z7.mk (zg (by repeat (first|(with_reducible first|exact HB.out|apply z4|apply z0|apply z3)|exact HB.out)) hb);have n1_:=z7.mk (hbox);have n2_:=z7.mk ((by rw [hg];exact (zf (by repeat (first|(with_reducible first|exact HB.out|apply z4|apply z0|apply z3)|exact HB.out))) : w.heap.size ≤ gb101));have n3_:=z7.mk ((by rw [hg];exact (zf (by repeat (first|(with_reducible first|exact HB.out|apply z4|apply z0|apply z3)|exact HB.out))) : w.heap.size ≤ gb101));clear HB;have HB:=n0_;have BK101:=n1_;have GW101:=n2_;have GE101:=n3_;clear n0_ n1_ n2_ n3_;clear hb hbox hg;have hcz13_0 : w12.cell? ⟨gb101,0,none⟩ = some (.int .i64 a0_0):=(zb BK101.out 0).trans rfl;have hcz13_1 : w12.cell? ⟨gb101,1,none⟩ = some (.int .i64 a0_1):=(zb BK101.out 1).trans rfl;have hcz13_2 : w12.cell? ⟨gb101,2,none⟩ = some (.int .i64 a0_2):=(zb BK101.out 2).trans rfl;have hcz13_3 : w12.cell? ⟨gb101,3,none⟩ = some (.int .u64 a0_3):=(zb BK101.out 3).trans rfl;have hcz13_4 : w12.cell? ⟨gb101,4,none⟩ = some (.int .u64 a0_4):=(zb BK101.out 4).trans rfl;have hfz13_0:=z8 BK101.out 0;have hfz13_1:=z8 BK101.out 1;have hfz13_2:=z8 BK101.out 2;have hfz13_3:=z8 BK101.out 3;have hfz13_4:=z8 BK101.out 4))
   go_ret
   exact ⟨by first|rfl|(simp [zl,zm] <;> rfl)|(simp [*,zl,zm] <;> rfl),by repeat (first|(with_reducible first|exact HB.out|apply z4|apply z0|apply z3|refine z9 ?_ GE101.out)|exact HB.out)⟩
 rw [if_pos c3] at H
 have c3b0 : decide (0 ≤ a0_1) = true:=decide_eq_true c3
 clear c3
 by_cases c4 : a0_1 < a1
 rotate_left
 · rw [if_neg c4] at H
   have c4b0 : decide (a0_1 < a1) = false:=decide_eq_false c4
   clear c4
   obtain rfl:=Option.some.inj H
   go_enter Try.func105,Try.ntmps105
   go_wp2_with (first|((with_reducible refine zG (N:=2) rfl ?_);refine zE ?hg (N:=2) ?hd (cs:=#[.int .i64 a0_0,.int .i64 a0_1,.int .i64 a0_2,.int .u64 a0_3,.int .u64 a0_4]) (t:=87) ?hr ?_;(case hd=>rfl);(case hg=>rfl);(case hr=>first|(go_simp;done)|(go_simp;rfl));intro gb101 hg w10 hbox hb;have n0_:=z7.mk (zg (by repeat (first|(with_reducible first|exact HB.out|apply z4|apply z0|apply z3)|exact HB.out)) hb);have n1_:=z7.mk (hbox);have n2_:=z7.mk ((by rw [hg];exact (zf (by repeat (first|(with_reducible first|exact HB.out|apply z4|apply z0|apply z3)|exact HB.out))) : w.heap.size ≤ gb101));have n3_:=z7.mk ((by rw [hg];exact (zf (by repeat (first|(with_reducible first|exact HB.out|apply z4|apply z0|apply z3)|exact HB.out))) : w.heap.size ≤ gb101));clear HB;have HB:=n0_;have BK101:=n1_;have GW101:=n2_;have GE101:=n3_;clear n0_ n1_ n2_ n3_;clear hb hbox hg;have hcz11_0 : w10.cell? ⟨gb101,0,none⟩ = some (.int .i64 a0_0):=(zb BK101.out 0).trans rfl;have hcz11_1 : w10.cell? ⟨gb101,1,none⟩ = some (.int .i64 a0_1):=(zb BK101.out 1).trans rfl;have hcz11_2 : w10.cell? ⟨gb101,2,none⟩ = some (.int .i64 a0_2):=(zb BK101.out 2).trans rfl;have hcz11_3 : w10.cell? ⟨gb101,3,none⟩ = some (.int .u64 a0_3):=(zb BK101.out 3).trans rfl;have hcz11_4 : w10.cell? ⟨gb101,4,none⟩ = some (.int .u64 a0_4):=(zb BK101.out 4).trans rfl;have hfz11_0:=z8 BK101.out 0;have hfz11_1:=z8 BK101.out 1;have hfz11_2:=z8 BK101.out 2;have hfz11_3:=z8 BK101.out 3;have hfz11_4:=z8 BK101.out 4))
   go_ret
   exact ⟨by first|rfl|(simp [zl,zm] <;> rfl)|(simp [*,zl,zm] <;> rfl),by repeat (first|(with_reducible first|exact HB.out|apply z4|apply z0|apply z3|refine z9 ?_ GE101.out)|exact HB.out)⟩
 rw [if_pos c4] at H
 have c4b0 : decide (a0_1 < a1) = true:=decide_eq_true c4
 clear c4
 by_cases c5 : a0_2 ≥ 0
 rotate_left
 · rw [if_neg c5] at H
   have c5b0 : decide (0 ≤ a0_2) = false:=decide_eq_false c5
   clear c5
   obtain rfl:=Option.some.inj H
   go_enter Try.func105,Try.ntmps105
   go_wp2_with (first|((with_reducible refine zG (N:=2) rfl ?_);refine zE ?hg (N:=2) ?hd (cs:=#[.int .i64 a0_0,.int .i64 a0_1,.int .i64 a0_2,.int .u64 a0_3,.int .u64 a0_4]) (t:=87) ?hr ?_;(case hd=>rfl);(case hg=>rfl);(case hr=>first|(go_simp;done)|(go_simp;rfl));intro gb101 hg w8 hbox hb;have n0_:=z7.mk (zg (by repeat (first|(with_reducible first|exact HB.out|apply z4|apply z0|apply z3)|exact HB.out)) hb);have n1_:=z7.mk (hbox);have n2_:=z7.mk ((by rw [hg];exact (zf (by repeat (first|(with_reducible first|exact HB.out|apply z4|apply z0|apply z3)|exact HB.out))) : w.heap.size ≤ gb101));have n3_:=z7.mk ((by rw [hg];exact (zf (by repeat (first|(with_reducible first|exact HB.out|apply z4|apply z0|apply z3)|exact HB.out))) : w.heap.size ≤ gb101));clear HB;have HB:=n0_;have BK101:=n1_;have GW101:=n2_;have GE101:=n3_;clear n0_ n1_ n2_ n3_;clear hb hbox hg;have hcz9_0 : w8.cell? ⟨gb101,0,none⟩ = some (.int .i64 a0_0):=(zb BK101.out 0).trans rfl;have hcz9_1 : w8.cell? ⟨gb101,1,none⟩ = some (.int .i64 a0_1):=(zb BK101.out 1).trans rfl;have hcz9_2 : w8.cell? ⟨gb101,2,none⟩ = some (.int .i64 a0_2):=(zb BK101.out 2).trans rfl;have hcz9_3 : w8.cell? ⟨gb101,3,none⟩ = some (.int .u64 a0_3):=(zb BK101.out 3).trans rfl;have hcz9_4 : w8.cell? ⟨gb101,4,none⟩ = some (.int .u64 a0_4):=(zb BK101.out 4).trans rfl;have hfz9_0:=z8 BK101.out 0;have hfz9_1:=z8 BK101.out 1;have hfz9_2:=z8 BK101.out 2;have hfz9_3:=z8 BK101.out 3;have hfz9_4:=z8 BK101.out 4))
   go_ret
   exact ⟨by first|rfl|(simp [zl,zm] <;> rfl)|(simp [*,zl,zm] <;> rfl),by repeat (first|(with_reducible first|exact HB.out|apply z4|apply z0|apply z3|refine z9 ?_ GE101.out)|exact HB.out)⟩
 rw [if_pos c5] at H
 have c5b0 : decide (0 ≤ a0_2) = true:=decide_eq_true c5
 clear c5
 obtain rfl:=Option.some.inj H
 go_enter Try.func105,Try.ntmps105
 go_wp2_with (first|((with_reducible refine zG (N:=2) rfl ?_);refine zE ?hg (N:=2) ?hd (cs:=#[.int .i64 a0_0,.int .i64 a0_1,.int .i64 a0_2,.int .u64 a0_3,.int .u64 a0_4]) (t:=87) ?hr ?_;(case hd=>rfl);(case hg=>rfl);(case hr=>first|(go_simp;done)|(go_simp;rfl));intro gb101 hg w6 hbox hb;have n0_:=z7.mk (zg (by repeat (first|(with_reducible first|exact HB.out|apply z4|apply z0|apply z3)|exact HB.out)) hb);have n1_:=z7.mk (hbox);have n2_:=z7.mk ((by rw [hg];exact (zf (by repeat (first|(with_reducible first|exact HB.out|apply z4|apply z0|apply z3)|exact HB.out))) : w.heap.size ≤ gb101));have n3_:=z7.mk ((by rw [hg];exact (zf (by repeat (first|(with_reducible first|exact HB.out|apply z4|apply z0|apply z3)|exact HB.out))) : w.heap.size ≤ gb101));clear HB;have HB:=n0_;have BK101:=n1_;have GW101:=n2_;have GE101:=n3_;clear n0_ n1_ n2_ n3_;clear hb hbox hg;have hcz7_0 : w6.cell? ⟨gb101,0,none⟩ = some (.int .i64 a0_0):=(zb BK101.out 0).trans rfl;have hcz7_1 : w6.cell? ⟨gb101,1,none⟩ = some (.int .i64 a0_1):=(zb BK101.out 1).trans rfl;have hcz7_2 : w6.cell? ⟨gb101,2,none⟩ = some (.int .i64 a0_2):=(zb BK101.out 2).trans rfl;have hcz7_3 : w6.cell? ⟨gb101,3,none⟩ = some (.int .u64 a0_3):=(zb BK101.out 3).trans rfl;have hcz7_4 : w6.cell? ⟨gb101,4,none⟩ = some (.int .u64 a0_4):=(zb BK101.out 4).trans rfl;have hfz7_0:=z8 BK101.out 0;have hfz7_1:=z8 BK101.out 1;have hfz7_2:=z8 BK101.out 2;have hfz7_3:=z8 BK101.out 3;have hfz7_4:=z8 BK101.out 4))
 go_ret
 exact ⟨by first|rfl|(simp [zl,zm] <;> rfl)|(simp [*,zl,zm] <;> rfl),by repeat (first|(with_reducible first|exact HB.out|apply z4|apply z0|apply z3|refine z9 ?_ GE101.out)|exact HB.out)⟩
end Go.Proofs.Ytngcaphdkgihmaa.P
namespace Go.Proofs.Ytngcaphdkgihmaa.P
open Go.RowKit Go.Proofs.YtngcaphdkgihmaaW.PrintWords Go.Proofs.YtngcaphdkgihmaaW.PrintLast Go.Proofs.YtngcaphdkgihmaaW.PrintMore
attribute [local go_sem] z17 z19 z1e z1f z12 z13 z18 z1a   -- for this text's walks alone
set_option linter.unusedVariables false
set_option linter.unusedSimpArgs false
attribute [local go_sem high] eqA51
mutual
def zC.j0 : Nat → Int → Int → List Int → Bool → Int → Int → Int → Int → Int → Int → Int → Option (Int × Int)
 | 0,_,_,_,_,_,_,_,_,_,_,_=>none
 | k + 1,x0,x1,x3,x12,x102000,x102001,x102002,x102003,x102004,x103000,x103001=>if x12 = true then ((zJ.f k x0 x102003 x102004).bind fun t103=>(if t103 = true then (some (0,0)) else (some (0,5)))) else (if x102000 = 2 then (if x102002 = 0 then (zC.j1 k x1 x3 (x102003 == x103000 && (x102004 == x103001)) x102000 x102001 x102002 x102003 x102004 x103000 x103001) else (zC.j1 k x1 x3 false x102000 x102001 x102002 x102003 x102004 x103000 x103001)) else (zC.j1 k x1 x3 false x102000 x102001 x102002 x102003 x102004 x103000 x103001))
def zC.j1 : Nat → Int → List Int → Bool → Int → Int → Int → Int → Int → Int → Int → Option (Int × Int)
 | 0,_,_,_,_,_,_,_,_,_,_=>none
 | k + 1,x1,x3,x31,x102000,x102001,x102002,x102003,x102004,x103000,x103001=>if x31 = true then (if x102001 < 0 then (some (0,4)) else (if x102001 ≥ x1 then (some (0,4)) else (some (1,0)))) else (if x102000 = 3 then (if (x102003 == x103000 && (x102004 == x103001)) = true then ((z1n.f x102000 x102001 x102002 x102003 x102004 (x3.length : Int)).bind fun t104=>(zC.j2 k x3 t104 x102000 x102001 x102002 x102003 x102004 x103000 x103001)) else (zC.j2 k x3 false x102000 x102001 x102002 x102003 x102004 x103000 x103001)) else (zC.j2 k x3 false x102000 x102001 x102002 x102003 x102004 x103000 x103001))
def zC.j2 : Nat → List Int → Bool → Int → Int → Int → Int → Int → Int → Int → Option (Int × Int)
 | 0,_,_,_,_,_,_,_,_,_=>none
 | k + 1,x3,x55,x102000,x102001,x102002,x102003,x102004,x103000,x103001=>if x55 = true then (if 0 ≤ x102001 then (if x102001 < (x3.length : Int) then (if 0 ≤ x102002 then (if x102002 < (x3.length : Int) then (some (mx (rd x3 x102001) (rd x3 x102002),0)) else (none)) else (none)) else (none)) else (none)) else (if x102000 = 4 then (if (x102003 == x103000 && (x102004 == x103001)) = true then ((z1n.f x102000 x102001 x102002 x102003 x102004 (x3.length : Int)).bind fun t107=>(if t107 = true then (if 0 ≤ x102001 then (if x102001 < (x3.length : Int) then (if 0 ≤ x102002 then (if x102002 < (x3.length : Int) then (some (wrap64 ((rd x3 x102001) + (rd x3 x102002)),0)) else (none)) else (none)) else (none)) else (none)) else (some (0,3)))) else (some (0,3))) else (some (0,3)))
end
def zC.f (k : Nat) (a0 : Int) (a1 : Int) (a2_0 : Int) (a2_1 : Int) (a2_2 : Int) (a2_3 : Int) (a2_4 : Int) (l3 : List Int) : Option (Int × Int):=if a2_0 = 1 then (if a2_1 = 0 then (zC.j0 k a0 a1 l3 (a2_2 == 0) a2_0 a2_1 a2_2 a2_3 a2_4 0 0) else (zC.j0 k a0 a1 l3 false a2_0 a2_1 a2_2 a2_3 a2_4 0 0)) else (zC.j0 k a0 a1 l3 false a2_0 a2_1 a2_2 a2_3 a2_4 0 0)
theorem zC.z1b : ∀ k,(∀ y0 y1 y2 y3 y4 y5 y6 y7 y8 y9 y10,LeO (zC.j0 k y0 y1 y2 y3 y4 y5 y6 y7 y8 y9 y10) (zC.j0 (k + 1) y0 y1 y2 y3 y4 y5 y6 y7 y8 y9 y10)) ∧ (∀ y0 y1 y2 y3 y4 y5 y6 y7 y8 y9,LeO (zC.j1 k y0 y1 y2 y3 y4 y5 y6 y7 y8 y9) (zC.j1 (k + 1) y0 y1 y2 y3 y4 y5 y6 y7 y8 y9)) ∧ (∀ y0 y1 y2 y3 y4 y5 y6 y7 y8,LeO (zC.j2 k y0 y1 y2 y3 y4 y5 y6 y7 y8) (zC.j2 (k + 1) y0 y1 y2 y3 y4 y5 y6 y7 y8))
 | 0=>⟨fun _ _ _ _ _ _ _ _ _ _ _ r h=>by simp [zC.j0] at h,fun _ _ _ _ _ _ _ _ _ _ r h=>by simp [zC.j1] at h,fun _ _ _ _ _ _ _ _ _ r h=>by simp [zC.j2] at h⟩
 | k + 1=>by
  obtain ⟨ih0,ih1,ih2⟩:=zC.z1b k
  refine ⟨?_,?_,?_⟩
  · intro y0 y1 y2 y3 y4 y5 y6 y7 y8 y9 y10
    unfold zC.j0
    repeat' first
    | (with_reducible exact ih0 _ _ _ _ _ _ _ _ _ _ _)
    | (with_reducible exact ih1 _ _ _ _ _ _ _ _ _ _)
    | (with_reducible exact ih2 _ _ _ _ _ _ _ _ _)
    | (with_reducible exact zJ.mono _ _ _ _)
    | (with_reducible exact LeO.refl _)
    | (with_reducible exact LeO.none _)
    | (with_reducible refine LeO.ite ?_ ?_)
    | (with_reducible refine LeO.bind ?_ (fun _=>?_))
    | exact ih0 _ _ _ _ _ _ _ _ _ _ _
    | exact ih1 _ _ _ _ _ _ _ _ _ _
    | exact ih2 _ _ _ _ _ _ _ _ _
    | exact zJ.mono _ _ _ _
    | exact LeO.none _
    | refine LeO.ite ?_ ?_
    | refine LeO.bind ?_ (fun _=>?_)
  · intro y0 y1 y2 y3 y4 y5 y6 y7 y8 y9
    unfold zC.j1
    repeat' first
    | (with_reducible exact ih0 _ _ _ _ _ _ _ _ _ _ _)
    | (with_reducible exact ih1 _ _ _ _ _ _ _ _ _ _)
    | (with_reducible exact ih2 _ _ _ _ _ _ _ _ _)
    | (with_reducible exact zJ.mono _ _ _ _)
    | (with_reducible exact LeO.refl _)
    | (with_reducible exact LeO.none _)
    | (with_reducible refine LeO.ite ?_ ?_)
    | (with_reducible refine LeO.bind ?_ (fun _=>?_))
    | exact ih0 _ _ _ _ _ _ _ _ _ _ _
    | exact ih1 _ _ _ _ _ _ _ _ _ _
    | exact ih2 _ _ _ _ _ _ _ _ _
    | exact zJ.mono _ _ _ _
    | exact LeO.none _
    | refine LeO.ite ?_ ?_
    | refine LeO.bind ?_ (fun _=>?_)
  · intro y0 y1 y2 y3 y4 y5 y6 y7 y8
    unfold zC.j2
    repeat' first
    | (with_reducible exact ih0 _ _ _ _ _ _ _ _ _ _ _)
    | (with_reducible exact ih1 _ _ _ _ _ _ _ _ _ _)
    | (with_reducible exact ih2 _ _ _ _ _ _ _ _ _)
    | (with_reducible exact zJ.mono _ _ _ _)
    | (with_reducible exact LeO.refl _)
    | (with_reducible exact LeO.none _)
    | (with_reducible refine LeO.ite ?_ ?_)
    | (with_reducible refine LeO.bind ?_ (fun _=>?_))
    | exact ih0 _ _ _ _ _ _ _ _ _ _ _
    | exact ih1 _ _ _ _ _ _ _ _ _ _
    | exact ih2 _ _ _ _ _ _ _ _ _
    | exact zJ.mono _ _ _ _
    | exact LeO.none _
    | refine LeO.ite ?_ ?_
    | refine LeO.bind ?_ (fun _=>?_)
theorem zC.mono : ∀ a0 a1 a2 a3 a4 a5 a6 a7 k,LeO (zC.f k a0 a1 a2 a3 a4 a5 a6 a7) (zC.f (k + 1) a0 a1 a2 a3 a4 a5 a6 a7):=by
 intro a0 a1 a2 a3 a4 a5 a6 a7 k
 obtain ⟨ih0,ih1,ih2⟩:=zC.z1b k
 unfold zC.f
 repeat' first
  | (with_reducible exact ih0 _ _ _ _ _ _ _ _ _ _ _)
  | (with_reducible exact ih1 _ _ _ _ _ _ _ _ _ _)
  | (with_reducible exact ih2 _ _ _ _ _ _ _ _ _)
  | (with_reducible exact zJ.mono _ _ _ _)
  | (with_reducible exact LeO.refl _)
  | (with_reducible exact LeO.none _)
  | (with_reducible refine LeO.ite ?_ ?_)
  | (with_reducible refine LeO.bind ?_ (fun _=>?_))
  | exact ih0 _ _ _ _ _ _ _ _ _ _ _
  | exact ih1 _ _ _ _ _ _ _ _ _ _
  | exact ih2 _ _ _ _ _ _ _ _ _
  | exact zJ.mono _ _ _ _
  | exact LeO.none _
  | refine LeO.ite ?_ ?_
  | refine LeO.bind ?_ (fun _=>?_)
set_option maxHeartbeats 8000000 in
set_option maxRecDepth 100000 in
theorem zC.calls (k : Nat) (a0 : Int) (a1 : Int) (a2_0 : Int) (a2_1 : Int) (a2_2 : Int) (a2_3 : Int) (a2_4 : Int) (A3 : Option Addr) (c3 : Nat) (l3 : List Int) (r1 : Int) (r2 : Int) (w : World) (hr3 : Kd.C (Kd.int .i64) w A3 l3.length l3) (hc3 : l3.length ≤ c3) (h : zC.f k a0 a1 a2_0 a2_1 a2_2 a2_3 a2_4 l3 = some (r1,r2)) :
 Calls Try.prog 99 #[.int .i64 a0,.int .i64 a1,.agg #[.int .i64 a2_0,.int .i64 a2_1,.int .i64 a2_2,.int .u64 a2_3,.int .u64 a2_4],.slice A3 l3.length c3] w fun e w'=>e = .returned (.tuple #[.int .i64 r1,.int .i64 r2]) ∧ Below w.heap.size w w':=by
 have hu87:=Try.underlying87
 have hu51:=Try.underlying51
 have HR3:=z7.mk hr3
 have HC3:=z7.mk hc3
 clear hr3 hc3
 have HB:=z7.mk (Below.refl w.heap.size w)
 have H : (if a2_0 = 1 then (if a2_1 = 0 then (zC.j0 k a0 a1 l3 (a2_2 == 0) a2_0 a2_1 a2_2 a2_3 a2_4 0 0) else (zC.j0 k a0 a1 l3 false a2_0 a2_1 a2_2 a2_3 a2_4 0 0)) else (zC.j0 k a0 a1 l3 false a2_0 a2_1 a2_2 a2_3 a2_4 0 0)) = some (r1,r2):=h
 clear h
 have HC5:=z7.mk H
 clear H
 go_enter Try.func99,Try.ntmps99
 go_upto_region 2 with (first|((with_reducible refine zG (N:=6) rfl ?_);(try (refine z1T (by rfl) ?_;dsimp only));refine zE ?hg (N:=6) ?hd (cs:=#[.int .i64 a2_0,.int .i64 a2_1,.int .i64 a2_2,.int .u64 a2_3,.int .u64 a2_4]) (t:=87) ?hr ?_;(case hd=>rfl);(case hg=>rfl);(case hr=>first|(go_simp;done)|(go_simp;rfl));intro gb101 hg w6 hbox hb;have n0_:=z7.mk (zg (by repeat (first|(with_reducible first|exact HB.out|apply z4|apply z0|apply z3)|exact HB.out)) hb);have n1_:=z7.mk (hbox);have n2_:=z7.mk ((by rw [hg];exact (zf (by repeat (first|(with_reducible first|exact HB.out|apply z4|apply z0|apply z3)|exact HB.out))) : w.heap.size ≤ gb101));have n3_:=z7.mk ((by rw [hg];exact (zf (by repeat (first|(with_reducible first|exact HB.out|apply z4|apply z0|apply z3)|exact HB.out))) : w.heap.size ≤ gb101));clear HB;have HB:=n0_;have BK101:=n1_;have GW101:=n2_;have GE101:=n3_;clear n0_ n1_ n2_ n3_;clear hb hbox hg)|((with_reducible refine zG (N:=10) rfl ?_);(try (refine z1T (by rfl) ?_;dsimp only));refine zE ?hg (N:=10) ?hd (cs:=#[.int .u64 0,.int .u64 0]) (t:=51) ?hr ?_;(case hd=>rfl);(case hg=>rfl);(case hr=>first|(go_simp;done)|(go_simp;rfl));intro gb102 hg w7 hbox hb;have n0_:=z7.mk (zk (g:=gb101) (o:=.cells #[.int .i64 a2_0,.int .i64 a2_1,.int .i64 a2_2,.int .u64 a2_3,.int .u64 a2_4] 87 (0,0)) (by (with_reducible repeat (first|refine z2 ?_ _|refine z5 ?_|refine z1 ?_ _));exact BK101.out) hb);have n1_:=z7.mk (zg (by repeat (first|(with_reducible first|exact HB.out|apply z4|apply z0|apply z3|refine z9 ?_ GE101.out)|exact HB.out)) hb);have n2_:=z7.mk (hbox);have n3_:=z7.mk ((by rw [hg];exact (zf (by repeat (first|(with_reducible first|exact HB.out|apply z4|apply z0|apply z3|refine z9 ?_ GE101.out)|exact HB.out))) : w.heap.size ≤ gb102));have n4_:=z7.mk ((by rw [hg];exact (zf (by repeat (first|(with_reducible first|exact HB.out|apply z4|apply z0|apply z3|refine z9 ?_ GE101.out)|exact HB.out))) : w.heap.size ≤ gb102));have n5_:=z7.mk ((by rw [hg];exact Nat.ne_of_lt (zP (g:=gb101) (o:=.cells #[.int .i64 a2_0,.int .i64 a2_1,.int .i64 a2_2,.int .u64 a2_3,.int .u64 a2_4] 87 (0,0)) (by (with_reducible repeat (first|refine z2 ?_ _|refine z5 ?_|refine z1 ?_ _));exact BK101.out)) : gb101 ≠ gb102));have n6_:=z7.mk ((by rw [hg];exact Nat.ne_of_gt (zP (g:=gb101) (o:=.cells #[.int .i64 a2_0,.int .i64 a2_1,.int .i64 a2_2,.int .u64 a2_3,.int .u64 a2_4] 87 (0,0)) (by (with_reducible repeat (first|refine z2 ?_ _|refine z5 ?_|refine z1 ?_ _));exact BK101.out)) : gb102 ≠ gb101));clear BK101;clear HB;have BK101:=n0_;have HB:=n1_;have BK102:=n2_;have GW102:=n3_;have GE102:=n4_;have NB101_102:=n5_;have NB102_101:=n6_;clear n0_ n1_ n2_ n3_ n4_ n5_ n6_;clear hb hbox hg;have hnb8:=NB102_101.out;have hnc8:=NB101_102.out;have hcz9_0 : w7.cell? ⟨gb102,0,none⟩ = some (.int .u64 0):=(zb BK102.out 0).trans rfl;have hcz9_1 : w7.cell? ⟨gb102,1,none⟩ = some (.int .u64 0):=(zb BK102.out 1).trans rfl;have hfz9_0:=z8 BK102.out 0;have hfz9_1:=z8 BK102.out 1))
 repeat (go_quiet (first|((with_reducible refine zG (N:=6) rfl ?_);(try (refine z1T (by rfl) ?_;dsimp only));refine zE ?hg (N:=6) ?hd (cs:=#[.int .i64 a2_0,.int .i64 a2_1,.int .i64 a2_2,.int .u64 a2_3,.int .u64 a2_4]) (t:=87) ?hr ?_;(case hd=>rfl);(case hg=>rfl);(case hr=>first|(go_simp;done)|(go_simp;rfl));intro gb101 hg w6 hbox hb;have n0_:=z7.mk (zg (by repeat (first|(with_reducible first|exact HB.out|apply z4|apply z0|apply z3)|exact HB.out)) hb);have n1_:=z7.mk (hbox);have n2_:=z7.mk ((by rw [hg];exact (zf (by repeat (first|(with_reducible first|exact HB.out|apply z4|apply z0|apply z3)|exact HB.out))) : w.heap.size ≤ gb101));have n3_:=z7.mk ((by rw [hg];exact (zf (by repeat (first|(with_reducible first|exact HB.out|apply z4|apply z0|apply z3)|exact HB.out))) : w.heap.size ≤ gb101));clear HB;have HB:=n0_;have BK101:=n1_;have GW101:=n2_;have GE101:=n3_;clear n0_ n1_ n2_ n3_;clear hb hbox hg)|((with_reducible refine zG (N:=10) rfl ?_);(try (refine z1T (by rfl) ?_;dsimp only));refine zE ?hg (N:=10) ?hd (cs:=#[.int .u64 0,.int .u64 0]) (t:=51) ?hr ?_;(case hd=>rfl);(case hg=>rfl);(case hr=>first|(go_simp;done)|(go_simp;rfl));intro gb102 hg w7 hbox hb;have n0_:=z7.mk (zk (g:=gb101) (o:=.cells #[.int .i64 a2_0,.int .i64 a2_1,.int .i64 a2_2,.int .u64 a2_3,.int .u64 a2_4] 87 (0,0)) (by (with_reducible repeat (first|refine z2 ?_ _|refine z5 ?_|refine z1 ?_ _));exact BK101.out) hb);have n1_:=z7.mk (zg (by repeat (first|(with_reducible first|exact HB.out|apply z4|apply z0|apply z3|refine z9 ?_ GE101.out)|exact HB.out)) hb);have n2_:=z7.mk (hbox);have n3_:=z7.mk ((by rw [hg];exact (zf (by repeat (first|(with_reducible first|exact HB.out|apply z4|apply z0|apply z3|refine z9 ?_ GE101.out)|exact HB.out))) : w.heap.size ≤ gb102));have n4_:=z7.mk ((by rw [hg];exact (zf (by repeat (first|(with_reducible first|exact HB.out|apply z4|apply z0|apply z3|refine z9 ?_ GE101.out)|exact HB.out))) : w.heap.size ≤ gb102));have n5_:=z7.mk ((by rw [hg];exact Nat.ne_of_lt (zP (g:=gb101) (o:=.cells #[.int .i64 a2_0,.int .i64 a2_1,.int .i64 a2_2,.int .u64 a2_3,.int .u64 a2_4] 87 (0,0)) (by (with_reducible repeat (first|refine z2 ?_ _|refine z5 ?_|refine z1 ?_ _));exact BK101.out)) : gb101 ≠ gb102));have n6_:=z7.mk ((by rw [hg];exact Nat.ne_of_gt (zP (g:=gb101) (o:=.cells #[.int .i64 a2_0,.int .i64 a2_1,.int .i64 a2_2,.int .u64 a2_3,.int .u64 a2_4] 87 (0,0)) (by (with_reducible repeat (first|refine z2 ?_ _|refine z5 ?_|refine z1 ?_ _));exact BK101.out)) : gb102 ≠ gb101));clear BK101;clear HB;have BK101:=n0_;have HB:=n1_;have BK102:=n2_;have GW102:=n3_;have GE102:=n4_;have NB101_102:=n5_;have NB102_101:=n6_;clear n0_ n1_ n2_ n3_ n4_ n5_ n6_;clear hb hbox hg;have hnb8:=NB102_101.out;have hnc8:=NB101_102.out;have hcz9_0 : w7.cell? ⟨gb102,0,none⟩ = some (.int .u64 0):=(zb BK102.out 0).trans rfl;have hcz9_1 : w7.cell? ⟨gb102,1,none⟩ = some (.int .u64 0):=(zb BK102.out 1).trans rfl;have hfz9_0:=z8 BK102.out 0;have hfz9_1:=z8 BK102.out 1));go_upto_region 2 with (first|((with_reducible refine zG (N:=6) rfl ?_);(try (refine z1T (by rfl) ?_;dsimp only));refine zE ?hg (N:=6) ?hd (cs:=#[.int .i64 a2_0,.int .i64 a2_1,.int .i64 a2_2,.int .u64 a2_3,.int .u64 a2_4]) (t:=87) ?hr ?_;(case hd=>rfl);(case hg=>rfl);(case hr=>first|(go_simp;done)|(go_simp;rfl));intro gb101 hg w6 hbox hb;have n0_:=z7.mk (zg (by repeat (first|(with_reducible first|exact HB.out|apply z4|apply z0|apply z3)|exact HB.out)) hb);have n1_:=z7.mk (hbox);have n2_:=z7.mk ((by rw [hg];exact (zf (by repeat (first|(with_reducible first|exact HB.out|apply z4|apply z0|apply z3)|exact HB.out))) : w.heap.size ≤ gb101));have n3_:=z7.mk ((by rw [hg];exact (zf (by repeat (first|(with_reducible first|exact HB.out|apply z4|apply z0|apply z3)|exact HB.out))) : w.heap.size ≤ gb101));clear HB;have HB:=n0_;have BK101:=n1_;have GW101:=n2_;have GE101:=n3_;clear n0_ n1_ n2_ n3_;clear hb hbox hg)|((with_reducible refine zG (N:=10) rfl ?_);(try (refine z1T (by rfl) ?_;dsimp only));refine zE ?hg (N:=10) ?hd (cs:=#[.int .u64 0,.int .u64 0]) (t:=51) ?hr ?_;(case hd=>rfl);(case hg=>rfl);(case hr=>first|(go_simp;done)|(go_simp;rfl));intro gb102 hg w7 hbox hb;have n0_:=z7.mk (zk (g:=gb101) (o:=.cells #[.int .i64 a2_0,.int .i64 a2_1,.int .i64 a2_2,.int .u64 a2_3,.int .u64 a2_4] 87 (0,0)) (by (with_reducible repeat (first|refine z2 ?_ _|refine z5 ?_|refine z1 ?_ _));exact BK101.out) hb);have n1_:=z7.mk (zg (by repeat (first|(with_reducible first|exact HB.out|apply z4|apply z0|apply z3|refine z9 ?_ GE101.out)|exact HB.out)) hb);have n2_:=z7.mk (hbox);have n3_:=z7.mk ((by rw [hg];exact (zf (by repeat (first|(with_reducible first|exact HB.out|apply z4|apply z0|apply z3|refine z9 ?_ GE101.out)|exact HB.out))) : w.heap.size ≤ gb102));have n4_:=z7.mk ((by rw [hg];exact (zf (by repeat (first|(with_reducible first|exact HB.out|apply z4|apply z0|apply z3|refine z9 ?_ GE101.out)|exact HB.out))) : w.heap.size ≤ gb102));have n5_:=z7.mk ((by rw [hg];exact Nat.ne_of_lt (zP (g:=gb101) (o:=.cells #[.int .i64 a2_0,.int .i64 a2_1,.int .i64 a2_2,.int .u64 a2_3,.int .u64 a2_4] 87 (0,0)) (by (with_reducible repeat (first|refine z2 ?_ _|refine z5 ?_|refine z1 ?_ _));exact BK101.out)) : gb101 ≠ gb102));have n6_:=z7.mk ((by rw [hg];exact Nat.ne_of_gt (zP (g:=gb101) (o:=.cells #[.int .i64 a2_0,.int .i64 a2_1,.int .i64 a2_2,.int .u64 a2_3,.int .u64 a2_4] 87 (0,0)) (by (with_reducible repeat (first|refine z2 ?_ _|refine z5 ?_|refine z1 ?_ _));exact BK101.out)) : gb102 ≠ gb101));clear BK101;clear HB;have BK101:=n0_;have HB:=n1_;have BK102:=n2_;have GW102:=n3_;have GE102:=n4_;have NB101_102:=n5_;have NB102_101:=n6_;clear n0_ n1_ n2_ n3_ n4_ n5_ n6_;clear hb hbox hg;have hnb8:=NB102_101.out;have hnc8:=NB101_102.out;have hcz9_0 : w7.cell? ⟨gb102,0,none⟩ = some (.int .u64 0):=(zb BK102.out 0).trans rfl;have hcz9_1 : w7.cell? ⟨gb102,1,none⟩ = some (.int .u64 0):=(zb BK102.out 1).trans rfl;have hfz9_0:=z8 BK102.out 0;have hfz9_1:=z8 BK102.out 1)))
 (try simp only [Act.put,List.setIfInBounds_toArray,List.set_cons_zero,List.set_cons_succ])
 go_cut [12] (fun v12 wc=>∃ (kq : Nat) (x12_4 : Bool),v12 = .bool x12_4 ∧ z7 (zC.j0 kq a0 a1 l3 x12_4 a2_0 a2_1 a2_2 a2_3 a2_4 0 0 = some (r1,r2)) ∧ z7 (kq ≤ k) ∧ z7 (wc.heap[gb101]? = some (.cells #[.int .i64 a2_0,.int .i64 a2_1,.int .i64 a2_2,.int .u64 a2_3,.int .u64 a2_4] 87 (0,0))) ∧ z7 (wc.heap[gb102]? = some (.cells #[.int .u64 0,.int .u64 0] 51 (0,0))) ∧ z7 (Below w.heap.size w wc))
 case first =>
  have H:=HC5.out
  clear HC5
  by_cases c10 : a2_0 = 1
  rotate_left
  · rw [if_neg c10] at H
    have c10b0 : (a2_0 == 1) = false:=beq_eq_false_iff_ne.mpr c10
    have c10b1 : (a2_0 != 1) = true:=bne_iff_ne.mpr c10
    (first|rw [c10b0]|(simp only [zH,zL];rw [c10b0])|skip)
    have H':=z7.mk H
    clear H
    have hnb16:=NB101_102.out
    have hnc16:=NB102_101.out
    have hcz17_0 : w7.cell? ⟨gb101,0,none⟩ = some (.int .i64 a2_0):=(zb BK101.out 0).trans rfl
    have hcz17_1 : w7.cell? ⟨gb101,1,none⟩ = some (.int .i64 a2_1):=(zb BK101.out 1).trans rfl
    have hcz17_2 : w7.cell? ⟨gb101,2,none⟩ = some (.int .i64 a2_2):=(zb BK101.out 2).trans rfl
    have hcz17_3 : w7.cell? ⟨gb101,3,none⟩ = some (.int .u64 a2_3):=(zb BK101.out 3).trans rfl
    have hcz17_4 : w7.cell? ⟨gb101,4,none⟩ = some (.int .u64 a2_4):=(zb BK101.out 4).trans rfl
    have hfz17_0:=z8 BK101.out 0
    have hfz17_1:=z8 BK101.out 1
    have hfz17_2:=z8 BK101.out 2
    have hfz17_3:=z8 BK101.out 3
    have hfz17_4:=z8 BK101.out 4
    go_wp2
    repeat (go_quiet (fail);try go_wp2)
    go_meet
    case rel=>exact ⟨_,(false),(by first|rfl|(simp;done)|(simp [*];done)),H',⟨by first|omega|exact Nat.le_refl _⟩,⟨by (with_reducible repeat (first|refine z2 ?_ _|refine z5 ?_|refine z1 ?_ _));refine zs ?_ NB101_102.out _;(with_reducible repeat (first|refine z2 ?_ _|refine z5 ?_|refine z1 ?_ _));refine zs ?_ NB101_102.out _;(with_reducible repeat (first|refine z2 ?_ _|refine z5 ?_|refine z1 ?_ _));exact BK101.out⟩,⟨by (with_reducible repeat (first|refine z2 ?_ _|refine z5 ?_|refine z1 ?_ _));refine zq (cs:=#[.int .u64 0,.int .u64 0]) ?_ 1 _ rfl;(with_reducible repeat (first|refine z2 ?_ _|refine z5 ?_|refine z1 ?_ _));refine zq (cs:=#[.int .u64 0,.int .u64 0]) ?_ 0 _ rfl;(with_reducible repeat (first|refine z2 ?_ _|refine z5 ?_|refine z1 ?_ _));exact BK102.out⟩,⟨by repeat (first|(with_reducible first|exact HB.out|apply z4|apply z0|apply z3|refine z9 ?_ GE101.out|refine z9 ?_ GE102.out)|exact HB.out)⟩⟩
  rw [if_pos c10] at H
  have c10b0 : (a2_0 == 1) = true:=beq_iff_eq.mpr c10
  have c10b1 : (a2_0 != 1) = false:=bne_eq_false_iff_eq.mpr c10
  clear c10
  (first|rw [c10b0]|(simp only [zH,zL];rw [c10b0])|skip)
  by_cases c11 : a2_1 = 0
  rotate_left
  · rw [if_neg c11] at H
    have c11b0 : (a2_1 == 0) = false:=beq_eq_false_iff_ne.mpr c11
    have c11b1 : (a2_1 != 0) = true:=bne_iff_ne.mpr c11
    have H':=z7.mk H
    clear H
    have hnb14:=NB101_102.out
    have hnc14:=NB102_101.out
    have hcz15_0 : w7.cell? ⟨gb101,0,none⟩ = some (.int .i64 a2_0):=(zb BK101.out 0).trans rfl
    have hcz15_1 : w7.cell? ⟨gb101,1,none⟩ = some (.int .i64 a2_1):=(zb BK101.out 1).trans rfl
    have hcz15_2 : w7.cell? ⟨gb101,2,none⟩ = some (.int .i64 a2_2):=(zb BK101.out 2).trans rfl
    have hcz15_3 : w7.cell? ⟨gb101,3,none⟩ = some (.int .u64 a2_3):=(zb BK101.out 3).trans rfl
    have hcz15_4 : w7.cell? ⟨gb101,4,none⟩ = some (.int .u64 a2_4):=(zb BK101.out 4).trans rfl
    have hfz15_0:=z8 BK101.out 0
    have hfz15_1:=z8 BK101.out 1
    have hfz15_2:=z8 BK101.out 2
    have hfz15_3:=z8 BK101.out 3
    have hfz15_4:=z8 BK101.out 4
    go_wp2
    repeat (go_quiet (fail);try go_wp2)
    go_meet
    case rel=>exact ⟨_,(false),(by first|rfl|(simp;done)|(simp [*];done)),H',⟨by first|omega|exact Nat.le_refl _⟩,⟨by (with_reducible repeat (first|refine z2 ?_ _|refine z5 ?_|refine z1 ?_ _));refine zs ?_ NB101_102.out _;(with_reducible repeat (first|refine z2 ?_ _|refine z5 ?_|refine z1 ?_ _));refine zs ?_ NB101_102.out _;(with_reducible repeat (first|refine z2 ?_ _|refine z5 ?_|refine z1 ?_ _));exact BK101.out⟩,⟨by (with_reducible repeat (first|refine z2 ?_ _|refine z5 ?_|refine z1 ?_ _));refine zq (cs:=#[.int .u64 0,.int .u64 0]) ?_ 1 _ rfl;(with_reducible repeat (first|refine z2 ?_ _|refine z5 ?_|refine z1 ?_ _));refine zq (cs:=#[.int .u64 0,.int .u64 0]) ?_ 0 _ rfl;(with_reducible repeat (first|refine z2 ?_ _|refine z5 ?_|refine z1 ?_ _));exact BK102.out⟩,⟨by repeat (first|(with_reducible first|exact HB.out|apply z4|apply z0|apply z3|refine z9 ?_ GE101.out|refine z9 ?_ GE102.out)|exact HB.out)⟩⟩
  rw [if_pos c11] at H
  have c11b0 : (a2_1 == 0) = true:=beq_iff_eq.mpr c11
  have c11b1 : (a2_1 != 0) = false:=bne_eq_false_iff_eq.mpr c11
  clear c11
  have H':=z7.mk H
  clear H
  have hnb12:=NB101_102.out
  have hnc12:=NB102_101.out
  have hcz13_0 : w7.cell? ⟨gb101,0,none⟩ = some (.int .i64 a2_0):=(zb BK101.out 0).trans rfl
  have hcz13_1 : w7.cell? ⟨gb101,1,none⟩ = some (.int .i64 a2_1):=(zb BK101.out 1).trans rfl
  have hcz13_2 : w7.cell? ⟨gb101,2,none⟩ = some (.int .i64 a2_2):=(zb BK101.out 2).trans rfl
  have hcz13_3 : w7.cell? ⟨gb101,3,none⟩ = some (.int .u64 a2_3):=(zb BK101.out 3).trans rfl
  have hcz13_4 : w7.cell? ⟨gb101,4,none⟩ = some (.int .u64 a2_4):=(zb BK101.out 4).trans rfl
  have hfz13_0:=z8 BK101.out 0
  have hfz13_1:=z8 BK101.out 1
  have hfz13_2:=z8 BK101.out 2
  have hfz13_3:=z8 BK101.out 3
  have hfz13_4:=z8 BK101.out 4
  go_wp2
  repeat (go_quiet (fail);try go_wp2)
  go_meet
  case rel=>exact ⟨_,((a2_2 == 0)),(by first|rfl|(simp;done)|(simp [*];done)),H',⟨by first|omega|exact Nat.le_refl _⟩,⟨by (with_reducible repeat (first|refine z2 ?_ _|refine z5 ?_|refine z1 ?_ _));refine zs ?_ NB101_102.out _;(with_reducible repeat (first|refine z2 ?_ _|refine z5 ?_|refine z1 ?_ _));refine zs ?_ NB101_102.out _;(with_reducible repeat (first|refine z2 ?_ _|refine z5 ?_|refine z1 ?_ _));exact BK101.out⟩,⟨by (with_reducible repeat (first|refine z2 ?_ _|refine z5 ?_|refine z1 ?_ _));refine zq (cs:=#[.int .u64 0,.int .u64 0]) ?_ 1 _ rfl;(with_reducible repeat (first|refine z2 ?_ _|refine z5 ?_|refine z1 ?_ _));refine zq (cs:=#[.int .u64 0,.int .u64 0]) ?_ 0 _ rfl;(with_reducible repeat (first|refine z2 ?_ _|refine z5 ?_|refine z1 ?_ _));exact BK102.out⟩,⟨by repeat (first|(with_reducible first|exact HB.out|apply z4|apply z0|apply z3|refine z9 ?_ GE101.out|refine z9 ?_ GE102.out)|exact HB.out)⟩⟩
 case rest =>
  clear HC5
  (try clear c1);(try clear p2);(try clear c3);(try clear c8);(try clear c9);(try clear c10);(try clear c10b0);(try clear c10b1);(try clear c11);(try clear c11b0);(try clear c11b1);(try clear c12);(try clear c14);(try clear c16);(try clear hcz13_0);(try clear hcz13_1);(try clear hcz13_2);(try clear hcz13_3);(try clear hcz13_4);(try clear hcz15_0);(try clear hcz15_1);(try clear hcz15_2);(try clear hcz15_3);(try clear hcz15_4);(try clear hcz17_0);(try clear hcz17_1);(try clear hcz17_2);(try clear hcz17_3);(try clear hcz17_4);(try clear hcz9_0);(try clear hcz9_1);(try clear hfz13_0);(try clear hfz13_1);(try clear hfz13_2);(try clear hfz13_3);(try clear hfz13_4);(try clear hfz15_0);(try clear hfz15_1);(try clear hfz15_2);(try clear hfz15_3);(try clear hfz15_4);(try clear hfz17_0);(try clear hfz17_1);(try clear hfz17_2);(try clear hfz17_3);(try clear hfz17_4);(try clear hfz9_0);(try clear hfz9_1)
  obtain ⟨kq,x12_4,rfl,HA,HJ4,BK101,BK102,HB⟩:=hcut
  cases kq with
  | zero=>exact absurd HA.out (by simp [zC.j0])
  | succ kj4 =>
   have H:=HA.out
   clear HA
   simp only [zC.j0] at H
   by_cases c18 : x12_4 = true
   · subst c18
     have H1 : ((zJ.f kj4 a0 a2_3 a2_4).bind fun t103=>(if t103 = true then (some (0,0)) else (some (0,5)))) = some (r1,r2):=by rw [if_pos rfl] at H;exact H
     clear H
     have H:=H1
     clear H1
     replace H:=Option.bind_eq_some_iff.mp H
     obtain ⟨t103,A190,H⟩:=H
     replace H : (if t103 = true then (some (0,0)) else (some (0,5))) = some (r1,r2):=H
     have A19:=z7.mk A190
     clear A190
     by_cases c20 : t103 = true
     · subst c20
       have H1 : (some (0,0)) = some (r1,r2):=by rw [if_pos rfl] at H;exact H
       clear H
       have H:=H1
       clear H1
       simp only [Option.some.injEq,Prod.mk.injEq] at H
       obtain ⟨rfl,rfl⟩:=H
       have hnb21:=NB101_102.out
       have hnc21:=NB102_101.out
       have hcz22_0 : wc.cell? ⟨gb101,0,none⟩ = some (.int .i64 a2_0):=(zb BK101.out 0).trans rfl
       have hcz22_1 : wc.cell? ⟨gb101,1,none⟩ = some (.int .i64 a2_1):=(zb BK101.out 1).trans rfl
       have hcz22_2 : wc.cell? ⟨gb101,2,none⟩ = some (.int .i64 a2_2):=(zb BK101.out 2).trans rfl
       have hcz22_3 : wc.cell? ⟨gb101,3,none⟩ = some (.int .u64 a2_3):=(zb BK101.out 3).trans rfl
       have hcz22_4 : wc.cell? ⟨gb101,4,none⟩ = some (.int .u64 a2_4):=(zb BK101.out 4).trans rfl
       have hfz22_0:=z8 BK101.out 0
       have hfz22_1:=z8 BK101.out 1
       have hfz22_2:=z8 BK101.out 2
       have hfz22_3:=z8 BK101.out 3
       have hfz22_4:=z8 BK101.out 4
       go_wp2_with (first|(go_at_call 67;(with_reducible refine (zJ.calls kj4 a0 a2_3 a2_4 true _ A19.out).mono ?_);rintro e w23 ⟨rfl,hb⟩;have n0_:=z7.mk (zk (g:=gb101) (o:=.cells #[.int .i64 a2_0,.int .i64 a2_1,.int .i64 a2_2,.int .u64 a2_3,.int .u64 a2_4] 87 (0,0)) (by (with_reducible repeat (first|refine z2 ?_ _|refine z5 ?_|refine z1 ?_ _));exact BK101.out) hb);have n1_:=z7.mk (zk (g:=gb102) (o:=.cells #[.int .u64 0,.int .u64 0] 51 (0,0)) (by (with_reducible repeat (first|refine z2 ?_ _|refine z5 ?_|refine z1 ?_ _));exact BK102.out) hb);have n2_:=z7.mk (zg (by repeat (first|(with_reducible first|exact HB.out|apply z4|apply z0|apply z3|refine z9 ?_ GE101.out|refine z9 ?_ GE102.out)|exact HB.out)) hb);clear BK101;clear BK102;clear HB;have BK101:=n0_;have BK102:=n1_;have HB:=n2_;clear n0_ n1_ n2_;(try clear hb);(try clear hb2);(try clear hk);(try clear hi)))
       repeat (go_quiet (first|(go_at_call 67;(with_reducible refine (zJ.calls kj4 a0 a2_3 a2_4 true _ A19.out).mono ?_);rintro e w23 ⟨rfl,hb⟩;have n0_:=z7.mk (zk (g:=gb101) (o:=.cells #[.int .i64 a2_0,.int .i64 a2_1,.int .i64 a2_2,.int .u64 a2_3,.int .u64 a2_4] 87 (0,0)) (by (with_reducible repeat (first|refine z2 ?_ _|refine z5 ?_|refine z1 ?_ _));exact BK101.out) hb);have n1_:=z7.mk (zk (g:=gb102) (o:=.cells #[.int .u64 0,.int .u64 0] 51 (0,0)) (by (with_reducible repeat (first|refine z2 ?_ _|refine z5 ?_|refine z1 ?_ _));exact BK102.out) hb);have n2_:=z7.mk (zg (by repeat (first|(with_reducible first|exact HB.out|apply z4|apply z0|apply z3|refine z9 ?_ GE101.out|refine z9 ?_ GE102.out)|exact HB.out)) hb);clear BK101;clear BK102;clear HB;have BK101:=n0_;have BK102:=n1_;have HB:=n2_;clear n0_ n1_ n2_;(try clear hb);(try clear hb2);(try clear hk);(try clear hi)));try go_wp2_with (first|(go_at_call 67;(with_reducible refine (zJ.calls kj4 a0 a2_3 a2_4 true _ A19.out).mono ?_);rintro e w23 ⟨rfl,hb⟩;have n0_:=z7.mk (zk (g:=gb101) (o:=.cells #[.int .i64 a2_0,.int .i64 a2_1,.int .i64 a2_2,.int .u64 a2_3,.int .u64 a2_4] 87 (0,0)) (by (with_reducible repeat (first|refine z2 ?_ _|refine z5 ?_|refine z1 ?_ _));exact BK101.out) hb);have n1_:=z7.mk (zk (g:=gb102) (o:=.cells #[.int .u64 0,.int .u64 0] 51 (0,0)) (by (with_reducible repeat (first|refine z2 ?_ _|refine z5 ?_|refine z1 ?_ _));exact BK102.out) hb);have n2_:=z7.mk (zg (by repeat (first|(with_reducible first|exact HB.out|apply z4|apply z0|apply z3|refine z9 ?_ GE101.out|refine z9 ?_ GE102.out)|exact HB.out)) hb);clear BK101;clear BK102;clear HB;have BK101:=n0_;have BK102:=n1_;have HB:=n2_;clear n0_ n1_ n2_;(try clear hb);(try clear hb2);(try clear hk);(try clear hi))))
       go_ret2
       exact ⟨by first|rfl|(simp [zl,zm] <;> rfl)|(simp [*,zl,zm] <;> rfl),by repeat (first|(with_reducible first|exact HB.out|apply z4|apply z0|apply z3|refine z9 ?_ GE101.out|refine z9 ?_ GE102.out)|exact HB.out)⟩
     replace c20:=Bool.eq_false_iff.mpr c20
     subst c20
     have H1 : (some (0,5)) = some (r1,r2):=by rw [if_neg (show ¬ (false = true) by decide)] at H;exact H
     clear H
     have H:=H1
     clear H1
     simp only [Option.some.injEq,Prod.mk.injEq] at H
     obtain ⟨rfl,rfl⟩:=H
     have hnb24:=NB101_102.out
     have hnc24:=NB102_101.out
     have hcz25_0 : wc.cell? ⟨gb101,0,none⟩ = some (.int .i64 a2_0):=(zb BK101.out 0).trans rfl
     have hcz25_1 : wc.cell? ⟨gb101,1,none⟩ = some (.int .i64 a2_1):=(zb BK101.out 1).trans rfl
     have hcz25_2 : wc.cell? ⟨gb101,2,none⟩ = some (.int .i64 a2_2):=(zb BK101.out 2).trans rfl
     have hcz25_3 : wc.cell? ⟨gb101,3,none⟩ = some (.int .u64 a2_3):=(zb BK101.out 3).trans rfl
     have hcz25_4 : wc.cell? ⟨gb101,4,none⟩ = some (.int .u64 a2_4):=(zb BK101.out 4).trans rfl
     have hfz25_0:=z8 BK101.out 0
     have hfz25_1:=z8 BK101.out 1
     have hfz25_2:=z8 BK101.out 2
     have hfz25_3:=z8 BK101.out 3
     have hfz25_4:=z8 BK101.out 4
     go_wp2_with (first|(go_at_call 67;(with_reducible refine (zJ.calls kj4 a0 a2_3 a2_4 false _ A19.out).mono ?_);rintro e w26 ⟨rfl,hb⟩;have n0_:=z7.mk (zk (g:=gb101) (o:=.cells #[.int .i64 a2_0,.int .i64 a2_1,.int .i64 a2_2,.int .u64 a2_3,.int .u64 a2_4] 87 (0,0)) (by (with_reducible repeat (first|refine z2 ?_ _|refine z5 ?_|refine z1 ?_ _));exact BK101.out) hb);have n1_:=z7.mk (zk (g:=gb102) (o:=.cells #[.int .u64 0,.int .u64 0] 51 (0,0)) (by (with_reducible repeat (first|refine z2 ?_ _|refine z5 ?_|refine z1 ?_ _));exact BK102.out) hb);have n2_:=z7.mk (zg (by repeat (first|(with_reducible first|exact HB.out|apply z4|apply z0|apply z3|refine z9 ?_ GE101.out|refine z9 ?_ GE102.out)|exact HB.out)) hb);clear BK101;clear BK102;clear HB;have BK101:=n0_;have BK102:=n1_;have HB:=n2_;clear n0_ n1_ n2_;(try clear hb);(try clear hb2);(try clear hk);(try clear hi)))
     repeat (go_quiet (first|(go_at_call 67;(with_reducible refine (zJ.calls kj4 a0 a2_3 a2_4 false _ A19.out).mono ?_);rintro e w26 ⟨rfl,hb⟩;have n0_:=z7.mk (zk (g:=gb101) (o:=.cells #[.int .i64 a2_0,.int .i64 a2_1,.int .i64 a2_2,.int .u64 a2_3,.int .u64 a2_4] 87 (0,0)) (by (with_reducible repeat (first|refine z2 ?_ _|refine z5 ?_|refine z1 ?_ _));exact BK101.out) hb);have n1_:=z7.mk (zk (g:=gb102) (o:=.cells #[.int .u64 0,.int .u64 0] 51 (0,0)) (by (with_reducible repeat (first|refine z2 ?_ _|refine z5 ?_|refine z1 ?_ _));exact BK102.out) hb);have n2_:=z7.mk (zg (by repeat (first|(with_reducible first|exact HB.out|apply z4|apply z0|apply z3|refine z9 ?_ GE101.out|refine z9 ?_ GE102.out)|exact HB.out)) hb);clear BK101;clear BK102;clear HB;have BK101:=n0_;have BK102:=n1_;have HB:=n2_;clear n0_ n1_ n2_;(try clear hb);(try clear hb2);(try clear hk);(try clear hi)));try go_wp2_with (first|(go_at_call 67;(with_reducible refine (zJ.calls kj4 a0 a2_3 a2_4 false _ A19.out).mono ?_);rintro e w26 ⟨rfl,hb⟩;have n0_:=z7.mk (zk (g:=gb101) (o:=.cells #[.int .i64 a2_0,.int .i64 a2_1,.int .i64 a2_2,.int .u64 a2_3,.int .u64 a2_4] 87 (0,0)) (by (with_reducible repeat (first|refine z2 ?_ _|refine z5 ?_|refine z1 ?_ _));exact BK101.out) hb);have n1_:=z7.mk (zk (g:=gb102) (o:=.cells #[.int .u64 0,.int .u64 0] 51 (0,0)) (by (with_reducible repeat (first|refine z2 ?_ _|refine z5 ?_|refine z1 ?_ _));exact BK102.out) hb);have n2_:=z7.mk (zg (by repeat (first|(with_reducible first|exact HB.out|apply z4|apply z0|apply z3|refine z9 ?_ GE101.out|refine z9 ?_ GE102.out)|exact HB.out)) hb);clear BK101;clear BK102;clear HB;have BK101:=n0_;have BK102:=n1_;have HB:=n2_;clear n0_ n1_ n2_;(try clear hb);(try clear hb2);(try clear hk);(try clear hi))))
     go_ret2
     exact ⟨by first|rfl|(simp [zl,zm] <;> rfl)|(simp [*,zl,zm] <;> rfl),by repeat (first|(with_reducible first|exact HB.out|apply z4|apply z0|apply z3|refine z9 ?_ GE101.out|refine z9 ?_ GE102.out)|exact HB.out)⟩
   replace c18:=Bool.eq_false_iff.mpr c18
   subst c18
   have H1 : (if a2_0 = 2 then (if a2_2 = 0 then (zC.j1 kj4 a1 l3 (a2_3 == 0 && (a2_4 == 0)) a2_0 a2_1 a2_2 a2_3 a2_4 0 0) else (zC.j1 kj4 a1 l3 false a2_0 a2_1 a2_2 a2_3 a2_4 0 0)) else (zC.j1 kj4 a1 l3 false a2_0 a2_1 a2_2 a2_3 a2_4 0 0)) = some (r1,r2):=by rw [if_neg (show ¬ (false = true) by decide)] at H;exact H
   clear H
   have H:=H1
   clear H1
   have HC27:=z7.mk H
   clear H
   go_upto_region 6 with (fail)
   repeat (go_quiet (fail);go_upto_region 6 with (fail))
   go_cut [31] (fun v31 wc=>∃ (kq : Nat) (x31_26 : Bool),v31 = .bool x31_26 ∧ z7 (zC.j1 kq a1 l3 x31_26 a2_0 a2_1 a2_2 a2_3 a2_4 0 0 = some (r1,r2)) ∧ z7 (kq ≤ kj4) ∧ z7 (wc.heap[gb101]? = some (.cells #[.int .i64 a2_0,.int .i64 a2_1,.int .i64 a2_2,.int .u64 a2_3,.int .u64 a2_4] 87 (0,0))) ∧ z7 (wc.heap[gb102]? = some (.cells #[.int .u64 0,.int .u64 0] 51 (0,0))) ∧ z7 (Below w.heap.size w wc))
   case first =>
    have H:=HC27.out
    clear HC27
    by_cases c28 : a2_0 = 2
    rotate_left
    · rw [if_neg c28] at H
      have c28b0 : (a2_0 == 2) = false:=beq_eq_false_iff_ne.mpr c28
      have c28b1 : (a2_0 != 2) = true:=bne_iff_ne.mpr c28
      (first|rw [c28b0]|(simp only [zH,zL];rw [c28b0])|skip)
      have H':=z7.mk H
      clear H
      have hnb35:=NB101_102.out
      have hnc35:=NB102_101.out
      have hcz36_0 : wc.cell? ⟨gb101,0,none⟩ = some (.int .i64 a2_0):=(zb BK101.out 0).trans rfl
      have hcz36_1 : wc.cell? ⟨gb101,1,none⟩ = some (.int .i64 a2_1):=(zb BK101.out 1).trans rfl
      have hcz36_2 : wc.cell? ⟨gb101,2,none⟩ = some (.int .i64 a2_2):=(zb BK101.out 2).trans rfl
      have hcz36_3 : wc.cell? ⟨gb101,3,none⟩ = some (.int .u64 a2_3):=(zb BK101.out 3).trans rfl
      have hcz36_4 : wc.cell? ⟨gb101,4,none⟩ = some (.int .u64 a2_4):=(zb BK101.out 4).trans rfl
      have hfz36_0:=z8 BK101.out 0
      have hfz36_1:=z8 BK101.out 1
      have hfz36_2:=z8 BK101.out 2
      have hfz36_3:=z8 BK101.out 3
      have hfz36_4:=z8 BK101.out 4
      go_wp2
      repeat (go_quiet (fail);try go_wp2)
      go_meet
      case rel=>exact ⟨_,(false),(by first|rfl|(simp;done)|(simp [*];done)),H',⟨by have:=HJ4.out;first|omega|exact Nat.le_refl _⟩,⟨by (with_reducible repeat (first|refine z2 ?_ _|refine z5 ?_|refine z1 ?_ _));exact BK101.out⟩,⟨by (with_reducible repeat (first|refine z2 ?_ _|refine z5 ?_|refine z1 ?_ _));exact BK102.out⟩,⟨by repeat (first|(with_reducible first|exact HB.out|apply z4|apply z0|apply z3|refine z9 ?_ GE101.out|refine z9 ?_ GE102.out)|exact HB.out)⟩⟩
    rw [if_pos c28] at H
    have c28b0 : (a2_0 == 2) = true:=beq_iff_eq.mpr c28
    have c28b1 : (a2_0 != 2) = false:=bne_eq_false_iff_eq.mpr c28
    clear c28
    (first|rw [c28b0]|(simp only [zH,zL];rw [c28b0])|skip)
    by_cases c29 : a2_2 = 0
    rotate_left
    · rw [if_neg c29] at H
      have c29b0 : (a2_2 == 0) = false:=beq_eq_false_iff_ne.mpr c29
      have c29b1 : (a2_2 != 0) = true:=bne_iff_ne.mpr c29
      have H':=z7.mk H
      clear H
      have hnb33:=NB101_102.out
      have hnc33:=NB102_101.out
      have hcz34_0 : wc.cell? ⟨gb101,0,none⟩ = some (.int .i64 a2_0):=(zb BK101.out 0).trans rfl
      have hcz34_1 : wc.cell? ⟨gb101,1,none⟩ = some (.int .i64 a2_1):=(zb BK101.out 1).trans rfl
      have hcz34_2 : wc.cell? ⟨gb101,2,none⟩ = some (.int .i64 a2_2):=(zb BK101.out 2).trans rfl
      have hcz34_3 : wc.cell? ⟨gb101,3,none⟩ = some (.int .u64 a2_3):=(zb BK101.out 3).trans rfl
      have hcz34_4 : wc.cell? ⟨gb101,4,none⟩ = some (.int .u64 a2_4):=(zb BK101.out 4).trans rfl
      have hfz34_0:=z8 BK101.out 0
      have hfz34_1:=z8 BK101.out 1
      have hfz34_2:=z8 BK101.out 2
      have hfz34_3:=z8 BK101.out 3
      have hfz34_4:=z8 BK101.out 4
      go_wp2
      repeat (go_quiet (fail);try go_wp2)
      go_meet
      case rel=>exact ⟨_,(false),(by first|rfl|(simp;done)|(simp [*];done)),H',⟨by have:=HJ4.out;first|omega|exact Nat.le_refl _⟩,⟨by (with_reducible repeat (first|refine z2 ?_ _|refine z5 ?_|refine z1 ?_ _));exact BK101.out⟩,⟨by (with_reducible repeat (first|refine z2 ?_ _|refine z5 ?_|refine z1 ?_ _));exact BK102.out⟩,⟨by repeat (first|(with_reducible first|exact HB.out|apply z4|apply z0|apply z3|refine z9 ?_ GE101.out|refine z9 ?_ GE102.out)|exact HB.out)⟩⟩
    rw [if_pos c29] at H
    have c29b0 : (a2_2 == 0) = true:=beq_iff_eq.mpr c29
    have c29b1 : (a2_2 != 0) = false:=bne_eq_false_iff_eq.mpr c29
    clear c29
    have H':=z7.mk H
    clear H
    have hnb30:=NB101_102.out
    have hnc30:=NB102_101.out
    have hcz31_0 : wc.cell? ⟨gb101,0,none⟩ = some (.int .i64 a2_0):=(zb BK101.out 0).trans rfl
    have hcz31_1 : wc.cell? ⟨gb101,1,none⟩ = some (.int .i64 a2_1):=(zb BK101.out 1).trans rfl
    have hcz31_2 : wc.cell? ⟨gb101,2,none⟩ = some (.int .i64 a2_2):=(zb BK101.out 2).trans rfl
    have hcz31_3 : wc.cell? ⟨gb101,3,none⟩ = some (.int .u64 a2_3):=(zb BK101.out 3).trans rfl
    have hcz31_4 : wc.cell? ⟨gb101,4,none⟩ = some (.int .u64 a2_4):=(zb BK101.out 4).trans rfl
    have hfz31_0:=z8 BK101.out 0
    have hfz31_1:=z8 BK101.out 1
    have hfz31_2:=z8 BK101.out 2
    have hfz31_3:=z8 BK101.out 3
    have hfz31_4:=z8 BK101.out 4
    have hcz32_0 : wc.cell? ⟨gb102,0,none⟩ = some (.int .u64 0):=(zb BK102.out 0).trans rfl
    have hcz32_1 : wc.cell? ⟨gb102,1,none⟩ = some (.int .u64 0):=(zb BK102.out 1).trans rfl
    have hfz32_0:=z8 BK102.out 0
    have hfz32_1:=z8 BK102.out 1
    go_wp2
    repeat (go_quiet (fail);try go_wp2)
    go_meet
    case rel=>exact ⟨_,((a2_3 == 0 && (a2_4 == 0))),(by first|rfl|(simp;done)|(simp [*];done)),H',⟨by have:=HJ4.out;first|omega|exact Nat.le_refl _⟩,⟨by (with_reducible repeat (first|refine z2 ?_ _|refine z5 ?_|refine z1 ?_ _));exact BK101.out⟩,⟨by (with_reducible repeat (first|refine z2 ?_ _|refine z5 ?_|refine z1 ?_ _));exact BK102.out⟩,⟨by repeat (first|(with_reducible first|exact HB.out|apply z4|apply z0|apply z3|refine z9 ?_ GE101.out|refine z9 ?_ GE102.out)|exact HB.out)⟩⟩
   case rest =>
    clear HC27
    (try clear c1);(try clear c2);(try clear p2);(try clear c3);(try clear c8);(try clear c9);(try clear c10);(try clear c10b0);(try clear c10b1);(try clear c11);(try clear c11b0);(try clear c11b1);(try clear c12);(try clear c14);(try clear c16);(try clear c18);(try clear c20);(try clear c21);(try clear c24);(try clear c28);(try clear c28b0);(try clear c28b1);(try clear c29);(try clear c29b0);(try clear c29b1);(try clear c30);(try clear c33);(try clear c35);(try clear hcz13_0);(try clear hcz13_1);(try clear hcz13_2);(try clear hcz13_3);(try clear hcz13_4);(try clear hcz15_0);(try clear hcz15_1);(try clear hcz15_2);(try clear hcz15_3);(try clear hcz15_4);(try clear hcz17_0);(try clear hcz17_1);(try clear hcz17_2);(try clear hcz17_3);(try clear hcz17_4);(try clear hcz22_0);(try clear hcz22_1);(try clear hcz22_2);(try clear hcz22_3);(try clear hcz22_4);(try clear hcz25_0);(try clear hcz25_1);(try clear hcz25_2);(try clear hcz25_3);(try clear hcz25_4);(try clear hcz31_0);(try clear hcz31_1);(try clear hcz31_2);(try clear hcz31_3);(try clear hcz31_4);(try clear hcz32_0);(try clear hcz32_1);(try clear hcz34_0);(try clear hcz34_1);(try clear hcz34_2);(try clear hcz34_3);(try clear hcz34_4);(try clear hcz36_0);(try clear hcz36_1);(try clear hcz36_2);(try clear hcz36_3);(try clear hcz36_4);(try clear hcz9_0);(try clear hcz9_1);(try clear hfz13_0);(try clear hfz13_1);(try clear hfz13_2);(try clear hfz13_3);(try clear hfz13_4);(try clear hfz15_0);(try clear hfz15_1);(try clear hfz15_2);(try clear hfz15_3);(try clear hfz15_4);(try clear hfz17_0);(try clear hfz17_1);(try clear hfz17_2);(try clear hfz17_3);(try clear hfz17_4);(try clear hfz22_0);(try clear hfz22_1);(try clear hfz22_2);(try clear hfz22_3);(try clear hfz22_4);(try clear hfz25_0);(try clear hfz25_1);(try clear hfz25_2);(try clear hfz25_3);(try clear hfz25_4);(try clear hfz31_0);(try clear hfz31_1);(try clear hfz31_2);(try clear hfz31_3);(try clear hfz31_4);(try clear hfz32_0);(try clear hfz32_1);(try clear hfz34_0);(try clear hfz34_1);(try clear hfz34_2);(try clear hfz34_3);(try clear hfz34_4);(try clear hfz36_0);(try clear hfz36_1);(try clear hfz36_2);(try clear hfz36_3);(try clear hfz36_4);(try clear hfz9_0);(try clear hfz9_1);(try clear p2)
    obtain ⟨kq,x31_26,rfl,HA,HJ26,BK101,BK102,HB⟩:=hcut
    cases kq with
    | zero=>exact absurd HA.out (by simp [zC.j1])
    | succ kj26 =>
     have H:=HA.out
     clear HA
     simp only [zC.j1] at H
     by_cases c37 : x31_26 = true
     · subst c37
       have H1 : (if a2_1 < 0 then (some (0,4)) else (if a2_1 ≥ a1 then (some (0,4)) else (some (1,0)))) = some (r1,r2):=by rw [if_pos rfl] at H;exact H
       clear H
       have H:=H1
       clear H1
       by_cases c38 : a2_1 < 0
       · rw [if_pos c38] at H
         have c38b0 : decide (a2_1 < 0) = true:=decide_eq_true c38
         clear c38
         simp only [Option.some.injEq,Prod.mk.injEq] at H
         obtain ⟨rfl,rfl⟩:=H
         have hnb39:=NB101_102.out
         have hnc39:=NB102_101.out
         have hcz40_0 : wc.cell? ⟨gb101,0,none⟩ = some (.int .i64 a2_0):=(zb BK101.out 0).trans rfl
         have hcz40_1 : wc.cell? ⟨gb101,1,none⟩ = some (.int .i64 a2_1):=(zb BK101.out 1).trans rfl
         have hcz40_2 : wc.cell? ⟨gb101,2,none⟩ = some (.int .i64 a2_2):=(zb BK101.out 2).trans rfl
         have hcz40_3 : wc.cell? ⟨gb101,3,none⟩ = some (.int .u64 a2_3):=(zb BK101.out 3).trans rfl
         have hcz40_4 : wc.cell? ⟨gb101,4,none⟩ = some (.int .u64 a2_4):=(zb BK101.out 4).trans rfl
         have hfz40_0:=z8 BK101.out 0
         have hfz40_1:=z8 BK101.out 1
         have hfz40_2:=z8 BK101.out 2
         have hfz40_3:=z8 BK101.out 3
         have hfz40_4:=z8 BK101.out 4
         go_wp2
         repeat (go_quiet (fail);try go_wp2)
         go_ret2
         exact ⟨by first|rfl|(simp [zl,zm] <;> rfl)|(simp [*,zl,zm] <;> rfl),by repeat (first|(with_reducible first|exact HB.out|apply z4|apply z0|apply z3|refine z9 ?_ GE101.out|refine z9 ?_ GE102.out)|exact HB.out)⟩
       rw [if_neg c38] at H
       have c38b0 : decide (a2_1 < 0) = false:=decide_eq_false c38
       clear c38
       by_cases c41 : a2_1 ≥ a1
       rotate_left
       · rw [if_neg c41] at H
         have c41b0 : decide (a1 ≤ a2_1) = false:=decide_eq_false c41
         clear c41
         simp only [Option.some.injEq,Prod.mk.injEq] at H
         obtain ⟨rfl,rfl⟩:=H
         have hnb44:=NB101_102.out
         have hnc44:=NB102_101.out
         have hcz45_0 : wc.cell? ⟨gb101,0,none⟩ = some (.int .i64 a2_0):=(zb BK101.out 0).trans rfl
         have hcz45_1 : wc.cell? ⟨gb101,1,none⟩ = some (.int .i64 a2_1):=(zb BK101.out 1).trans rfl
         have hcz45_2 : wc.cell? ⟨gb101,2,none⟩ = some (.int .i64 a2_2):=(zb BK101.out 2).trans rfl
         have hcz45_3 : wc.cell? ⟨gb101,3,none⟩ = some (.int .u64 a2_3):=(zb BK101.out 3).trans rfl
         have hcz45_4 : wc.cell? ⟨gb101,4,none⟩ = some (.int .u64 a2_4):=(zb BK101.out 4).trans rfl
         have hfz45_0:=z8 BK101.out 0
         have hfz45_1:=z8 BK101.out 1
         have hfz45_2:=z8 BK101.out 2
         have hfz45_3:=z8 BK101.out 3
         have hfz45_4:=z8 BK101.out 4
         go_wp2
         repeat (go_quiet (fail);try go_wp2)
         go_ret2
         exact ⟨by first|rfl|(simp [zl,zm] <;> rfl)|(simp [*,zl,zm] <;> rfl),by repeat (first|(with_reducible first|exact HB.out|apply z4|apply z0|apply z3|refine z9 ?_ GE101.out|refine z9 ?_ GE102.out)|exact HB.out)⟩
       rw [if_pos c41] at H
       have c41b0 : decide (a1 ≤ a2_1) = true:=decide_eq_true c41
       clear c41
       simp only [Option.some.injEq,Prod.mk.injEq] at H
       obtain ⟨rfl,rfl⟩:=H
       have hnb42:=NB101_102.out
       have hnc42:=NB102_101.out
       have hcz43_0 : wc.cell? ⟨gb101,0,none⟩ = some (.int .i64 a2_0):=(zb BK101.out 0).trans rfl
       have hcz43_1 : wc.cell? ⟨gb101,1,none⟩ = some (.int .i64 a2_1):=(zb BK101.out 1).trans rfl
       have hcz43_2 : wc.cell? ⟨gb101,2,none⟩ = some (.int .i64 a2_2):=(zb BK101.out 2).trans rfl
       have hcz43_3 : wc.cell? ⟨gb101,3,none⟩ = some (.int .u64 a2_3):=(zb BK101.out 3).trans rfl
       have hcz43_4 : wc.cell? ⟨gb101,4,none⟩ = some (.int .u64 a2_4):=(zb BK101.out 4).trans rfl
       have hfz43_0:=z8 BK101.out 0
       have hfz43_1:=z8 BK101.out 1
       have hfz43_2:=z8 BK101.out 2
       have hfz43_3:=z8 BK101.out 3
       have hfz43_4:=z8 BK101.out 4
       go_wp2
       repeat (go_quiet (fail);try go_wp2)
       go_ret2
       exact ⟨by first|rfl|(simp [zl,zm] <;> rfl)|(simp [*,zl,zm] <;> rfl),by repeat (first|(with_reducible first|exact HB.out|apply z4|apply z0|apply z3|refine z9 ?_ GE101.out|refine z9 ?_ GE102.out)|exact HB.out)⟩
     replace c37:=Bool.eq_false_iff.mpr c37
     subst c37
     have H1 : (if a2_0 = 3 then (if (a2_3 == 0 && (a2_4 == 0)) = true then ((z1n.f a2_0 a2_1 a2_2 a2_3 a2_4 (l3.length : Int)).bind fun t104=>(zC.j2 kj26 l3 t104 a2_0 a2_1 a2_2 a2_3 a2_4 0 0)) else (zC.j2 kj26 l3 false a2_0 a2_1 a2_2 a2_3 a2_4 0 0)) else (zC.j2 kj26 l3 false a2_0 a2_1 a2_2 a2_3 a2_4 0 0)) = some (r1,r2):=by rw [if_neg (show ¬ (false = true) by decide)] at H;exact H
     clear H
     have H:=H1
     clear H1
     have HC46:=z7.mk H
     clear H
     go_upto_region 10 with (fail)
     repeat (go_quiet (fail);go_upto_region 10 with (fail))
     go_cut [55] (fun v55 wc=>∃ (kq : Nat) (x55_45 : Bool),v55 = .bool x55_45 ∧ z7 (zC.j2 kq l3 x55_45 a2_0 a2_1 a2_2 a2_3 a2_4 0 0 = some (r1,r2)) ∧ z7 (kq ≤ kj26) ∧ z7 (wc.heap[gb101]? = some (.cells #[.int .i64 a2_0,.int .i64 a2_1,.int .i64 a2_2,.int .u64 a2_3,.int .u64 a2_4] 87 (0,0))) ∧ z7 (wc.heap[gb102]? = some (.cells #[.int .u64 0,.int .u64 0] 51 (0,0))) ∧ z7 (Below w.heap.size w wc))
     case first =>
      have H:=HC46.out
      clear HC46
      by_cases c47 : a2_0 = 3
      rotate_left
      · rw [if_neg c47] at H
        have c47b0 : (a2_0 == 3) = false:=beq_eq_false_iff_ne.mpr c47
        have c47b1 : (a2_0 != 3) = true:=bne_iff_ne.mpr c47
        (first|rw [c47b0]|(simp only [zH,zL];rw [c47b0])|skip)
        have H':=z7.mk H
        clear H
        have hnb57:=NB101_102.out
        have hnc57:=NB102_101.out
        have hcz58_0 : wc.cell? ⟨gb101,0,none⟩ = some (.int .i64 a2_0):=(zb BK101.out 0).trans rfl
        have hcz58_1 : wc.cell? ⟨gb101,1,none⟩ = some (.int .i64 a2_1):=(zb BK101.out 1).trans rfl
        have hcz58_2 : wc.cell? ⟨gb101,2,none⟩ = some (.int .i64 a2_2):=(zb BK101.out 2).trans rfl
        have hcz58_3 : wc.cell? ⟨gb101,3,none⟩ = some (.int .u64 a2_3):=(zb BK101.out 3).trans rfl
        have hcz58_4 : wc.cell? ⟨gb101,4,none⟩ = some (.int .u64 a2_4):=(zb BK101.out 4).trans rfl
        have hfz58_0:=z8 BK101.out 0
        have hfz58_1:=z8 BK101.out 1
        have hfz58_2:=z8 BK101.out 2
        have hfz58_3:=z8 BK101.out 3
        have hfz58_4:=z8 BK101.out 4
        go_wp2
        repeat (go_quiet (fail);try go_wp2)
        go_meet
        case rel=>exact ⟨_,(false),(by first|rfl|(simp;done)|(simp [*];done)),H',⟨by have:=HJ4.out;have:=HJ26.out;first|omega|exact Nat.le_refl _⟩,⟨by (with_reducible repeat (first|refine z2 ?_ _|refine z5 ?_|refine z1 ?_ _));exact BK101.out⟩,⟨by (with_reducible repeat (first|refine z2 ?_ _|refine z5 ?_|refine z1 ?_ _));exact BK102.out⟩,⟨by repeat (first|(with_reducible first|exact HB.out|apply z4|apply z0|apply z3|refine z9 ?_ GE101.out|refine z9 ?_ GE102.out)|exact HB.out)⟩⟩
      rw [if_pos c47] at H
      have c47b0 : (a2_0 == 3) = true:=beq_iff_eq.mpr c47
      have c47b1 : (a2_0 != 3) = false:=bne_eq_false_iff_eq.mpr c47
      clear c47
      (first|rw [c47b0]|(simp only [zH,zL];rw [c47b0])|skip)
      by_cases c48 : (a2_3 == 0 && (a2_4 == 0)) = true
      rotate_left
      · rw [if_neg c48] at H
        have c48b0 : (a2_3 == 0 && (a2_4 == 0)) = false:=by simpa using c48
        (try (have c48b1 : decide (a2_3 = 0 && (a2_4 == 0)) = false:=by simpa using c48))
        (try (have c48b2 : (a2_3 == 0 && (a2_4 == 0)) = false:=by simpa using c48))
        (try (have c48b3 : ¬ (a2_3 = 0 && (a2_4 == 0)):=by simpa using c48))
        clear c48
        have H':=z7.mk H
        clear H
        have hnb54:=NB101_102.out
        have hnc54:=NB102_101.out
        have hcz55_0 : wc.cell? ⟨gb101,0,none⟩ = some (.int .i64 a2_0):=(zb BK101.out 0).trans rfl
        have hcz55_1 : wc.cell? ⟨gb101,1,none⟩ = some (.int .i64 a2_1):=(zb BK101.out 1).trans rfl
        have hcz55_2 : wc.cell? ⟨gb101,2,none⟩ = some (.int .i64 a2_2):=(zb BK101.out 2).trans rfl
        have hcz55_3 : wc.cell? ⟨gb101,3,none⟩ = some (.int .u64 a2_3):=(zb BK101.out 3).trans rfl
        have hcz55_4 : wc.cell? ⟨gb101,4,none⟩ = some (.int .u64 a2_4):=(zb BK101.out 4).trans rfl
        have hfz55_0:=z8 BK101.out 0
        have hfz55_1:=z8 BK101.out 1
        have hfz55_2:=z8 BK101.out 2
        have hfz55_3:=z8 BK101.out 3
        have hfz55_4:=z8 BK101.out 4
        have hcz56_0 : wc.cell? ⟨gb102,0,none⟩ = some (.int .u64 0):=(zb BK102.out 0).trans rfl
        have hcz56_1 : wc.cell? ⟨gb102,1,none⟩ = some (.int .u64 0):=(zb BK102.out 1).trans rfl
        have hfz56_0:=z8 BK102.out 0
        have hfz56_1:=z8 BK102.out 1
        go_wp2
        repeat (go_quiet (fail);try go_wp2)
        go_meet
        case rel=>exact ⟨_,(false),(by first|rfl|(simp;done)|(simp [*];done)),H',⟨by have:=HJ4.out;have:=HJ26.out;first|omega|exact Nat.le_refl _⟩,⟨by (with_reducible repeat (first|refine z2 ?_ _|refine z5 ?_|refine z1 ?_ _));exact BK101.out⟩,⟨by (with_reducible repeat (first|refine z2 ?_ _|refine z5 ?_|refine z1 ?_ _));exact BK102.out⟩,⟨by repeat (first|(with_reducible first|exact HB.out|apply z4|apply z0|apply z3|refine z9 ?_ GE101.out|refine z9 ?_ GE102.out)|exact HB.out)⟩⟩
      rw [if_pos c48] at H
      have c48b0 : (a2_3 == 0 && (a2_4 == 0)) = true:=c48
      (try (have c48b1 : decide (a2_3 = 0 && (a2_4 == 0)) = true:=by simpa using c48))
      (try (have c48b2 : (a2_3 == 0 && (a2_4 == 0)) = true:=by simpa using c48))
      clear c48
      replace H:=Option.bind_eq_some_iff.mp H
      obtain ⟨t104,A490,H⟩:=H
      replace H : (zC.j2 kj26 l3 t104 a2_0 a2_1 a2_2 a2_3 a2_4 0 0) = some (r1,r2):=H
      have A49:=z7.mk A490
      clear A490
      have H':=z7.mk H
      clear H
      have hnb50:=NB101_102.out
      have hnc50:=NB102_101.out
      have hcz51_0 : wc.cell? ⟨gb101,0,none⟩ = some (.int .i64 a2_0):=(zb BK101.out 0).trans rfl
      have hcz51_1 : wc.cell? ⟨gb101,1,none⟩ = some (.int .i64 a2_1):=(zb BK101.out 1).trans rfl
      have hcz51_2 : wc.cell? ⟨gb101,2,none⟩ = some (.int .i64 a2_2):=(zb BK101.out 2).trans rfl
      have hcz51_3 : wc.cell? ⟨gb101,3,none⟩ = some (.int .u64 a2_3):=(zb BK101.out 3).trans rfl
      have hcz51_4 : wc.cell? ⟨gb101,4,none⟩ = some (.int .u64 a2_4):=(zb BK101.out 4).trans rfl
      have hfz51_0:=z8 BK101.out 0
      have hfz51_1:=z8 BK101.out 1
      have hfz51_2:=z8 BK101.out 2
      have hfz51_3:=z8 BK101.out 3
      have hfz51_4:=z8 BK101.out 4
      have hcz52_0 : wc.cell? ⟨gb102,0,none⟩ = some (.int .u64 0):=(zb BK102.out 0).trans rfl
      have hcz52_1 : wc.cell? ⟨gb102,1,none⟩ = some (.int .u64 0):=(zb BK102.out 1).trans rfl
      have hfz52_0:=z8 BK102.out 0
      have hfz52_1:=z8 BK102.out 1
      go_wp2_with (first|(go_at_call 105;(with_reducible refine (z1n.calls a2_0 a2_1 a2_2 a2_3 a2_4 (l3.length : Int) t104 _ A49.out).mono ?_);rintro e w53 ⟨rfl,hb⟩;have n0_:=z7.mk (zk (g:=gb101) (o:=.cells #[.int .i64 a2_0,.int .i64 a2_1,.int .i64 a2_2,.int .u64 a2_3,.int .u64 a2_4] 87 (0,0)) (by (with_reducible repeat (first|refine z2 ?_ _|refine z5 ?_|refine z1 ?_ _));exact BK101.out) hb);have n1_:=z7.mk (zk (g:=gb102) (o:=.cells #[.int .u64 0,.int .u64 0] 51 (0,0)) (by (with_reducible repeat (first|refine z2 ?_ _|refine z5 ?_|refine z1 ?_ _));exact BK102.out) hb);have n2_:=z7.mk (zg (by repeat (first|(with_reducible first|exact HB.out|apply z4|apply z0|apply z3|refine z9 ?_ GE101.out|refine z9 ?_ GE102.out)|exact HB.out)) hb);clear BK101;clear BK102;clear HB;have BK101:=n0_;have BK102:=n1_;have HB:=n2_;clear n0_ n1_ n2_;(try clear hb);(try clear hb2);(try clear hk);(try clear hi)))
      repeat (go_quiet (first|(go_at_call 105;(with_reducible refine (z1n.calls a2_0 a2_1 a2_2 a2_3 a2_4 (l3.length : Int) t104 _ A49.out).mono ?_);rintro e w53 ⟨rfl,hb⟩;have n0_:=z7.mk (zk (g:=gb101) (o:=.cells #[.int .i64 a2_0,.int .i64 a2_1,.int .i64 a2_2,.int .u64 a2_3,.int .u64 a2_4] 87 (0,0)) (by (with_reducible repeat (first|refine z2 ?_ _|refine z5 ?_|refine z1 ?_ _));exact BK101.out) hb);have n1_:=z7.mk (zk (g:=gb102) (o:=.cells #[.int .u64 0,.int .u64 0] 51 (0,0)) (by (with_reducible repeat (first|refine z2 ?_ _|refine z5 ?_|refine z1 ?_ _));exact BK102.out) hb);have n2_:=z7.mk (zg (by repeat (first|(with_reducible first|exact HB.out|apply z4|apply z0|apply z3|refine z9 ?_ GE101.out|refine z9 ?_ GE102.out)|exact HB.out)) hb);clear BK101;clear BK102;clear HB;have BK101:=n0_;have BK102:=n1_;have HB:=n2_;clear n0_ n1_ n2_;(try clear hb);(try clear hb2);(try clear hk);(try clear hi)));try go_wp2_with (first|(go_at_call 105;(with_reducible refine (z1n.calls a2_0 a2_1 a2_2 a2_3 a2_4 (l3.length : Int) t104 _ A49.out).mono ?_);rintro e w53 ⟨rfl,hb⟩;have n0_:=z7.mk (zk (g:=gb101) (o:=.cells #[.int .i64 a2_0,.int .i64 a2_1,.int .i64 a2_2,.int .u64 a2_3,.int .u64 a2_4] 87 (0,0)) (by (with_reducible repeat (first|refine z2 ?_ _|refine z5 ?_|refine z1 ?_ _));exact BK101.out) hb);have n1_:=z7.mk (zk (g:=gb102) (o:=.cells #[.int .u64 0,.int .u64 0] 51 (0,0)) (by (with_reducible repeat (first|refine z2 ?_ _|refine z5 ?_|refine z1 ?_ _));exact BK102.out) hb);have n2_:=z7.mk (zg (by repeat (first|(with_reducible first|exact HB.out|apply z4|apply z0|apply z3|refine z9 ?_ GE101.out|refine z9 ?_ GE102.out)|exact HB.out)) hb);clear BK101;clear BK102;clear HB;have BK101:=n0_;have BK102:=n1_;have HB:=n2_;clear n0_ n1_ n2_;(try clear hb);(try clear hb2);(try clear hk);(try clear hi))))
      go_meet
      case rel=>exact ⟨_,(t104),(by first|rfl|(simp;done)|(simp [*];done)),H',⟨by have:=HJ4.out;have:=HJ26.out;first|omega|exact Nat.le_refl _⟩,⟨by (with_reducible repeat (first|refine z2 ?_ _|refine z5 ?_|refine z1 ?_ _));exact BK101.out⟩,⟨by (with_reducible repeat (first|refine z2 ?_ _|refine z5 ?_|refine z1 ?_ _));exact BK102.out⟩,⟨by repeat (first|(with_reducible first|exact HB.out|apply z4|apply z0|apply z3|refine z9 ?_ GE101.out|refine z9 ?_ GE102.out)|exact HB.out)⟩⟩
     case rest =>
      clear HC46
      (try clear c1);(try clear c2);(try clear p2);(try clear c3);(try clear c4);(try clear c5);(try clear c8);(try clear c9);(try clear c10);(try clear c10b0);(try clear c10b1);(try clear c11);(try clear c11b0);(try clear c11b1);(try clear c12);(try clear c14);(try clear c16);(try clear c18);(try clear c20);(try clear c21);(try clear c24);(try clear c28);(try clear c28b0);(try clear c28b1);(try clear c29);(try clear c29b0);(try clear c29b1);(try clear c30);(try clear c33);(try clear c35);(try clear c37);(try clear c38);(try clear c38b0);(try clear c39);(try clear c41);(try clear c41b0);(try clear c42);(try clear c44);(try clear c47);(try clear c47b0);(try clear c47b1);(try clear c48);(try clear c48b0);(try clear c48b1);(try clear c48b2);(try clear c50);(try clear c54);(try clear c57);(try clear hcz13_0);(try clear hcz13_1);(try clear hcz13_2);(try clear hcz13_3);(try clear hcz13_4);(try clear hcz15_0);(try clear hcz15_1);(try clear hcz15_2);(try clear hcz15_3);(try clear hcz15_4);(try clear hcz17_0);(try clear hcz17_1);(try clear hcz17_2);(try clear hcz17_3);(try clear hcz17_4);(try clear hcz22_0);(try clear hcz22_1);(try clear hcz22_2);(try clear hcz22_3);(try clear hcz22_4);(try clear hcz25_0);(try clear hcz25_1);(try clear hcz25_2);(try clear hcz25_3);(try clear hcz25_4);(try clear hcz31_0);(try clear hcz31_1);(try clear hcz31_2);(try clear hcz31_3);(try clear hcz31_4);(try clear hcz32_0);(try clear hcz32_1);(try clear hcz34_0);(try clear hcz34_1);(try clear hcz34_2);(try clear hcz34_3);(try clear hcz34_4);(try clear hcz36_0);(try clear hcz36_1);(try clear hcz36_2);(try clear hcz36_3);(try clear hcz36_4);(try clear hcz40_0);(try clear hcz40_1);(try clear hcz40_2);(try clear hcz40_3);(try clear hcz40_4);(try clear hcz43_0);(try clear hcz43_1);(try clear hcz43_2);(try clear hcz43_3);(try clear hcz43_4);(try clear hcz45_0);(try clear hcz45_1);(try clear hcz45_2);(try clear hcz45_3);(try clear hcz45_4);(try clear hcz51_0);(try clear hcz51_1);(try clear hcz51_2);(try clear hcz51_3);(try clear hcz51_4);(try clear hcz52_0);(try clear hcz52_1);(try clear hcz55_0);(try clear hcz55_1);(try clear hcz55_2);(try clear hcz55_3);(try clear hcz55_4);(try clear hcz56_0);(try clear hcz56_1);(try clear hcz58_0);(try clear hcz58_1);(try clear hcz58_2);(try clear hcz58_3);(try clear hcz58_4);(try clear hcz9_0);(try clear hcz9_1);(try clear hfz13_0);(try clear hfz13_1);(try clear hfz13_2);(try clear hfz13_3);(try clear hfz13_4);(try clear hfz15_0);(try clear hfz15_1);(try clear hfz15_2);(try clear hfz15_3);(try clear hfz15_4);(try clear hfz17_0);(try clear hfz17_1);(try clear hfz17_2);(try clear hfz17_3);(try clear hfz17_4);(try clear hfz22_0);(try clear hfz22_1);(try clear hfz22_2);(try clear hfz22_3);(try clear hfz22_4);(try clear hfz25_0);(try clear hfz25_1);(try clear hfz25_2);(try clear hfz25_3);(try clear hfz25_4);(try clear hfz31_0);(try clear hfz31_1);(try clear hfz31_2);(try clear hfz31_3);(try clear hfz31_4);(try clear hfz32_0);(try clear hfz32_1);(try clear hfz34_0);(try clear hfz34_1);(try clear hfz34_2);(try clear hfz34_3);(try clear hfz34_4);(try clear hfz36_0);(try clear hfz36_1);(try clear hfz36_2);(try clear hfz36_3);(try clear hfz36_4);(try clear hfz40_0);(try clear hfz40_1);(try clear hfz40_2);(try clear hfz40_3);(try clear hfz40_4);(try clear hfz43_0);(try clear hfz43_1);(try clear hfz43_2);(try clear hfz43_3);(try clear hfz43_4);(try clear hfz45_0);(try clear hfz45_1);(try clear hfz45_2);(try clear hfz45_3);(try clear hfz45_4);(try clear hfz51_0);(try clear hfz51_1);(try clear hfz51_2);(try clear hfz51_3);(try clear hfz51_4);(try clear hfz52_0);(try clear hfz52_1);(try clear hfz55_0);(try clear hfz55_1);(try clear hfz55_2);(try clear hfz55_3);(try clear hfz55_4);(try clear hfz56_0);(try clear hfz56_1);(try clear hfz58_0);(try clear hfz58_1);(try clear hfz58_2);(try clear hfz58_3);(try clear hfz58_4);(try clear hfz9_0);(try clear hfz9_1);(try clear p2)
      obtain ⟨kq,x55_45,rfl,HA,HJ45,BK101,BK102,HB⟩:=hcut
      cases kq with
      | zero=>exact absurd HA.out (by simp [zC.j2])
      | succ kj45 =>
       have H:=HA.out
       clear HA
       simp only [zC.j2] at H
       by_cases c59 : x55_45 = true
       · subst c59
         have H1 : (if 0 ≤ a2_1 then (if a2_1 < (l3.length : Int) then (if 0 ≤ a2_2 then (if a2_2 < (l3.length : Int) then (some (mx (rd l3 a2_1) (rd l3 a2_2),0)) else (none)) else (none)) else (none)) else (none)) = some (r1,r2):=by rw [if_pos rfl] at H;exact H
         clear H
         have H:=H1
         clear H1
         by_cases c60 : 0 ≤ a2_1
         rotate_left
         · rw [if_neg c60] at H
           exact absurd H (by simp)
         rw [if_pos c60] at H
         have c60b0 : decide (0 ≤ a2_1) = true:=decide_eq_true c60
         clear c60
         by_cases c61 : a2_1 < (l3.length : Int)
         rotate_left
         · rw [if_neg c61] at H
           exact absurd H (by simp)
         rw [if_pos c61] at H
         have c61b0 : decide (a2_1 < (l3.length : Int)) = true:=decide_eq_true c61
         clear c61
         by_cases c62 : 0 ≤ a2_2
         rotate_left
         · rw [if_neg c62] at H
           exact absurd H (by simp)
         rw [if_pos c62] at H
         have c62b0 : decide (0 ≤ a2_2) = true:=decide_eq_true c62
         clear c62
         by_cases c63 : a2_2 < (l3.length : Int)
         rotate_left
         · rw [if_neg c63] at H
           exact absurd H (by simp)
         rw [if_pos c63] at H
         have c63b0 : decide (a2_2 < (l3.length : Int)) = true:=decide_eq_true c63
         clear c63
         obtain ⟨ji64,hji64⟩ : ∃ j_ : Int,(mx (rd l3 a2_1) (rd l3 a2_2)) = j_:=⟨_,rfl⟩
         replace H : (some (ji64,0)) = some (r1,r2):=by first|(rw [hji64] at H;exact H)|(simp only [hji64] at H ⊢;exact H)
         have hji64_ : (if (rd l3 a2_1) < (rd l3 a2_2) then (rd l3 a2_2) else (rd l3 a2_1)) = ji64:=hji64
         simp only [Option.some.injEq,Prod.mk.injEq] at H
         obtain ⟨rfl,rfl⟩:=H
         have hnb65:=NB101_102.out
         have hnc65:=NB102_101.out
         have hcz66_0 : wc.cell? ⟨gb101,0,none⟩ = some (.int .i64 a2_0):=(zb BK101.out 0).trans rfl
         have hcz66_1 : wc.cell? ⟨gb101,1,none⟩ = some (.int .i64 a2_1):=(zb BK101.out 1).trans rfl
         have hcz66_2 : wc.cell? ⟨gb101,2,none⟩ = some (.int .i64 a2_2):=(zb BK101.out 2).trans rfl
         have hcz66_3 : wc.cell? ⟨gb101,3,none⟩ = some (.int .u64 a2_3):=(zb BK101.out 3).trans rfl
         have hcz66_4 : wc.cell? ⟨gb101,4,none⟩ = some (.int .u64 a2_4):=(zb BK101.out 4).trans rfl
         have hfz66_0:=z8 BK101.out 0
         have hfz66_1:=z8 BK101.out 1
         have hfz66_2:=z8 BK101.out 2
         have hfz66_3:=z8 BK101.out 3
         have hfz66_4:=z8 BK101.out 4
         have p105 : 0 ≤ (a2_1 : Int):=of_decide_eq_true (by first|(with_reducible assumption)|assumption)
         have q105 : a2_1 < (l3.length : Int):=of_decide_eq_true (by first|(with_reducible assumption)|assumption)
         obtain ⟨ad105,e105,hx105_0⟩:=Kd.z1x HR3.out a2_1 p105 q105
         cases e105
         replace hx105_0:=(HB.out.cell (World.block_lt_of_cell? w _ hx105_0)).trans hx105_0
         replace p105:=eq_true p105
         replace q105:=eq_true q105
         have p106 : 0 ≤ (a2_2 : Int):=of_decide_eq_true (by first|(with_reducible assumption)|assumption)
         have q106 : a2_2 < (l3.length : Int):=of_decide_eq_true (by first|(with_reducible assumption)|assumption)
         obtain ⟨ad106,e106,hx106_0⟩:=Kd.z1x HR3.out a2_2 p106 q106
         obtain rfl : ad105 = ad106:=(by injection e106)
         replace hx106_0:=(HB.out.cell (World.block_lt_of_cell? w _ hx106_0)).trans hx106_0
         replace p106:=eq_true p106
         replace q106:=eq_true q106
         go_wp2
         repeat (go_quiet (fail);try go_wp2)
         go_ret2
         exact ⟨by first|rfl|(simp [zl,zm] <;> rfl)|(simp only [← hji64];first|rfl|(simp [zl,zm] <;> rfl))|(simp [*,zl,zm] <;> rfl),by repeat (first|(with_reducible first|exact HB.out|apply z4|apply z0|apply z3|refine z9 ?_ GE101.out|refine z9 ?_ GE102.out)|exact HB.out)⟩
       replace c59:=Bool.eq_false_iff.mpr c59
       subst c59
       have H1 : (if a2_0 = 4 then (if (a2_3 == 0 && (a2_4 == 0)) = true then ((z1n.f a2_0 a2_1 a2_2 a2_3 a2_4 (l3.length : Int)).bind fun t107=>(if t107 = true then (if 0 ≤ a2_1 then (if a2_1 < (l3.length : Int) then (if 0 ≤ a2_2 then (if a2_2 < (l3.length : Int) then (some (wrap64 ((rd l3 a2_1) + (rd l3 a2_2)),0)) else (none)) else (none)) else (none)) else (none)) else (some (0,3)))) else (some (0,3))) else (some (0,3))) = some (r1,r2):=by rw [if_neg (show ¬ (false = true) by decide)] at H;exact H
       clear H
       have H:=H1
       clear H1
       by_cases c67 : a2_0 = 4
       rotate_left
       · rw [if_neg c67] at H
         have c67b0 : (a2_0 == 4) = false:=beq_eq_false_iff_ne.mpr c67
         have c67b1 : (a2_0 != 4) = true:=bne_iff_ne.mpr c67
         simp only [Option.some.injEq,Prod.mk.injEq] at H
         obtain ⟨rfl,rfl⟩:=H
         have hnb87:=NB101_102.out
         have hnc87:=NB102_101.out
         have hcz88_0 : wc.cell? ⟨gb101,0,none⟩ = some (.int .i64 a2_0):=(zb BK101.out 0).trans rfl
         have hcz88_1 : wc.cell? ⟨gb101,1,none⟩ = some (.int .i64 a2_1):=(zb BK101.out 1).trans rfl
         have hcz88_2 : wc.cell? ⟨gb101,2,none⟩ = some (.int .i64 a2_2):=(zb BK101.out 2).trans rfl
         have hcz88_3 : wc.cell? ⟨gb101,3,none⟩ = some (.int .u64 a2_3):=(zb BK101.out 3).trans rfl
         have hcz88_4 : wc.cell? ⟨gb101,4,none⟩ = some (.int .u64 a2_4):=(zb BK101.out 4).trans rfl
         have hfz88_0:=z8 BK101.out 0
         have hfz88_1:=z8 BK101.out 1
         have hfz88_2:=z8 BK101.out 2
         have hfz88_3:=z8 BK101.out 3
         have hfz88_4:=z8 BK101.out 4
         go_wp2
         repeat (go_quiet (fail);try go_wp2)
         go_ret2
         exact ⟨by first|rfl|(simp [zl,zm] <;> rfl)|(simp [*,zl,zm] <;> rfl),by repeat (first|(with_reducible first|exact HB.out|apply z4|apply z0|apply z3|refine z9 ?_ GE101.out|refine z9 ?_ GE102.out)|exact HB.out)⟩
       rw [if_pos c67] at H
       have c67b0 : (a2_0 == 4) = true:=beq_iff_eq.mpr c67
       have c67b1 : (a2_0 != 4) = false:=bne_eq_false_iff_eq.mpr c67
       clear c67
       by_cases c68 : (a2_3 == 0 && (a2_4 == 0)) = true
       rotate_left
       · rw [if_neg c68] at H
         have c68b0 : (a2_3 == 0 && (a2_4 == 0)) = false:=by simpa using c68
         (try (have c68b1 : decide (a2_3 = 0 && (a2_4 == 0)) = false:=by simpa using c68))
         (try (have c68b2 : (a2_3 == 0 && (a2_4 == 0)) = false:=by simpa using c68))
         (try (have c68b3 : ¬ (a2_3 = 0 && (a2_4 == 0)):=by simpa using c68))
         clear c68
         simp only [Option.some.injEq,Prod.mk.injEq] at H
         obtain ⟨rfl,rfl⟩:=H
         have hnb84:=NB101_102.out
         have hnc84:=NB102_101.out
         have hcz85_0 : wc.cell? ⟨gb101,0,none⟩ = some (.int .i64 a2_0):=(zb BK101.out 0).trans rfl
         have hcz85_1 : wc.cell? ⟨gb101,1,none⟩ = some (.int .i64 a2_1):=(zb BK101.out 1).trans rfl
         have hcz85_2 : wc.cell? ⟨gb101,2,none⟩ = some (.int .i64 a2_2):=(zb BK101.out 2).trans rfl
         have hcz85_3 : wc.cell? ⟨gb101,3,none⟩ = some (.int .u64 a2_3):=(zb BK101.out 3).trans rfl
         have hcz85_4 : wc.cell? ⟨gb101,4,none⟩ = some (.int .u64 a2_4):=(zb BK101.out 4).trans rfl
         have hfz85_0:=z8 BK101.out 0
         have hfz85_1:=z8 BK101.out 1
         have hfz85_2:=z8 BK101.out 2
         have hfz85_3:=z8 BK101.out 3
         have hfz85_4:=z8 BK101.out 4
         have hcz86_0 : wc.cell? ⟨gb102,0,none⟩ = some (.int .u64 0):=(zb BK102.out 0).trans rfl
         have hcz86_1 : wc.cell? ⟨gb102,1,none⟩ = some (.int .u64 0):=(zb BK102.out 1).trans rfl
         have hfz86_0:=z8 BK102.out 0
         have hfz86_1:=z8 BK102.out 1
         go_wp2
         repeat (go_quiet (fail);try go_wp2)
         go_ret2
         exact ⟨by first|rfl|(simp [zl,zm] <;> rfl)|(simp [*,zl,zm] <;> rfl),by repeat (first|(with_reducible first|exact HB.out|apply z4|apply z0|apply z3|refine z9 ?_ GE101.out|refine z9 ?_ GE102.out)|exact HB.out)⟩
       rw [if_pos c68] at H
       have c68b0 : (a2_3 == 0 && (a2_4 == 0)) = true:=c68
       (try (have c68b1 : decide (a2_3 = 0 && (a2_4 == 0)) = true:=by simpa using c68))
       (try (have c68b2 : (a2_3 == 0 && (a2_4 == 0)) = true:=by simpa using c68))
       clear c68
       replace H:=Option.bind_eq_some_iff.mp H
       obtain ⟨t107,A690,H⟩:=H
       replace H : (if t107 = true then (if 0 ≤ a2_1 then (if a2_1 < (l3.length : Int) then (if 0 ≤ a2_2 then (if a2_2 < (l3.length : Int) then (some (wrap64 ((rd l3 a2_1) + (rd l3 a2_2)),0)) else (none)) else (none)) else (none)) else (none)) else (some (0,3))) = some (r1,r2):=H
       have A69:=z7.mk A690
       clear A690
       by_cases c70 : t107 = true
       rotate_left
       · replace c70:=Bool.eq_false_iff.mpr c70
         subst c70
         have H1 : (some (0,3)) = some (r1,r2):=by rw [if_neg (show ¬ (false = true) by decide)] at H;exact H
         clear H
         have H:=H1
         clear H1
         simp only [Option.some.injEq,Prod.mk.injEq] at H
         obtain ⟨rfl,rfl⟩:=H
         have hnb80:=NB101_102.out
         have hnc80:=NB102_101.out
         have hcz81_0 : wc.cell? ⟨gb101,0,none⟩ = some (.int .i64 a2_0):=(zb BK101.out 0).trans rfl
         have hcz81_1 : wc.cell? ⟨gb101,1,none⟩ = some (.int .i64 a2_1):=(zb BK101.out 1).trans rfl
         have hcz81_2 : wc.cell? ⟨gb101,2,none⟩ = some (.int .i64 a2_2):=(zb BK101.out 2).trans rfl
         have hcz81_3 : wc.cell? ⟨gb101,3,none⟩ = some (.int .u64 a2_3):=(zb BK101.out 3).trans rfl
         have hcz81_4 : wc.cell? ⟨gb101,4,none⟩ = some (.int .u64 a2_4):=(zb BK101.out 4).trans rfl
         have hfz81_0:=z8 BK101.out 0
         have hfz81_1:=z8 BK101.out 1
         have hfz81_2:=z8 BK101.out 2
         have hfz81_3:=z8 BK101.out 3
         have hfz81_4:=z8 BK101.out 4
         have hcz82_0 : wc.cell? ⟨gb102,0,none⟩ = some (.int .u64 0):=(zb BK102.out 0).trans rfl
         have hcz82_1 : wc.cell? ⟨gb102,1,none⟩ = some (.int .u64 0):=(zb BK102.out 1).trans rfl
         have hfz82_0:=z8 BK102.out 0
         have hfz82_1:=z8 BK102.out 1
         go_wp2_with (first|(go_at_call 105;(with_reducible refine (z1n.calls a2_0 a2_1 a2_2 a2_3 a2_4 (l3.length : Int) false _ A69.out).mono ?_);rintro e w83 ⟨rfl,hb⟩;have n0_:=z7.mk (zk (g:=gb101) (o:=.cells #[.int .i64 a2_0,.int .i64 a2_1,.int .i64 a2_2,.int .u64 a2_3,.int .u64 a2_4] 87 (0,0)) (by (with_reducible repeat (first|refine z2 ?_ _|refine z5 ?_|refine z1 ?_ _));exact BK101.out) hb);have n1_:=z7.mk (zk (g:=gb102) (o:=.cells #[.int .u64 0,.int .u64 0] 51 (0,0)) (by (with_reducible repeat (first|refine z2 ?_ _|refine z5 ?_|refine z1 ?_ _));exact BK102.out) hb);have n2_:=z7.mk (zg (by repeat (first|(with_reducible first|exact HB.out|apply z4|apply z0|apply z3|refine z9 ?_ GE101.out|refine z9 ?_ GE102.out)|exact HB.out)) hb);clear BK101;clear BK102;clear HB;have BK101:=n0_;have BK102:=n1_;have HB:=n2_;clear n0_ n1_ n2_;(try clear hb);(try clear hb2);(try clear hk);(try clear hi)))
         repeat (go_quiet (first|(go_at_call 105;(with_reducible refine (z1n.calls a2_0 a2_1 a2_2 a2_3 a2_4 (l3.length : Int) false _ A69.out).mono ?_);rintro e w83 ⟨rfl,hb⟩;have n0_:=z7.mk (zk (g:=gb101) (o:=.cells #[.int .i64 a2_0,.int .i64 a2_1,.int .i64 a2_2,.int .u64 a2_3,.int .u64 a2_4] 87 (0,0)) (by (with_reducible repeat (first|refine z2 ?_ _|refine z5 ?_|refine z1 ?_ _));exact BK101.out) hb);have n1_:=z7.mk (zk (g:=gb102) (o:=.cells #[.int .u64 0,.int .u64 0] 51 (0,0)) (by (with_reducible repeat (first|refine z2 ?_ _|refine z5 ?_|refine z1 ?_ _));exact BK102.out) hb);have n2_:=z7.mk (zg (by repeat (first|(with_reducible first|exact HB.out|apply z4|apply z0|apply z3|refine z9 ?_ GE101.out|refine z9 ?_ GE102.out)|exact HB.out)) hb);clear BK101;clear BK102;clear HB;have BK101:=n0_;have BK102:=n1_;have HB:=n2_;clear n0_ n1_ n2_;(try clear hb);(try clear hb2);(try clear hk);(try clear hi)));try go_wp2_with (first|(go_at_call 105;(with_reducible refine (z1n.calls a2_0 a2_1 a2_2 a2_3 a2_4 (l3.length : Int) false _ A69.out).mono ?_);rintro e w83 ⟨rfl,hb⟩;have n0_:=z7.mk (zk (g:=gb101) (o:=.cells #[.int .i64 a2_0,.int .i64 a2_1,.int .i64 a2_2,.int .u64 a2_3,.int .u64 a2_4] 87 (0,0)) (by (with_reducible repeat (first|refine z2 ?_ _|refine z5 ?_|refine z1 ?_ _));exact BK101.out) hb);have n1_:=z7.mk (zk (g:=gb102) (o:=.cells #[.int .u64 0,.int .u64 0] 51 (0,0)) (by (with_reducible repeat (first|refine z2 ?_ _|refine z5 ?_|refine z1 ?_ _));exact BK102.out) hb);have n2_:=z7.mk (zg (by repeat (first|(with_reducible first|exact HB.out|apply z4|apply z0|apply z3|refine z9 ?_ GE101.out|refine z9 ?_ GE102.out)|exact HB.out)) hb);clear BK101;clear BK102;clear HB;have BK101:=n0_;have BK102:=n1_;have HB:=n2_;clear n0_ n1_ n2_;(try clear hb);(try clear hb2);(try clear hk);(try clear hi))))
         go_ret2
         exact ⟨by first|rfl|(simp [zl,zm] <;> rfl)|(simp [*,zl,zm] <;> rfl),by repeat (first|(with_reducible first|exact HB.out|apply z4|apply z0|apply z3|refine z9 ?_ GE101.out|refine z9 ?_ GE102.out)|exact HB.out)⟩
       subst c70
       have H1 : (if 0 ≤ a2_1 then (if a2_1 < (l3.length : Int) then (if 0 ≤ a2_2 then (if a2_2 < (l3.length : Int) then (some (wrap64 ((rd l3 a2_1) + (rd l3 a2_2)),0)) else (none)) else (none)) else (none)) else (none)) = some (r1,r2):=by rw [if_pos rfl] at H;exact H
       clear H
       have H:=H1
       clear H1
       by_cases c71 : 0 ≤ a2_1
       rotate_left
       · rw [if_neg c71] at H
         exact absurd H (by simp)
       rw [if_pos c71] at H
       have c71b0 : decide (0 ≤ a2_1) = true:=decide_eq_true c71
       clear c71
       by_cases c72 : a2_1 < (l3.length : Int)
       rotate_left
       · rw [if_neg c72] at H
         exact absurd H (by simp)
       rw [if_pos c72] at H
       have c72b0 : decide (a2_1 < (l3.length : Int)) = true:=decide_eq_true c72
       clear c72
       by_cases c73 : 0 ≤ a2_2
       rotate_left
       · rw [if_neg c73] at H
         exact absurd H (by simp)
       rw [if_pos c73] at H
       have c73b0 : decide (0 ≤ a2_2) = true:=decide_eq_true c73
       clear c73
       by_cases c74 : a2_2 < (l3.length : Int)
       rotate_left
       · rw [if_neg c74] at H
         exact absurd H (by simp)
       rw [if_pos c74] at H
       have c74b0 : decide (a2_2 < (l3.length : Int)) = true:=decide_eq_true c74
       clear c74
       simp only [Option.some.injEq,Prod.mk.injEq] at H
       obtain ⟨rfl,rfl⟩:=H
       have hnb75:=NB101_102.out
       have hnc75:=NB102_101.out
       have hcz76_0 : wc.cell? ⟨gb101,0,none⟩ = some (.int .i64 a2_0):=(zb BK101.out 0).trans rfl
       have hcz76_1 : wc.cell? ⟨gb101,1,none⟩ = some (.int .i64 a2_1):=(zb BK101.out 1).trans rfl
       have hcz76_2 : wc.cell? ⟨gb101,2,none⟩ = some (.int .i64 a2_2):=(zb BK101.out 2).trans rfl
       have hcz76_3 : wc.cell? ⟨gb101,3,none⟩ = some (.int .u64 a2_3):=(zb BK101.out 3).trans rfl
       have hcz76_4 : wc.cell? ⟨gb101,4,none⟩ = some (.int .u64 a2_4):=(zb BK101.out 4).trans rfl
       have hfz76_0:=z8 BK101.out 0
       have hfz76_1:=z8 BK101.out 1
       have hfz76_2:=z8 BK101.out 2
       have hfz76_3:=z8 BK101.out 3
       have hfz76_4:=z8 BK101.out 4
       have hcz77_0 : wc.cell? ⟨gb102,0,none⟩ = some (.int .u64 0):=(zb BK102.out 0).trans rfl
       have hcz77_1 : wc.cell? ⟨gb102,1,none⟩ = some (.int .u64 0):=(zb BK102.out 1).trans rfl
       have hfz77_0:=z8 BK102.out 0
       have hfz77_1:=z8 BK102.out 1
       go_wp2_with (first|(go_at_call 105;(with_reducible refine (z1n.calls a2_0 a2_1 a2_2 a2_3 a2_4 (l3.length : Int) true _ A69.out).mono ?_);rintro e w78 ⟨rfl,hb⟩;have n0_:=z7.mk (zk (g:=gb101) (o:=.cells #[.int .i64 a2_0,.int .i64 a2_1,.int .i64 a2_2,.int .u64 a2_3,.int .u64 a2_4] 87 (0,0)) (by (with_reducible repeat (first|refine z2 ?_ _|refine z5 ?_|refine z1 ?_ _));exact BK101.out) hb);have n1_:=z7.mk (zk (g:=gb102) (o:=.cells #[.int .u64 0,.int .u64 0] 51 (0,0)) (by (with_reducible repeat (first|refine z2 ?_ _|refine z5 ?_|refine z1 ?_ _));exact BK102.out) hb);have n2_:=z7.mk (zg (by repeat (first|(with_reducible first|exact HB.out|apply z4|apply z0|apply z3|refine z9 ?_ GE101.out|refine z9 ?_ GE102.out)|exact HB.out)) hb);clear BK101;clear BK102;clear HB;have BK101:=n0_;have BK102:=n1_;have HB:=n2_;clear n0_ n1_ n2_;(try clear hb);(try clear hb2);(try clear hk);(try clear hi);have hcz79_0 : w78.cell? ⟨gb101,0,none⟩ = some (.int .i64 a2_0):=(zb BK101.out 0).trans rfl;have hcz79_1 : w78.cell? ⟨gb101,1,none⟩ = some (.int .i64 a2_1):=(zb BK101.out 1).trans rfl;have hcz79_2 : w78.cell? ⟨gb101,2,none⟩ = some (.int .i64 a2_2):=(zb BK101.out 2).trans rfl;have hcz79_3 : w78.cell? ⟨gb101,3,none⟩ = some (.int .u64 a2_3):=(zb BK101.out 3).trans rfl;have hcz79_4 : w78.cell? ⟨gb101,4,none⟩ = some (.int .u64 a2_4):=(zb BK101.out 4).trans rfl;have hfz79_0:=z8 BK101.out 0;have hfz79_1:=z8 BK101.out 1;have hfz79_2:=z8 BK101.out 2;have hfz79_3:=z8 BK101.out 3;have hfz79_4:=z8 BK101.out 4;have p108 : 0 ≤ (a2_1 : Int):=of_decide_eq_true (by first|(with_reducible assumption)|assumption);have q108 : a2_1 < (l3.length : Int):=of_decide_eq_true (by first|(with_reducible assumption)|assumption);obtain ⟨ad108,e108,hx108_0⟩:=Kd.z1x HR3.out a2_1 p108 q108;cases e108;replace hx108_0:=(HB.out.cell (World.block_lt_of_cell? w _ hx108_0)).trans hx108_0;replace p108:=eq_true p108;replace q108:=eq_true q108;have p109 : 0 ≤ (a2_2 : Int):=of_decide_eq_true (by first|(with_reducible assumption)|assumption);have q109 : a2_2 < (l3.length : Int):=of_decide_eq_true (by first|(with_reducible assumption)|assumption);obtain ⟨ad109,e109,hx109_0⟩:=Kd.z1x HR3.out a2_2 p109 q109;obtain rfl : ad108 = ad109:=(by injection e109);replace hx109_0:=(HB.out.cell (World.block_lt_of_cell? w _ hx109_0)).trans hx109_0;replace p109:=eq_true p109;replace q109:=eq_true q109))
       repeat (go_quiet (first|(go_at_call 105;(with_reducible refine (z1n.calls a2_0 a2_1 a2_2 a2_3 a2_4 (l3.length : Int) true _ A69.out).mono ?_);rintro e w78 ⟨rfl,hb⟩;have n0_:=z7.mk (zk (g:=gb101) (o:=.cells #[.int .i64 a2_0,.int .i64 a2_1,.int .i64 a2_2,.int .u64 a2_3,.int .u64 a2_4] 87 (0,0)) (by (with_reducible repeat (first|refine z2 ?_ _|refine z5 ?_|refine z1 ?_ _));exact BK101.out) hb);have n1_:=z7.mk (zk (g:=gb102) (o:=.cells #[.int .u64 0,.int .u64 0] 51 (0,0)) (by (with_reducible repeat (first|refine z2 ?_ _|refine z5 ?_|refine z1 ?_ _));exact BK102.out) hb);have n2_:=z7.mk (zg (by repeat (first|(with_reducible first|exact HB.out|apply z4|apply z0|apply z3|refine z9 ?_ GE101.out|refine z9 ?_ GE102.out)|exact HB.out)) hb);clear BK101;clear BK102;clear HB;have BK101:=n0_;have BK102:=n1_;have HB:=n2_;clear n0_ n1_ n2_;(try clear hb);(try clear hb2);(try clear hk);(try clear hi);have hcz79_0 : w78.cell? ⟨gb101,0,none⟩ = some (.int .i64 a2_0):=(zb BK101.out 0).trans rfl;have hcz79_1 : w78.cell? ⟨gb101,1,none⟩ = some (.int .i64 a2_1):=(zb BK101.out 1).trans rfl;have hcz79_2 : w78.cell? ⟨gb101,2,none⟩ = some (.int .i64 a2_2):=(zb BK101.out 2).trans rfl;have hcz79_3 : w78.cell? ⟨gb101,3,none⟩ = some (.int .u64 a2_3):=(zb BK101.out 3).trans rfl;have hcz79_4 : w78.cell? ⟨gb101,4,none⟩ = some (.int .u64 a2_4):=(zb BK101.out 4).trans rfl;have hfz79_0:=z8 BK101.out 0;have hfz79_1:=z8 BK101.out 1;have hfz79_2:=z8 BK101.out 2;have hfz79_3:=z8 BK101.out 3;have hfz79_4:=z8 BK101.out 4;have p108 : 0 ≤ (a2_1 : Int):=of_decide_eq_true (by first|(with_reducible assumption)|assumption);have q108 : a2_1 < (l3.length : Int):=of_decide_eq_true (by first|(with_reducible assumption)|assumption);obtain ⟨ad108,e108,hx108_0⟩:=Kd.z1x HR3.out a2_1 p108 q108;cases e108;replace hx108_0:=(HB.out.cell (World.block_lt_of_cell? w _ hx108_0)).trans hx108_0;replace p108:=eq_true p108;replace q108:=eq_true q108;have p109 : 0 ≤ (a2_2 : Int):=of_decide_eq_true (by first|(with_reducible assumption)|assumption);have q109 : a2_2 < (l3.length : Int):=of_decide_eq_true (by first|(with_reducible assumption)|assumption);obtain ⟨ad109,e109,hx109_0⟩:=Kd.z1x HR3.out a2_2 p109 q109;obtain rfl : ad108 = ad109:=(by injection e109);replace hx109_0:=(HB.out.cell (World.block_lt_of_cell? w _ hx109_0)).trans hx109_0;replace p109:=eq_true p109;replace q109:=eq_true q109));try go_wp2_with (first|(go_at_call 105;(with_reducible refine (z1n.calls a2_0 a2_1 a2_2 a2_3 a2_4 (l3.length : Int) true _ A69.out).mono ?_);rintro e w78 ⟨rfl,hb⟩;have n0_:=z7.mk (zk (g:=gb101) (o:=.cells #[.int .i64 a2_0,.int .i64 a2_1,.int .i64 a2_2,.int .u64 a2_3,.int .u64 a2_4] 87 (0,0)) (by (with_reducible repeat (first|refine z2 ?_ _|refine z5 ?_|refine z1 ?_ _));exact BK101.out) hb);have n1_:=z7.mk (zk (g:=gb102) (o:=.cells #[.int .u64 0,.int .u64 0] 51 (0,0)) (by (with_reducible repeat (first|refine z2 ?_ _|refine z5 ?_|refine z1 ?_ _));exact BK102.out) hb);have n2_:=z7.mk (zg (by repeat (first|(with_reducible first|exact HB.out|apply z4|apply z0|apply z3|refine z9 ?_ GE101.out|refine z9 ?_ GE102.out)|exact HB.out)) hb);clear BK101;clear BK102;clear HB;have BK101:=n0_;have BK102:=n1_;have HB:=n2_;clear n0_ n1_ n2_;(try clear hb);(try clear hb2);(try clear hk);(try clear hi);have hcz79_0 : w78.cell? ⟨gb101,0,none⟩ = some (.int .i64 a2_0):=(zb BK101.out 0).trans rfl;have hcz79_1 : w78.cell? ⟨gb101,1,none⟩ = some (.int .i64 a2_1):=(zb BK101.out 1).trans rfl;have hcz79_2 : w78.cell? ⟨gb101,2,none⟩ = some (.int .i64 a2_2):=(zb BK101.out 2).trans rfl;have hcz79_3 : w78.cell? ⟨gb101,3,none⟩ = some (.int .u64 a2_3):=(zb BK101.out 3).trans rfl;have hcz79_4 : w78.cell? ⟨gb101,4,none⟩ = some (.int .u64 a2_4):=(zb BK101.out 4).trans rfl;have hfz79_0:=z8 BK101.out 0;have hfz79_1:=z8 BK101.out 1;have hfz79_2:=z8 BK101.out 2;have hfz79_3:=z8 BK101.out 3;have hfz79_4:=z8 BK101.out 4;have p108 : 0 ≤ (a2_1 : Int):=of_decide_eq_true (by first|(with_reducible assumption)|assumption);have q108 : a2_1 < (l3.length : Int):=of_decide_eq_true (by first|(with_reducible assumption)|assumption);obtain ⟨ad108,e108,hx108_0⟩:=Kd.z1x HR3.out a2_1 p108 q108;cases e108;replace hx108_0:=(HB.out.cell (World.block_lt_of_cell? w _ hx108_0)).trans hx108_0;replace p108:=eq_true p108;replace q108:=eq_true q108;have p109 : 0 ≤ (a2_2 : Int):=of_decide_eq_true (by first|(with_reducible assumption)|assumption);have q109 : a2_2 < (l3.length : Int):=of_decide_eq_true (by first|(with_reducible assumption)|assumption);obtain ⟨ad109,e109,hx109_0⟩:=Kd.z1x HR3.out a2_2 p109 q109;obtain rfl : ad108 = ad109:=(by injection e109);replace hx109_0:=(HB.out.cell (World.block_lt_of_cell? w _ hx109_0)).trans hx109_0;replace p109:=eq_true p109;replace q109:=eq_true q109)))
       go_ret2
       exact ⟨by first|rfl|(simp [zl,zm] <;> rfl)|(simp [*,zl,zm] <;> rfl),by repeat (first|(with_reducible first|exact HB.out|apply z4|apply z0|apply z3|refine z9 ?_ GE101.out|refine z9 ?_ GE102.out)|exact HB.out)⟩
end Go.Proofs.Ytngcaphdkgihmaa.P
namespace Go.Proofs.Ytngcaphdkgihmaa.P
open Go.RowKit Go.Proofs.YtngcaphdkgihmaaW.PrintWords Go.Proofs.YtngcaphdkgihmaaW.PrintLast Go.Proofs.YtngcaphdkgihmaaW.PrintMore
attribute [local go_sem] z17 z19 z1e z1f z12 z13 z18 z1a   -- for this text's walks alone
set_option linter.unusedVariables false
set_option linter.unusedSimpArgs false
mutual
def zu.j0 : Nat → Int → Int → List (S87) → Bool → Option (List Int × Int)
 | 0,_,_,_,_=>none
 | k + 1,x0,x1,x2,x13=>if x13 = true then (some (([] : List Int),1)) else (if (x2.length : Int) = 0 then (some (([] : List Int),3)) else (if (x2.length : Int) > 200 then (some (([] : List Int),2)) else (zu.l0 k x0 x1 ([] : List Int) x2 (x2.length : Int) 0)))
def zu.l0 : Nat → Int → Int → List Int → List (S87) → Int → Int → Option (List Int × Int)
 | 0,_,_,_,_,_,_=>none
 | k + 1,x0,x1,x8,x29,x30,x31=>if x31 < x30 then (if 0 ≤ x31 then (if x31 < (x29.length : Int) then ((zC.f k x0 x1 ((zd x29 x31).f0) ((zd x29 x31).f1) ((zd x29 x31).f2) ((zd x29 x31).f3.f0) ((zd x29 x31).f3.f1) x8).bind fun bt104=>(if bt104.2 = 0 then (zu.j2 k x0 x1 x8 bt104.1 bt104.2 x29 x30 x31 (decide (bt104.1 > 8))) else (zu.j2 k x0 x1 x8 bt104.1 bt104.2 x29 x30 x31 false))) else (none)) else (none)) else (some (x8,0))
def zu.j2 : Nat → Int → Int → List Int → Int → Int → List (S87) → Int → Int → Bool → Option (List Int × Int)
 | 0,_,_,_,_,_,_,_,_,_=>none
 | k + 1,x0,x1,x8,x11,x12,x29,x30,x31,x48=>if x48 = true then (some (([] : List Int),7)) else (if x12 = 0 then (if x8.length < 17592186044416 then (zu.l0 k x0 x1 (x8 ++ [x11]) x29 x30 (wrap64 (x31 + 1))) else (none)) else (some (([] : List Int),x12)))
end
def zu.f (k : Nat) (a0 : Int) (a1 : Int) (l2 : List (S87)) : Option (List Int × Int):=(zR.f k a0).bind fun t101=>(if t101 = 0 then (zu.j0 k a0 a1 l2 true) else (zu.j0 k a0 a1 l2 (decide (a1 < 0))))
theorem zu.z1b : ∀ k,(∀ y0 y1 y2 y3,LeO (zu.j0 k y0 y1 y2 y3) (zu.j0 (k + 1) y0 y1 y2 y3)) ∧ (∀ y0 y1 y2 y3 y4 y5,LeO (zu.l0 k y0 y1 y2 y3 y4 y5) (zu.l0 (k + 1) y0 y1 y2 y3 y4 y5)) ∧ (∀ y0 y1 y2 y3 y4 y5 y6 y7 y8,LeO (zu.j2 k y0 y1 y2 y3 y4 y5 y6 y7 y8) (zu.j2 (k + 1) y0 y1 y2 y3 y4 y5 y6 y7 y8))
 | 0=>⟨fun _ _ _ _ r h=>by simp [zu.j0] at h,fun _ _ _ _ _ _ r h=>by simp [zu.l0] at h,fun _ _ _ _ _ _ _ _ _ r h=>by simp [zu.j2] at h⟩
 | k + 1=>by
  obtain ⟨ih0,ih1,ih2⟩:=zu.z1b k
  refine ⟨?_,?_,?_⟩
  · intro y0 y1 y2 y3
    unfold zu.j0
    repeat' first
    | (with_reducible exact ih0 _ _ _ _)
    | (with_reducible exact ih1 _ _ _ _ _ _)
    | (with_reducible exact ih2 _ _ _ _ _ _ _ _ _)
    | (with_reducible exact zC.mono _ _ _ _ _ _ _ _ _)
    | (with_reducible exact zR.mono _ _)
    | (with_reducible exact LeO.refl _)
    | (with_reducible exact LeO.none _)
    | (with_reducible refine LeO.ite ?_ ?_)
    | (with_reducible refine LeO.bind ?_ (fun _=>?_))
    | exact ih0 _ _ _ _
    | exact ih1 _ _ _ _ _ _
    | exact ih2 _ _ _ _ _ _ _ _ _
    | exact zC.mono _ _ _ _ _ _ _ _ _
    | exact zR.mono _ _
    | exact LeO.none _
    | refine LeO.ite ?_ ?_
    | refine LeO.bind ?_ (fun _=>?_)
  · intro y0 y1 y2 y3 y4 y5
    unfold zu.l0
    repeat' first
    | (with_reducible exact ih0 _ _ _ _)
    | (with_reducible exact ih1 _ _ _ _ _ _)
    | (with_reducible exact ih2 _ _ _ _ _ _ _ _ _)
    | (with_reducible exact zC.mono _ _ _ _ _ _ _ _ _)
    | (with_reducible exact zR.mono _ _)
    | (with_reducible exact LeO.refl _)
    | (with_reducible exact LeO.none _)
    | (with_reducible refine LeO.ite ?_ ?_)
    | (with_reducible refine LeO.bind ?_ (fun _=>?_))
    | exact ih0 _ _ _ _
    | exact ih1 _ _ _ _ _ _
    | exact ih2 _ _ _ _ _ _ _ _ _
    | exact zC.mono _ _ _ _ _ _ _ _ _
    | exact zR.mono _ _
    | exact LeO.none _
    | refine LeO.ite ?_ ?_
    | refine LeO.bind ?_ (fun _=>?_)
  · intro y0 y1 y2 y3 y4 y5 y6 y7 y8
    unfold zu.j2
    repeat' first
    | (with_reducible exact ih0 _ _ _ _)
    | (with_reducible exact ih1 _ _ _ _ _ _)
    | (with_reducible exact ih2 _ _ _ _ _ _ _ _ _)
    | (with_reducible exact zC.mono _ _ _ _ _ _ _ _ _)
    | (with_reducible exact zR.mono _ _)
    | (with_reducible exact LeO.refl _)
    | (with_reducible exact LeO.none _)
    | (with_reducible refine LeO.ite ?_ ?_)
    | (with_reducible refine LeO.bind ?_ (fun _=>?_))
    | exact ih0 _ _ _ _
    | exact ih1 _ _ _ _ _ _
    | exact ih2 _ _ _ _ _ _ _ _ _
    | exact zC.mono _ _ _ _ _ _ _ _ _
    | exact zR.mono _ _
    | exact LeO.none _
    | refine LeO.ite ?_ ?_
    | refine LeO.bind ?_ (fun _=>?_)
theorem zu.mono : ∀ a0 a1 a2 k,LeO (zu.f k a0 a1 a2) (zu.f (k + 1) a0 a1 a2):=by
 intro a0 a1 a2 k
 obtain ⟨ih0,ih1,ih2⟩:=zu.z1b k
 unfold zu.f
 repeat' first
  | (with_reducible exact ih0 _ _ _ _)
  | (with_reducible exact ih1 _ _ _ _ _ _)
  | (with_reducible exact ih2 _ _ _ _ _ _ _ _ _)
  | (with_reducible exact zC.mono _ _ _ _ _ _ _ _ _)
  | (with_reducible exact zR.mono _ _)
  | (with_reducible exact LeO.refl _)
  | (with_reducible exact LeO.none _)
  | (with_reducible refine LeO.ite ?_ ?_)
  | (with_reducible refine LeO.bind ?_ (fun _=>?_))
  | exact ih0 _ _ _ _
  | exact ih1 _ _ _ _ _ _
  | exact ih2 _ _ _ _ _ _ _ _ _
  | exact zC.mono _ _ _ _ _ _ _ _ _
  | exact zR.mono _ _
  | exact LeO.none _
  | refine LeO.ite ?_ ?_
  | refine LeO.bind ?_ (fun _=>?_)
set_option maxHeartbeats 8000000 in
set_option maxRecDepth 100000 in
theorem zu.calls (k : Nat) (a0 : Int) (a1 : Int) (A2 : Option Addr) (c2 : Nat) (l2 : List (S87)) (r1 : List Int) (r2 : Int) (w : World) (hr2 : Kd.C k87 w A2 l2.length l2) (hc2 : l2.length ≤ c2) (h : zu.f k a0 a1 l2 = some (r1,r2)) :
 Calls Try.prog 88 #[.int .i64 a0,.int .i64 a1,.slice A2 l2.length c2] w fun e w'=>∃ v0_ : Value,e = .returned (.tuple #[v0_,.int .i64 r2]) ∧ Kd.R (Kd.int .i64) 3 w' w.heap.size (fun _=>True) v0_ r1 ∧ Below w.heap.size w w':=by
 have hu87:=Try.underlying87
 have HR2:=z7.mk hr2
 have HC2:=z7.mk hc2
 clear hr2 hc2
 have HB:=z7.mk (Below.refl w.heap.size w)
 have H : ((zR.f k a0).bind fun t101=>(if t101 = 0 then (zu.j0 k a0 a1 l2 true) else (zu.j0 k a0 a1 l2 (decide (a1 < 0))))) = some (r1,r2):=h
 clear h
 have HC4:=z7.mk H
 clear H
 go_enter Try.func88,Try.ntmps88
 go_upto_region 1 with (fail)
 go_cut [13] (fun v13 wc=>∃ (kq : Nat) (x13_3 : Bool),v13 = .bool x13_3 ∧ z7 (zu.j0 kq a0 a1 l2 x13_3 = some (r1,r2)) ∧ z7 (kq ≤ k) ∧ z7 (Below w.heap.size w wc))
 case first =>
  have H:=HC4.out
  clear HC4
  replace H:=Option.bind_eq_some_iff.mp H
  obtain ⟨t101,A50,H⟩:=H
  replace H : (if t101 = 0 then (zu.j0 k a0 a1 l2 true) else (zu.j0 k a0 a1 l2 (decide (a1 < 0)))) = some (r1,r2):=H
  have A5:=z7.mk A50
  clear A50
  by_cases c6 : t101 = 0
  rotate_left
  · rw [if_neg c6] at H
    have c6b0 : (t101 == 0) = false:=beq_eq_false_iff_ne.mpr c6
    have c6b1 : (t101 != 0) = true:=bne_iff_ne.mpr c6
    (first|rw [c6b0]|(simp only [zH,zL];rw [c6b0])|skip)
    have H':=z7.mk H
    clear H
    go_wp2_with (first|((with_reducible refine zB (f:=78) rfl ?_);refine goesL_ (some 15) rfl rfl Try.func78 (by kernel_rfl) rfl #[.int .i64 a0] rfl (by (try simp only [List.map_toArray,List.map_cons,List.map_nil]);first|done|rfl|(simp only [List.length_drop,List.length_take];rfl)) ?_;(with_reducible refine (zR.calls k a0 t101 _ A5.out).mono ?_);rintro e w' ⟨rfl,⟨nd,rfl⟩⟩;refine ⟨_,rfl,?_⟩))
    go_meet
    case rel=>exact ⟨_,(decide (a1 < 0)),(by first|rfl|(simp;done)|(simp [*];done)),H',⟨by first|omega|exact Nat.le_refl _⟩,⟨by repeat (first|(with_reducible first|exact HB.out|apply z4|apply z0|apply z3)|exact HB.out)⟩⟩
  rw [if_pos c6] at H
  have c6b0 : (t101 == 0) = true:=beq_iff_eq.mpr c6
  have c6b1 : (t101 != 0) = false:=bne_eq_false_iff_eq.mpr c6
  clear c6
  (first|rw [c6b0]|(simp only [zH,zL];rw [c6b0])|skip)
  have H':=z7.mk H
  clear H
  go_wp2_with (first|((with_reducible refine zB (f:=78) rfl ?_);refine goesL_ (some 15) rfl rfl Try.func78 (by kernel_rfl) rfl #[.int .i64 a0] rfl (by (try simp only [List.map_toArray,List.map_cons,List.map_nil]);first|done|rfl|(simp only [List.length_drop,List.length_take];rfl)) ?_;(with_reducible refine (zR.calls k a0 t101 _ A5.out).mono ?_);rintro e w' ⟨rfl,⟨nd,rfl⟩⟩;refine ⟨_,rfl,?_⟩))
  go_meet
  case rel=>exact ⟨_,(true),(by first|rfl|(simp;done)|(simp [*];done)),H',⟨by first|omega|exact Nat.le_refl _⟩,⟨by repeat (first|(with_reducible first|exact HB.out|apply z4|apply z0|apply z3)|exact HB.out)⟩⟩
 case rest =>
  clear HC4
  (try clear c2);(try clear p2);(try clear c6);(try clear c6b0);(try clear c6b1)
  obtain ⟨kq,x13_3,rfl,HA,HJ3,HB⟩:=hcut
  cases kq with
  | zero=>exact absurd HA.out (by simp [zu.j0])
  | succ kj3 =>
   have H:=HA.out
   clear HA
   simp only [zu.j0] at H
   by_cases c7 : x13_3 = true
   · subst c7
     have H1 : (some (([] : List Int),1)) = some (r1,r2):=by rw [if_pos rfl] at H;exact H
     clear H
     have H:=H1
     clear H1
     simp only [Option.some.injEq,Prod.mk.injEq] at H
     obtain ⟨rfl,rfl⟩:=H
     go_wp2
     go_ret2
     exact ⟨_,by first|rfl|(simp [zl,zm] <;> rfl)|(simp [*,zl,zm] <;> rfl),by first|exact Kd.z2r _ _ _ _ _|exact Kd.z2W _ _ _ _ _|exact Kd.z30 _ _ _ _ _|exact Kd.z2Y _ _ _ _ _|exact Kd.z2Z _ _ _ _ _,by repeat (first|(with_reducible first|exact HB.out|apply z4|apply z0|apply z3)|exact HB.out)⟩
   replace c7:=Bool.eq_false_iff.mpr c7
   subst c7
   have H1 : (if (l2.length : Int) = 0 then (some (([] : List Int),3)) else (if (l2.length : Int) > 200 then (some (([] : List Int),2)) else (zu.l0 kj3 a0 a1 ([] : List Int) l2 (l2.length : Int) 0))) = some (r1,r2):=by rw [if_neg (show ¬ (false = true) by decide)] at H;exact H
   clear H
   have H:=H1
   clear H1
   by_cases c8 : (l2.length : Int) = 0
   · rw [if_pos c8] at H
     have c8b0 : ((l2.length : Int) == 0) = true:=beq_iff_eq.mpr c8
     have c8b1 : ((l2.length : Int) != 0) = false:=bne_eq_false_iff_eq.mpr c8
     clear c8
     simp only [Option.some.injEq,Prod.mk.injEq] at H
     obtain ⟨rfl,rfl⟩:=H
     go_wp2
     go_ret2
     exact ⟨_,by first|rfl|(simp [zl,zm] <;> rfl)|(simp [*,zl,zm] <;> rfl),by first|exact Kd.z2r _ _ _ _ _|exact Kd.z2W _ _ _ _ _|exact Kd.z30 _ _ _ _ _|exact Kd.z2Y _ _ _ _ _|exact Kd.z2Z _ _ _ _ _,by repeat (first|(with_reducible first|exact HB.out|apply z4|apply z0|apply z3)|exact HB.out)⟩
   rw [if_neg c8] at H
   have c8b0 : ((l2.length : Int) == 0) = false:=beq_eq_false_iff_ne.mpr c8
   have c8b1 : ((l2.length : Int) != 0) = true:=bne_iff_ne.mpr c8
   have c8b2 : ¬ (l2 = []):=fun h_=>c8 (by rw [h_];rfl)
   by_cases c9 : (l2.length : Int) > 200
   · rw [if_pos c9] at H
     have c9b0 : decide (200 < (l2.length : Int)) = true:=decide_eq_true c9
     have c9b1 : decide (200 < l2.length) = true:=decide_eq_true (by omega)
     clear c9
     simp only [Option.some.injEq,Prod.mk.injEq] at H
     obtain ⟨rfl,rfl⟩:=H
     go_wp2
     go_ret2
     exact ⟨_,by first|rfl|(simp [zl,zm] <;> rfl)|(simp [*,zl,zm] <;> rfl),by first|exact Kd.z2r _ _ _ _ _|exact Kd.z2W _ _ _ _ _|exact Kd.z30 _ _ _ _ _|exact Kd.z2Y _ _ _ _ _|exact Kd.z2Z _ _ _ _ _,by repeat (first|(with_reducible first|exact HB.out|apply z4|apply z0|apply z3)|exact HB.out)⟩
   rw [if_neg c9] at H
   have c9b0 : decide (200 < (l2.length : Int)) = false:=decide_eq_false c9
   have c9b1 : decide (200 < l2.length) = false:=decide_eq_false (by omega)
   clear c9
   have H':=z7.mk H
   clear H
   go_wp2
   go_loopg [8,31] kj3 (fun kq v8 v31 w'=>∃ (x8_2 : List Int) (x31_2 : Int),v31 = .int .i64 x31_2 ∧ z7 (zu.l0 kq a0 a1 x8_2 l2 (l2.length : Int) x31_2 = some (r1,r2)) ∧ z7 (kq ≤ kj3) ∧ z7 (Kd.R (Kd.int .i64) 3 w' w.heap.size (fun _=>True) v8 x8_2) ∧ z7 (Below w.heap.size w w'))
   case atStart=>exact ⟨(([] : List Int)),(0),(by first|rfl|(simp;done)|(simp [*];done)),H',⟨Nat.le_refl _⟩,⟨by first|exact Kd.z2r _ _ _ _ _|exact Kd.z2W _ _ _ _ _|exact Kd.z30 _ _ _ _ _|exact Kd.z2Y _ _ _ _ _|exact Kd.z2Z _ _ _ _ _⟩,⟨by repeat (first|(with_reducible first|exact HB.out|apply z4|apply z0|apply z3)|exact HB.out)⟩⟩
   case round =>
    clear H'
    (try clear c2);(try clear p2);(try clear c6);(try clear c6b0);(try clear c6b1);(try clear c7);(try clear c8);(try clear c8b0);(try clear c8b1);(try clear c8b2);(try clear c9);(try clear c9b0);(try clear c9b1);(try clear p2)
    obtain ⟨x8_2,x31_2,rfl,HA,HK2,HO_8,HB⟩:=hrel
    cases gk with
    | zero=>exact absurd HA.out (by simp [zu.l0])
    | succ k2 =>
     have H:=HA.out
     clear HA
     simp only [zu.l0] at H
     by_cases c10 : x31_2 < (l2.length : Int)
     rotate_left
     · rw [if_neg c10] at H
       have c10b0 : decide (x31_2 < (l2.length : Int)) = false:=decide_eq_false c10
       clear c10
       simp only [Option.some.injEq,Prod.mk.injEq] at H
       obtain ⟨rfl,rfl⟩:=H
       go_wp2
       go_ret2
       exact ⟨_,by first|rfl|(simp [zl,zm] <;> rfl)|(simp [*,zl,zm] <;> rfl),by (with_reducible repeat (first|apply Kd.zx|apply Kd.zy|apply Kd.zD));exact HO_8.out,by repeat (first|(with_reducible first|exact HB.out|apply z4|apply z0|apply z3)|exact HB.out)⟩
     rw [if_pos c10] at H
     have c10b0 : decide (x31_2 < (l2.length : Int)) = true:=decide_eq_true c10
     clear c10
     by_cases c11 : 0 ≤ x31_2
     rotate_left
     · rw [if_neg c11] at H
       exact absurd H (by simp)
     rw [if_pos c11] at H
     have c11b0 : decide (0 ≤ x31_2) = true:=decide_eq_true c11
     clear c11
     by_cases c12 : x31_2 < (l2.length : Int)
     rotate_left
     · rw [if_neg c12] at H
       exact absurd H (by simp)
     rw [if_pos c12] at H
     have c12b0 : decide (x31_2 < (l2.length : Int)) = true:=decide_eq_true c12
     clear c12
     replace H:=Option.bind_eq_some_iff.mp H
     obtain ⟨⟨t104,t105⟩,A130,H⟩:=H
     replace H : (if t105 = 0 then (zu.j2 k2 a0 a1 x8_2 t104 t105 l2 (l2.length : Int) x31_2 (decide (t104 > 8))) else (zu.j2 k2 a0 a1 x8_2 t104 t105 l2 (l2.length : Int) x31_2 false)) = some (r1,r2):=H
     have A13:=z7.mk A130
     clear A130
     have HC14:=z7.mk H
     clear H
     have p102 : 0 ≤ (x31_2 : Int):=of_decide_eq_true (by first|(with_reducible assumption)|assumption)
     have q102 : x31_2 < (l2.length : Int):=of_decide_eq_true (by first|(with_reducible assumption)|assumption)
     obtain ⟨ad102,e102,hx102_0,hx102_1,hx102_2,hx102_3,hx102_4⟩:=z1R HR2.out x31_2 p102 q102
     cases e102
     replace hx102_0:=(HB.out.cell (World.block_lt_of_cell? w _ hx102_0)).trans hx102_0
     replace hx102_1:=(HB.out.cell (World.block_lt_of_cell? w _ hx102_1)).trans hx102_1
     replace hx102_2:=(HB.out.cell (World.block_lt_of_cell? w _ hx102_2)).trans hx102_2
     replace hx102_3:=(HB.out.cell (World.block_lt_of_cell? w _ hx102_3)).trans hx102_3
     replace hx102_4:=(HB.out.cell (World.block_lt_of_cell? w _ hx102_4)).trans hx102_4
     replace p102:=eq_true p102
     replace q102:=eq_true q102
     go_upto_region 12 with (first|((with_reducible refine zG (N:=10) rfl ?_);refine zE ?hg (N:=10) ?hd (cs:=#[.int .i64 0,.int .i64 0,.int .i64 0,.int .u64 0,.int .u64 0]) (t:=87) ?hr ?_;(case hd=>rfl);(case hg=>rfl);(case hr=>first|(go_simp;done)|(go_simp;rfl));intro gb103 hg w15 hbox hb;have n0_:=z7.mk (Kd.zY (by (with_reducible repeat (first|apply Kd.zx|apply Kd.zy|apply Kd.zD));exact HO_8.out) hb);have n1_:=z7.mk (zg (by repeat (first|(with_reducible first|exact HB.out|apply z4|apply z0|apply z3)|exact HB.out)) hb);have n2_:=z7.mk (hbox);have n3_:=z7.mk ((by rw [hg];exact (zf (by repeat (first|(with_reducible first|exact HB.out|apply z4|apply z0|apply z3)|exact HB.out))) : w.heap.size ≤ gb103));have n4_:=z7.mk ((by rw [hg];exact (zf (by repeat (first|(with_reducible first|exact HB.out|apply z4|apply z0|apply z3)|exact HB.out))) : w.heap.size ≤ gb103));clear HO_8;clear HB;have HO_8:=n0_;have HB:=n1_;have BK103:=n2_;have GW103:=n3_;have GE103:=n4_;clear n0_ n1_ n2_ n3_ n4_;clear hb hbox hg;have hcz16_0 : w15.cell? ⟨gb103,0,none⟩ = some (.int .i64 0):=(zb BK103.out 0).trans rfl;have hcz16_1 : w15.cell? ⟨gb103,1,none⟩ = some (.int .i64 0):=(zb BK103.out 1).trans rfl;have hcz16_2 : w15.cell? ⟨gb103,2,none⟩ = some (.int .i64 0):=(zb BK103.out 2).trans rfl;have hcz16_3 : w15.cell? ⟨gb103,3,none⟩ = some (.int .u64 0):=(zb BK103.out 3).trans rfl;have hcz16_4 : w15.cell? ⟨gb103,4,none⟩ = some (.int .u64 0):=(zb BK103.out 4).trans rfl;have hfz16_0:=z8 BK103.out 0;have hfz16_1:=z8 BK103.out 1;have hfz16_2:=z8 BK103.out 2;have hfz16_3:=z8 BK103.out 3;have hfz16_4:=z8 BK103.out 4;obtain ⟨Ao17,co17,eo17⟩:=Kd.z1q HO_8.out;subst eo17)|((with_reducible refine zB (f:=99) rfl ?_);refine goesL_ (some 40) rfl rfl Try.func99 (by kernel_rfl) rfl #[.int .i64 a0,.int .i64 a1,.agg #[.int .i64 ((zd l2 x31_2).f0),.int .i64 ((zd l2 x31_2).f1),.int .i64 ((zd l2 x31_2).f2),.int .u64 ((zd l2 x31_2).f3.f0),.int .u64 ((zd l2 x31_2).f3.f1)],.slice Ao17 x8_2.length co17] rfl (by (try simp only [List.map_toArray,List.map_cons,List.map_nil]);first|done|rfl|(simp only [List.length_drop,List.length_take];rfl)) ?_;(with_reducible refine (zC.calls k2 a0 a1 ((zd l2 x31_2).f0) ((zd l2 x31_2).f1) ((zd l2 x31_2).f2) ((zd l2 x31_2).f3.f0) ((zd l2 x31_2).f3.f1) _ _ x8_2 t104 t105 _ ?side1 ?side2 A13.out).mono ?_);(case side1=>refine (Kd.zO (e:=3) (base:=w.heap.size) (ok:=fun k_=>True) (n:=x8_2.length) (c:=co17) ?_).2.2;exact (by (with_reducible repeat (first|apply Kd.zx|apply Kd.zy|apply Kd.zD));exact (Kd.z1d (Kd.z1g (p:=⟨gb103,4,none⟩) (Kd.z1g (p:=⟨gb103,3,none⟩) (Kd.z1g (p:=⟨gb103,2,none⟩) (Kd.z1g (p:=⟨gb103,1,none⟩) (Kd.z1g (p:=⟨gb103,0,none⟩) (Kd.z1L HO_8.out BK103.out (by decide)) (fun _ hk=>hk.2) (.int .i64 ((zd l2 x31_2).f0))) (fun _ hk=>hk.2) (.int .i64 ((zd l2 x31_2).f1))) (fun _ hk=>hk.2) (.int .i64 ((zd l2 x31_2).f2))) (fun _ hk=>hk.2) (.int .u64 ((zd l2 x31_2).f3.f0))) (fun _ hk=>hk.2) (.int .u64 ((zd l2 x31_2).f3.f1))) (fun _ h_=>h_.1))));(case side2=>exact (Kd.zO HO_8.out).2.1);rintro e w18 ⟨rfl,hb⟩;refine ⟨_,rfl,?_⟩;have n0_:=z7.mk (Kd.zY (by (with_reducible repeat (first|apply Kd.zx|apply Kd.zy|apply Kd.zD));exact (Kd.z1d (Kd.z1g (p:=⟨gb103,4,none⟩) (Kd.z1g (p:=⟨gb103,3,none⟩) (Kd.z1g (p:=⟨gb103,2,none⟩) (Kd.z1g (p:=⟨gb103,1,none⟩) (Kd.z1g (p:=⟨gb103,0,none⟩) (Kd.z1L HO_8.out BK103.out (by decide)) (fun _ hk=>hk.2) (.int .i64 ((zd l2 x31_2).f0))) (fun _ hk=>hk.2) (.int .i64 ((zd l2 x31_2).f1))) (fun _ hk=>hk.2) (.int .i64 ((zd l2 x31_2).f2))) (fun _ hk=>hk.2) (.int .u64 ((zd l2 x31_2).f3.f0))) (fun _ hk=>hk.2) (.int .u64 ((zd l2 x31_2).f3.f1))) (fun _ h_=>h_.1))) hb);have n1_:=z7.mk (zk (g:=gb103) (o:=.cells #[.int .i64 ((zd l2 x31_2).f0),.int .i64 ((zd l2 x31_2).f1),.int .i64 ((zd l2 x31_2).f2),.int .u64 ((zd l2 x31_2).f3.f0),.int .u64 ((zd l2 x31_2).f3.f1)] 87 (0,0)) (by (with_reducible repeat (first|refine z2 ?_ _|refine z5 ?_|refine z1 ?_ _));refine zq (cs:=#[.int .i64 ((zd l2 x31_2).f0),.int .i64 ((zd l2 x31_2).f1),.int .i64 ((zd l2 x31_2).f2),.int .u64 ((zd l2 x31_2).f3.f0),.int .u64 0]) ?_ 4 _ rfl;(with_reducible repeat (first|refine z2 ?_ _|refine z5 ?_|refine z1 ?_ _));refine zq (cs:=#[.int .i64 ((zd l2 x31_2).f0),.int .i64 ((zd l2 x31_2).f1),.int .i64 ((zd l2 x31_2).f2),.int .u64 0,.int .u64 0]) ?_ 3 _ rfl;(with_reducible repeat (first|refine z2 ?_ _|refine z5 ?_|refine z1 ?_ _));refine zq (cs:=#[.int .i64 ((zd l2 x31_2).f0),.int .i64 ((zd l2 x31_2).f1),.int .i64 0,.int .u64 0,.int .u64 0]) ?_ 2 _ rfl;(with_reducible repeat (first|refine z2 ?_ _|refine z5 ?_|refine z1 ?_ _));refine zq (cs:=#[.int .i64 ((zd l2 x31_2).f0),.int .i64 0,.int .i64 0,.int .u64 0,.int .u64 0]) ?_ 1 _ rfl;(with_reducible repeat (first|refine z2 ?_ _|refine z5 ?_|refine z1 ?_ _));refine zq (cs:=#[.int .i64 0,.int .i64 0,.int .i64 0,.int .u64 0,.int .u64 0]) ?_ 0 _ rfl;(with_reducible repeat (first|refine z2 ?_ _|refine z5 ?_|refine z1 ?_ _));exact BK103.out) hb);have n2_:=z7.mk (zg (by repeat (first|(with_reducible first|exact HB.out|apply z4|apply z0|apply z3|refine z9 ?_ GE103.out)|exact HB.out)) hb);clear HO_8;clear BK103;clear HB;have HO_8:=n0_;have BK103:=n1_;have HB:=n2_;clear n0_ n1_ n2_;(try clear hb);(try clear hb2);(try clear hk);(try clear hi)))
     (try simp only [Act.put,List.setIfInBounds_toArray,List.set_cons_zero,List.set_cons_succ])
     go_cut [48] (fun v48 wc=>∃ (kq : Nat) (x48_13 : Bool),v48 = .bool x48_13 ∧ z7 (zu.j2 kq a0 a1 x8_2 t104 t105 l2 (l2.length : Int) x31_2 x48_13 = some (r1,r2)) ∧ z7 (kq ≤ k2) ∧ z7 (Kd.R (Kd.int .i64) 3 wc w.heap.size (fun _=>True) (.slice Ao17 x8_2.length co17) x8_2) ∧ z7 (wc.heap[gb103]? = some (.cells #[.int .i64 ((zd l2 x31_2).f0),.int .i64 ((zd l2 x31_2).f1),.int .i64 ((zd l2 x31_2).f2),.int .u64 ((zd l2 x31_2).f3.f0),.int .u64 ((zd l2 x31_2).f3.f1)] 87 (0,0))) ∧ z7 (Below w.heap.size w wc))
     case first =>
      have H:=HC14.out
      clear HC14
      by_cases c19 : t105 = 0
      rotate_left
      · rw [if_neg c19] at H
        have c19b0 : (t105 == 0) = false:=beq_eq_false_iff_ne.mpr c19
        have c19b1 : (t105 != 0) = true:=bne_iff_ne.mpr c19
        (first|rw [c19b0]|(simp only [zH,zL];rw [c19b0])|skip)
        have H':=z7.mk H
        clear H
        go_wp2
        go_meet
        case rel=>exact ⟨_,(false),(by first|rfl|(simp;done)|(simp [*];done)),H',⟨by have:=HJ3.out;have:=HK2.out;first|omega|exact Nat.le_refl _⟩,⟨by (with_reducible repeat (first|apply Kd.zx|apply Kd.zy|apply Kd.zD));exact HO_8.out⟩,⟨by (with_reducible repeat (first|refine z2 ?_ _|refine z5 ?_|refine z1 ?_ _));exact BK103.out⟩,⟨by repeat (first|(with_reducible first|exact HB.out|apply z4|apply z0|apply z3|refine z9 ?_ GE103.out)|exact HB.out)⟩⟩
      rw [if_pos c19] at H
      have c19b0 : (t105 == 0) = true:=beq_iff_eq.mpr c19
      have c19b1 : (t105 != 0) = false:=bne_eq_false_iff_eq.mpr c19
      clear c19
      (first|rw [c19b0]|(simp only [zH,zL];rw [c19b0])|skip)
      have H':=z7.mk H
      clear H
      go_wp2
      go_meet
      case rel=>exact ⟨_,(decide (t104 > 8)),(by first|rfl|(simp;done)|(simp [*];done)),H',⟨by have:=HJ3.out;have:=HK2.out;first|omega|exact Nat.le_refl _⟩,⟨by (with_reducible repeat (first|apply Kd.zx|apply Kd.zy|apply Kd.zD));exact HO_8.out⟩,⟨by (with_reducible repeat (first|refine z2 ?_ _|refine z5 ?_|refine z1 ?_ _));exact BK103.out⟩,⟨by repeat (first|(with_reducible first|exact HB.out|apply z4|apply z0|apply z3|refine z9 ?_ GE103.out)|exact HB.out)⟩⟩
     case rest =>
      clear HC14
      (try clear c1);(try clear p1);(try clear q1);(try clear hx1);(try clear c2);(try clear p2);(try clear c6);(try clear c6b0);(try clear c6b1);(try clear c7);(try clear c8);(try clear c8b0);(try clear c8b1);(try clear c8b2);(try clear c9);(try clear c9b0);(try clear c9b1);(try clear c10);(try clear c10b0);(try clear p10);(try clear q10);(try clear hx10);(try clear c11);(try clear c11b0);(try clear c12);(try clear c12b0);(try clear c19);(try clear c19b0);(try clear c19b1);(try clear hcz16_0);(try clear hcz16_1);(try clear hcz16_2);(try clear hcz16_3);(try clear hcz16_4);(try clear hfz16_0);(try clear hfz16_1);(try clear hfz16_2);(try clear hfz16_3);(try clear hfz16_4);(try clear hx102_0);(try clear hx102_1);(try clear hx102_2);(try clear hx102_3);(try clear hx102_4);(try clear p102);(try clear p2);(try clear q102)
      obtain ⟨kq,x48_13,rfl,HA,HJ13,HO_8,BK103,HB⟩:=hcut
      cases kq with
      | zero=>exact absurd HA.out (by simp [zu.j2])
      | succ kj13 =>
       have H:=HA.out
       clear HA
       simp only [zu.j2] at H
       by_cases c20 : x48_13 = true
       · subst c20
         have H1 : (some (([] : List Int),7)) = some (r1,r2):=by rw [if_pos rfl] at H;exact H
         clear H
         have H:=H1
         clear H1
         simp only [Option.some.injEq,Prod.mk.injEq] at H
         obtain ⟨rfl,rfl⟩:=H
         go_wp2
         go_ret2
         exact ⟨_,by first|rfl|(simp [zl,zm] <;> rfl)|(simp [*,zl,zm] <;> rfl),by first|exact Kd.z2r _ _ _ _ _|exact Kd.z2W _ _ _ _ _|exact Kd.z30 _ _ _ _ _|exact Kd.z2Y _ _ _ _ _|exact Kd.z2Z _ _ _ _ _,by repeat (first|(with_reducible first|exact HB.out|apply z4|apply z0|apply z3|refine z9 ?_ GE103.out)|exact HB.out)⟩
       replace c20:=Bool.eq_false_iff.mpr c20
       subst c20
       have H1 : (if t105 = 0 then (if x8_2.length < 17592186044416 then (zu.l0 kj13 a0 a1 (x8_2 ++ [t104]) l2 (l2.length : Int) (wrap64 (x31_2 + 1))) else (none)) else (some (([] : List Int),t105))) = some (r1,r2):=by rw [if_neg (show ¬ (false = true) by decide)] at H;exact H
       clear H
       have H:=H1
       clear H1
       by_cases c21 : t105 = 0
       rotate_left
       · rw [if_neg c21] at H
         have c21b0 : (t105 == 0) = false:=beq_eq_false_iff_ne.mpr c21
         have c21b1 : (t105 != 0) = true:=bne_iff_ne.mpr c21
         simp only [Option.some.injEq,Prod.mk.injEq] at H
         obtain ⟨rfl,rfl⟩:=H
         go_wp2
         go_ret2
         exact ⟨_,by first|rfl|(simp [zl,zm] <;> rfl)|(simp [*,zl,zm] <;> rfl),by first|exact Kd.z2r _ _ _ _ _|exact Kd.z2W _ _ _ _ _|exact Kd.z30 _ _ _ _ _|exact Kd.z2Y _ _ _ _ _|exact Kd.z2Z _ _ _ _ _,by repeat (first|(with_reducible first|exact HB.out|apply z4|apply z0|apply z3|refine z9 ?_ GE103.out)|exact HB.out)⟩
       rw [if_pos c21] at H
       have c21b0 : (t105 == 0) = true:=beq_iff_eq.mpr c21
       have c21b1 : (t105 != 0) = false:=bne_eq_false_iff_eq.mpr c21
       clear c21
       by_cases c22 : x8_2.length < 17592186044416
       rotate_left
       · rw [if_neg c22] at H
         exact absurd H (by simp)
       rw [if_pos c22] at H
       have LMc22:=z7.mk c22
       clear c22
       obtain ⟨y106,hy106⟩ : ∃ y_ : List Int,y_ = (x8_2 ++ [t104]):=⟨_,rfl⟩
       replace H : (zu.l0 kj13 a0 a1 y106 l2 (l2.length : Int) (wrap64 (x31_2 + 1))) = some (r1,r2):=by first|(rw [hy106];with_reducible exact H)|(have H2_:=(Option.bind_some _ _).symm.trans H;rw [hy106];with_reducible exact H2_)|(have H2_:=(Option.bind_some _ _).symm.trans H;with_reducible exact H2_)|with_reducible exact H|(rw [hy106];exact H)|exact H
       have Ny106:=z7.mk hy106
       clear hy106
       have H':=z7.mk H
       clear H
       go_wp2_with (first|((with_reducible refine zW (b:=.append) (xs:=#[.tmp 52,.tmp 54]) rfl ?_);at_builtin;refine Kd.z1h (Kd.int .i64) (w0:=w) w.heap.size rfl (.tmp 52) (.tmp 54) 31 3 (.int .i64 0) 8 rfl Try.underlying31 info3 rfl (by decide) (by omega) (.slice Ao17 x8_2.length co17) x8_2 t104 [.int .i64 t104] (fun _=>True) (fun _=>False) rfl rfl ?aP (fun _ hk=>hk.elim) ?aF ?aO ?aB ?aS ?aL ?_;(case aP=>exact rfl);(case aB=>exact (by repeat (first|(with_reducible first|exact HB.out|apply z4|apply z0|apply z3|refine z9 ?_ GE103.out)|exact HB.out)));(case aF=>exact (fun _ _=>trivial));(case aO=>exact (by (with_reducible repeat (first|apply Kd.zx|apply Kd.zy|apply Kd.zD));exact HO_8.out));(case aS=>exact (zf (by repeat (first|(with_reducible first|exact HB.out|apply z4|apply z0|apply z3|refine z9 ?_ GE103.out)|exact HB.out))));(case aL=>have:=LMc22.out;omega);intro v107 w23 ho hb hg hat;rw [← Ny106.out] at ho;have n0_:=z7.mk (z1i (g:=gb103) (o:=.cells #[.int .i64 ((zd l2 x31_2).f0),.int .i64 ((zd l2 x31_2).f1),.int .i64 ((zd l2 x31_2).f2),.int .u64 ((zd l2 x31_2).f3.f0),.int .u64 ((zd l2 x31_2).f3.f1)] 87 (0,0)) (by (with_reducible repeat (first|refine z2 ?_ _|refine z5 ?_|refine z1 ?_ _));exact BK103.out) hg (Kd.R_ne HO_8.out BK103.out (by decide)));have n1_:=z7.mk (hb);have n2_:=z7.mk (ho);clear BK103;clear HB;clear HO_8;have BK103:=n0_;have HB:=n1_;have HO108:=n2_;clear n0_ n1_ n2_;clear ho hb hg hat))
       go_roundg kj13
       case measure=>have:=HJ3.out;have:=HK2.out;have:=HJ13.out;omega
       case rel=>exact ⟨(y106),(wrap64 (x31_2 + 1)),(by first|rfl|(simp;done)|(simp [*];done)),H',⟨by have:=HJ3.out;have:=HK2.out;have:=HJ13.out;omega⟩,⟨by (with_reducible repeat (first|apply Kd.zx|apply Kd.zy|apply Kd.zD));exact HO108.out⟩,⟨by repeat (first|(with_reducible first|exact HB.out|apply z4|apply z0|apply z3|refine z9 ?_ GE103.out)|exact HB.out)⟩⟩
end Go.Proofs.Ytngcaphdkgihmaa.P
namespace Go.Proofs.Ytngcaphdkgihmaa.P
open Go.RowKit Go.Proofs.YtngcaphdkgihmaaW.PrintWords Go.Proofs.YtngcaphdkgihmaaW.PrintLast Go.Proofs.YtngcaphdkgihmaaW.PrintMore
attribute [local go_sem] z17 z19 z1e z1f z12 z13 z18 z1a   -- for this text's walks alone
set_option linter.unusedVariables false
set_option linter.unusedSimpArgs false
def z15.f (k : Nat) (a0 : Int) (a1 : Int) (l2 : List (S87)) : Option (Int):=(zu.f k a0 a1 l2).bind fun bt101=>(some bt101.2)
theorem z15.mono : ∀ a0 a1 a2 k,LeO (z15.f k a0 a1 a2) (z15.f (k + 1) a0 a1 a2):=by
 intro a0 a1 a2 k
 unfold z15.f
 repeat' first
  | (with_reducible exact zu.mono _ _ _ _)
  | (with_reducible exact LeO.refl _)
  | (with_reducible exact LeO.none _)
  | (with_reducible refine LeO.ite ?_ ?_)
  | (with_reducible refine LeO.bind ?_ (fun _=>?_))
  | exact zu.mono _ _ _ _
  | exact LeO.none _
  | refine LeO.ite ?_ ?_
  | refine LeO.bind ?_ (fun _=>?_)
set_option maxHeartbeats 8000000 in
set_option maxRecDepth 100000 in
theorem z15.calls (k : Nat) (a0 : Int) (a1 : Int) (A2 : Option Addr) (c2 : Nat) (l2 : List (S87)) (r : Int) (w : World) (hr2 : Kd.C k87 w A2 l2.length l2) (hc2 : l2.length ≤ c2) (h : z15.f k a0 a1 l2 = some r) :
 Calls Try.prog 56 #[.int .i64 a0,.int .i64 a1,.slice A2 l2.length c2] w fun e w'=>e = .returned (.int .i64 r) ∧ Below w.heap.size w w':=by
 have HR2:=z7.mk hr2
 have HC2:=z7.mk hc2
 clear hr2 hc2
 have HB:=z7.mk (Below.refl w.heap.size w)
 have H : ((zu.f k a0 a1 l2).bind fun bt101=>(some bt101.2)) = some r:=h
 clear h
 replace H:=Option.bind_eq_some_iff.mp H
 obtain ⟨⟨t101,t102⟩,A40,H⟩:=H
 replace H : (some t102) = some r:=H
 have A4:=z7.mk A40
 clear A40
 obtain rfl:=Option.some.inj H
 go_enter Try.func56,Try.ntmps56
 go_wp2_with (first|((with_reducible refine zB (f:=88) rfl ?_);refine goesL_ (some 13) rfl rfl Try.func88 (by kernel_rfl) rfl #[.int .i64 a0,.int .i64 a1,.slice A2 l2.length c2] rfl (by (try simp only [List.map_toArray,List.map_cons,List.map_nil]);first|done|rfl|(simp only [List.length_drop,List.length_take];rfl)) ?_;(with_reducible refine (zu.calls k a0 a1 _ _ l2 t101 t102 _ ?side1 ?side2 A4.out).mono ?_);(case side1=>repeat (first|exact HR2.out|(with_reducible refine Kd.z1o ?_ _)|(with_reducible refine Kd.z1p ?_ _)|(with_reducible refine Kd.z1w ?_)));(case side2=>exact HC2.out);rintro e w5 ⟨v103,rfl,ho0,hb⟩;refine ⟨_,rfl,?_⟩;have n0_:=z7.mk (Kd.z1A ho0 (zf (by repeat (first|(with_reducible first|exact HB.out|apply z4|apply z0|apply z3)|exact HB.out))));have n1_:=z7.mk (zg (by repeat (first|(with_reducible first|exact HB.out|apply z4|apply z0|apply z3)|exact HB.out)) hb);clear HB;have HO104:=n0_;have HB:=n1_;clear n0_ n1_;(try clear hb);(try clear hb2);(try clear hk);(try clear hi);(try clear ho0)))
 go_ret
 exact ⟨by first|rfl|(simp [zl,zm] <;> rfl)|(simp [*,zl,zm] <;> rfl),by repeat (first|(with_reducible first|exact HB.out|apply z4|apply z0|apply z3)|exact HB.out)⟩
end Go.Proofs.Ytngcaphdkgihmaa.P
namespace Go.Proofs.Ytngcaphdkgihmaa.P
open Go.RowKit Go.Proofs.YtngcaphdkgihmaaW.PrintWords Go.Proofs.YtngcaphdkgihmaaW.PrintLast Go.Proofs.YtngcaphdkgihmaaW.PrintMore
attribute [local go_sem] z17 z19 z1e z1f z12 z13 z18 z1a   -- for this text's walks alone
set_option linter.unusedVariables false
set_option linter.unusedSimpArgs false
def zX.f (k : Nat) (l0 : List (S87)) : Option (Int):=(zu.f k 7 9223372036854775807 l0).bind fun bt101=>(if bt101.2 = 0 then (if 0 ≤ (wrap64 ((bt101.1.length : Int) - 1)) then (if (wrap64 ((bt101.1.length : Int) - 1)) < (bt101.1.length : Int) then (some (rd bt101.1 (wrap64 ((bt101.1.length : Int) - 1)))) else (none)) else (none)) else (some (-1)))
theorem zX.mono : ∀ a0 k,LeO (zX.f k a0) (zX.f (k + 1) a0):=by
 intro a0 k
 unfold zX.f
 repeat' first
  | (with_reducible exact zu.mono _ _ _ _)
  | (with_reducible exact LeO.refl _)
  | (with_reducible exact LeO.none _)
  | (with_reducible refine LeO.ite ?_ ?_)
  | (with_reducible refine LeO.bind ?_ (fun _=>?_))
  | exact zu.mono _ _ _ _
  | exact LeO.none _
  | refine LeO.ite ?_ ?_
  | refine LeO.bind ?_ (fun _=>?_)
set_option maxHeartbeats 8000000 in
set_option maxRecDepth 100000 in
theorem zX.calls (k : Nat) (A0 : Option Addr) (c0 : Nat) (l0 : List (S87)) (r : Int) (w : World) (hr0 : Kd.C k87 w A0 l0.length l0) (hc0 : l0.length ≤ c0) (h : zX.f k l0 = some r) :
 Calls Try.prog 57 #[.slice A0 l0.length c0] w fun e w'=>e = .returned (.int .i64 r) ∧ Below w.heap.size w w':=by
 have HR0:=z7.mk hr0
 have HC0:=z7.mk hc0
 clear hr0 hc0
 have HB:=z7.mk (Below.refl w.heap.size w)
 have H : ((zu.f k 7 9223372036854775807 l0).bind fun bt101=>(if bt101.2 = 0 then (if 0 ≤ (wrap64 ((bt101.1.length : Int) - 1)) then (if (wrap64 ((bt101.1.length : Int) - 1)) < (bt101.1.length : Int) then (some (rd bt101.1 (wrap64 ((bt101.1.length : Int) - 1)))) else (none)) else (none)) else (some (-1)))) = some r:=h
 clear h
 replace H:=Option.bind_eq_some_iff.mp H
 obtain ⟨⟨t101,t102⟩,A20,H⟩:=H
 replace H : (if t102 = 0 then (if 0 ≤ (wrap64 ((t101.length : Int) - 1)) then (if (wrap64 ((t101.length : Int) - 1)) < (t101.length : Int) then (some (rd t101 (wrap64 ((t101.length : Int) - 1)))) else (none)) else (none)) else (some (-1))) = some r:=H
 have A2:=z7.mk A20
 clear A20
 by_cases c3 : t102 = 0
 rotate_left
 · rw [if_neg c3] at H
   have c3b0 : (t102 == 0) = false:=beq_eq_false_iff_ne.mpr c3
   have c3b1 : (t102 != 0) = true:=bne_iff_ne.mpr c3
   obtain rfl:=Option.some.inj H
   go_enter Try.func57,Try.ntmps57
   go_wp2_with (first|((with_reducible refine zB (f:=88) rfl ?_);refine goesL_ (some 7) rfl rfl Try.func88 (by kernel_rfl) rfl #[.int .i64 7,.int .i64 9223372036854775807,.slice A0 l0.length c0] rfl (by (try simp only [List.map_toArray,List.map_cons,List.map_nil]);first|done|rfl|(simp only [List.length_drop,List.length_take];rfl)) ?_;(with_reducible refine (zu.calls k 7 9223372036854775807 _ _ l0 t101 t102 _ ?side1 ?side2 A2.out).mono ?_);(case side1=>repeat (first|exact HR0.out|(with_reducible refine Kd.z1o ?_ _)|(with_reducible refine Kd.z1p ?_ _)|(with_reducible refine Kd.z1w ?_)));(case side2=>exact HC0.out);rintro e w9 ⟨v103,rfl,ho0,hb⟩;refine ⟨_,rfl,?_⟩;have n0_:=z7.mk (Kd.z1A ho0 (zf (by repeat (first|(with_reducible first|exact HB.out|apply z4|apply z0|apply z3)|exact HB.out))));have n1_:=z7.mk (zg (by repeat (first|(with_reducible first|exact HB.out|apply z4|apply z0|apply z3)|exact HB.out)) hb);clear HB;have HO104:=n0_;have HB:=n1_;clear n0_ n1_;(try clear hb);(try clear hb2);(try clear hk);(try clear hi);(try clear ho0)))
   go_ret
   exact ⟨by first|rfl|(simp [zl,zm] <;> rfl)|(simp [*,zl,zm] <;> rfl),by repeat (first|(with_reducible first|exact HB.out|apply z4|apply z0|apply z3)|exact HB.out)⟩
 rw [if_pos c3] at H
 have c3b0 : (t102 == 0) = true:=beq_iff_eq.mpr c3
 have c3b1 : (t102 != 0) = false:=bne_eq_false_iff_eq.mpr c3
 clear c3
 obtain ⟨ji4,hji4⟩ : ∃ j_ : Int,(wrap64 ((t101.length : Int) - 1)) = j_:=⟨_,rfl⟩
 replace H : (if 0 ≤ (ji4) then (if (ji4) < (t101.length : Int) then (some (rd t101 (ji4))) else (none)) else (none)) = some r:=by first|(rw [hji4] at H;exact H)|(simp only [hji4] at H ⊢;exact H)
 (try rw [hji4] at A2)
 have hji4w : (IntKind.i64.wrap ((t101.length : Int) - 1)) = ji4:=(zH _).trans hji4
 by_cases c5 : 0 ≤ (ji4)
 rotate_left
 · rw [if_neg c5] at H
   exact absurd H (by simp)
 rw [if_pos c5] at H
 have c5b0 : decide (0 ≤ (ji4)) = true:=decide_eq_true c5
 clear c5
 by_cases c6 : (ji4) < (t101.length : Int)
 rotate_left
 · rw [if_neg c6] at H
   exact absurd H (by simp)
 rw [if_pos c6] at H
 have c6b0 : decide ((ji4) < (t101.length : Int)) = true:=decide_eq_true c6
 clear c6
 obtain rfl:=Option.some.inj H
 go_enter Try.func57,Try.ntmps57
 go_wp2_with (first|((with_reducible refine zB (f:=88) rfl ?_);refine goesL_ (some 7) rfl rfl Try.func88 (by kernel_rfl) rfl #[.int .i64 7,.int .i64 9223372036854775807,.slice A0 l0.length c0] rfl (by (try simp only [List.map_toArray,List.map_cons,List.map_nil]);first|done|rfl|(simp only [List.length_drop,List.length_take];rfl)) ?_;(with_reducible refine (zu.calls k 7 9223372036854775807 _ _ l0 t101 t102 _ ?side1 ?side2 A2.out).mono ?_);(case side1=>repeat (first|exact HR0.out|(with_reducible refine Kd.z1o ?_ _)|(with_reducible refine Kd.z1p ?_ _)|(with_reducible refine Kd.z1w ?_)));(case side2=>exact HC0.out);rintro e w7 ⟨v103,rfl,ho0,hb⟩;refine ⟨_,rfl,?_⟩;have n0_:=z7.mk (Kd.z1A ho0 (zf (by repeat (first|(with_reducible first|exact HB.out|apply z4|apply z0|apply z3)|exact HB.out))));have n1_:=z7.mk (zg (by repeat (first|(with_reducible first|exact HB.out|apply z4|apply z0|apply z3)|exact HB.out)) hb);clear HB;have HO104:=n0_;have HB:=n1_;clear n0_ n1_;(try clear hb);(try clear hb2);(try clear hk);(try clear hi);(try clear ho0);obtain ⟨Ao8,co8,eo8⟩:=Kd.z1q HO104.out;subst eo8;have p105 : 0 ≤ ((ji4) : Int):=of_decide_eq_true (by first|(with_reducible assumption)|assumption);have q105 : (ji4) < (t101.length : Int):=of_decide_eq_true (by first|(with_reducible assumption)|assumption);obtain ⟨ad105,e105,hx105_0⟩:=Kd.z1x (Kd.zO HO104.out).2.2 (ji4) p105 q105;cases e105;replace p105:=eq_true p105;replace q105:=eq_true q105))
 go_ret
 exact ⟨by first|rfl|(simp [zl,zm] <;> rfl)|(simp only [← hji4];first|rfl|(simp [zl,zm] <;> rfl))|(simp [*,zl,zm] <;> rfl),by repeat (first|(with_reducible first|exact HB.out|apply z4|apply z0|apply z3)|exact HB.out)⟩
end Go.Proofs.Ytngcaphdkgihmaa.P
namespace Go.Proofs.Ytngcaphdkgihmaa.P
open Go.RowKit Go.Proofs.YtngcaphdkgihmaaW.PrintWords Go.Proofs.YtngcaphdkgihmaaW.PrintLast Go.Proofs.YtngcaphdkgihmaaW.PrintMore
attribute [local go_sem] z17 z19 z1e z1f z12 z13 z18 z1a   -- for this text's walks alone
set_option linter.unusedVariables false
set_option linter.unusedSimpArgs false
def z25.f (a0_0 : Int) (a0_1 : Int) (a1_0 : Int) (a1_1 : Int) : Option (Int × Int):=some (Go.bits .xor .u64 a0_0 a1_0,Go.bits .xor .u64 a0_1 a1_1)
set_option maxHeartbeats 8000000 in
set_option maxRecDepth 100000 in
theorem z25.calls (a0_0 : Int) (a0_1 : Int) (a1_0 : Int) (a1_1 : Int) (r1 : Int) (r2 : Int) (w : World) (h : z25.f a0_0 a0_1 a1_0 a1_1 = some (r1,r2)) :
 Calls Try.prog 40 #[.agg #[.int .u64 a0_0,.int .u64 a0_1],.agg #[.int .u64 a1_0,.int .u64 a1_1]] w fun e w'=>e = .returned (.agg #[.int .u64 r1,.int .u64 r2]) ∧ Below w.heap.size w w':=by
 have hu51:=Try.underlying51
 have HB:=z7.mk (Below.refl w.heap.size w)
 have H : (some (Go.bits .xor .u64 a0_0 a1_0,Go.bits .xor .u64 a0_1 a1_1)) = some (r1,r2):=h
 clear h
 simp only [Option.some.injEq,Prod.mk.injEq] at H
 obtain ⟨rfl,rfl⟩:=H
 go_enter Try.func40,Try.ntmps40
 go_wp2_with (first|((with_reducible refine zG (N:=2) rfl ?_);refine zE ?hg (N:=2) ?hd (cs:=#[.int .u64 a0_0,.int .u64 a0_1]) (t:=51) ?hr ?_;(case hd=>rfl);(case hg=>rfl);(case hr=>first|(go_simp;done)|(go_simp;rfl));intro gb101 hg w3 hbox hb;have n0_:=z7.mk (zg (by repeat (first|(with_reducible first|exact HB.out|apply z4|apply z0|apply z3)|exact HB.out)) hb);have n1_:=z7.mk (hbox);have n2_:=z7.mk ((by rw [hg];exact (zf (by repeat (first|(with_reducible first|exact HB.out|apply z4|apply z0|apply z3)|exact HB.out))) : w.heap.size ≤ gb101));have n3_:=z7.mk ((by rw [hg];exact (zf (by repeat (first|(with_reducible first|exact HB.out|apply z4|apply z0|apply z3)|exact HB.out))) : w.heap.size ≤ gb101));clear HB;have HB:=n0_;have BK101:=n1_;have GW101:=n2_;have GE101:=n3_;clear n0_ n1_ n2_ n3_;clear hb hbox hg)|((with_reducible refine zG (N:=3) rfl ?_);refine zE ?hg (N:=3) ?hd (cs:=#[.int .u64 a1_0,.int .u64 a1_1]) (t:=51) ?hr ?_;(case hd=>rfl);(case hg=>rfl);(case hr=>first|(go_simp;done)|(go_simp;rfl));intro gb102 hg w4 hbox hb;have n0_:=z7.mk (zk (g:=gb101) (o:=.cells #[.int .u64 a0_0,.int .u64 a0_1] 51 (0,0)) (by (with_reducible repeat (first|refine z2 ?_ _|refine z5 ?_|refine z1 ?_ _));exact BK101.out) hb);have n1_:=z7.mk (zg (by repeat (first|(with_reducible first|exact HB.out|apply z4|apply z0|apply z3|refine z9 ?_ GE101.out)|exact HB.out)) hb);have n2_:=z7.mk (hbox);have n3_:=z7.mk ((by rw [hg];exact (zf (by repeat (first|(with_reducible first|exact HB.out|apply z4|apply z0|apply z3|refine z9 ?_ GE101.out)|exact HB.out))) : w.heap.size ≤ gb102));have n4_:=z7.mk ((by rw [hg];exact (zf (by repeat (first|(with_reducible first|exact HB.out|apply z4|apply z0|apply z3|refine z9 ?_ GE101.out)|exact HB.out))) : w.heap.size ≤ gb102));have n5_:=z7.mk ((by rw [hg];exact Nat.ne_of_lt (zP (g:=gb101) (o:=.cells #[.int .u64 a0_0,.int .u64 a0_1] 51 (0,0)) (by (with_reducible repeat (first|refine z2 ?_ _|refine z5 ?_|refine z1 ?_ _));exact BK101.out)) : gb101 ≠ gb102));have n6_:=z7.mk ((by rw [hg];exact Nat.ne_of_gt (zP (g:=gb101) (o:=.cells #[.int .u64 a0_0,.int .u64 a0_1] 51 (0,0)) (by (with_reducible repeat (first|refine z2 ?_ _|refine z5 ?_|refine z1 ?_ _));exact BK101.out)) : gb102 ≠ gb101));clear BK101;clear HB;have BK101:=n0_;have HB:=n1_;have BK102:=n2_;have GW102:=n3_;have GE102:=n4_;have NB101_102:=n5_;have NB102_101:=n6_;clear n0_ n1_ n2_ n3_ n4_ n5_ n6_;clear hb hbox hg)|((with_reducible refine zG (N:=4) rfl ?_);refine zE ?hg (N:=4) ?hd (cs:=#[.int .u64 0,.int .u64 0]) (t:=51) ?hr ?_;(case hd=>rfl);(case hg=>rfl);(case hr=>first|(go_simp;done)|(go_simp;rfl));intro gb103 hg w5 hbox hb;have n0_:=z7.mk (zk (g:=gb101) (o:=.cells #[.int .u64 a0_0,.int .u64 a0_1] 51 (0,0)) (by (with_reducible repeat (first|refine z2 ?_ _|refine z5 ?_|refine z1 ?_ _));exact BK101.out) hb);have n1_:=z7.mk (zk (g:=gb102) (o:=.cells #[.int .u64 a1_0,.int .u64 a1_1] 51 (0,0)) (by (with_reducible repeat (first|refine z2 ?_ _|refine z5 ?_|refine z1 ?_ _));exact BK102.out) hb);have n2_:=z7.mk (zg (by repeat (first|(with_reducible first|exact HB.out|apply z4|apply z0|apply z3|refine z9 ?_ GE101.out|refine z9 ?_ GE102.out)|exact HB.out)) hb);have n3_:=z7.mk (hbox);have n4_:=z7.mk ((by rw [hg];exact (zf (by repeat (first|(with_reducible first|exact HB.out|apply z4|apply z0|apply z3|refine z9 ?_ GE101.out|refine z9 ?_ GE102.out)|exact HB.out))) : w.heap.size ≤ gb103));have n5_:=z7.mk ((by rw [hg];exact (zf (by repeat (first|(with_reducible first|exact HB.out|apply z4|apply z0|apply z3|refine z9 ?_ GE101.out|refine z9 ?_ GE102.out)|exact HB.out))) : w.heap.size ≤ gb103));have n6_:=z7.mk ((by rw [hg];exact Nat.ne_of_lt (zP (g:=gb101) (o:=.cells #[.int .u64 a0_0,.int .u64 a0_1] 51 (0,0)) (by (with_reducible repeat (first|refine z2 ?_ _|refine z5 ?_|refine z1 ?_ _));exact BK101.out)) : gb101 ≠ gb103));have n7_:=z7.mk ((by rw [hg];exact Nat.ne_of_gt (zP (g:=gb101) (o:=.cells #[.int .u64 a0_0,.int .u64 a0_1] 51 (0,0)) (by (with_reducible repeat (first|refine z2 ?_ _|refine z5 ?_|refine z1 ?_ _));exact BK101.out)) : gb103 ≠ gb101));have n8_:=z7.mk ((by rw [hg];exact Nat.ne_of_lt (zP (g:=gb102) (o:=.cells #[.int .u64 a1_0,.int .u64 a1_1] 51 (0,0)) (by (with_reducible repeat (first|refine z2 ?_ _|refine z5 ?_|refine z1 ?_ _));exact BK102.out)) : gb102 ≠ gb103));have n9_:=z7.mk ((by rw [hg];exact Nat.ne_of_gt (zP (g:=gb102) (o:=.cells #[.int .u64 a1_0,.int .u64 a1_1] 51 (0,0)) (by (with_reducible repeat (first|refine z2 ?_ _|refine z5 ?_|refine z1 ?_ _));exact BK102.out)) : gb103 ≠ gb102));clear BK101;clear BK102;clear HB;have BK101:=n0_;have BK102:=n1_;have HB:=n2_;have BK103:=n3_;have GW103:=n4_;have GE103:=n5_;have NB101_103:=n6_;have NB103_101:=n7_;have NB102_103:=n8_;have NB103_102:=n9_;clear n0_ n1_ n2_ n3_ n4_ n5_ n6_ n7_ n8_ n9_;clear hb hbox hg;have hnb6:=NB101_102.out;have hnc6:=NB102_101.out;have hnb7:=NB101_103.out;have hnc7:=NB103_101.out;have hcz8_0 : w5.cell? ⟨gb101,0,none⟩ = some (.int .u64 a0_0):=(zb BK101.out 0).trans rfl;have hcz8_1 : w5.cell? ⟨gb101,1,none⟩ = some (.int .u64 a0_1):=(zb BK101.out 1).trans rfl;have hfz8_0:=z8 BK101.out 0;have hfz8_1:=z8 BK101.out 1;have hnb9:=NB102_103.out;have hnc9:=NB103_102.out;have hcz10_0 : w5.cell? ⟨gb102,0,none⟩ = some (.int .u64 a1_0):=(zb BK102.out 0).trans rfl;have hcz10_1 : w5.cell? ⟨gb102,1,none⟩ = some (.int .u64 a1_1):=(zb BK102.out 1).trans rfl;have hfz10_0:=z8 BK102.out 0;have hfz10_1:=z8 BK102.out 1;have hcz11_0 : w5.cell? ⟨gb103,0,none⟩ = some (.int .u64 0):=(zb BK103.out 0).trans rfl;have hcz11_1 : w5.cell? ⟨gb103,1,none⟩ = some (.int .u64 0):=(zb BK103.out 1).trans rfl;have hfz11_0:=z8 BK103.out 0;have hfz11_1:=z8 BK103.out 1))
 refine bodyPost_ret (results_cell_row rfl _ _ gb103 51 #[.int .u64 (Go.bits .xor .u64 a0_0 a1_0),.int .u64 (Go.bits .xor .u64 a0_1 a1_1)] (0,0) _ rfl (by (with_reducible repeat (first|refine z2 ?_ _|refine z5 ?_|refine z1 ?_ _));refine zq (cs:=#[.int .u64 (Go.bits .xor .u64 a0_0 a1_0),.int .u64 0]) ?_ 1 _ rfl;(with_reducible repeat (first|refine z2 ?_ _|refine z5 ?_|refine z1 ?_ _));refine zq (cs:=#[.int .u64 0,.int .u64 0]) ?_ 0 _ rfl;(with_reducible repeat (first|refine z2 ?_ _|refine z5 ?_|refine z1 ?_ _));exact BK103.out) Try.underlying51 rfl (by kernel_rfl)) rfl ?_
 exact ⟨by first|rfl|(simp [zl,zm] <;> rfl)|(simp [*,zl,zm] <;> rfl),by repeat (first|(with_reducible first|exact HB.out|apply z4|apply z0|apply z3|refine z9 ?_ GE101.out|refine z9 ?_ GE102.out|refine z9 ?_ GE103.out)|exact HB.out)⟩
end Go.Proofs.Ytngcaphdkgihmaa.P
namespace Go.Proofs.Ytngcaphdkgihmaa.P
open Go.RowKit Go.Proofs.YtngcaphdkgihmaaW.PrintWords Go.Proofs.YtngcaphdkgihmaaW.PrintLast Go.Proofs.YtngcaphdkgihmaaW.PrintMore
attribute [local go_sem] z17 z19 z1e z1f z12 z13 z18 z1a   -- for this text's walks alone
set_option linter.unusedVariables false
set_option linter.unusedSimpArgs false
def z1k.f (a0 : Int) (a1 : Int) : Option (Int × Int):=if 0 ≤ (wrap64 (a0 - 1)) then (if 0 ≤ (shl .i64 1 (wrap64 (a0 - 1))) then (some (shr .u64 a1 (shl .i64 1 (wrap64 (a0 - 1))),Go.bits .and .u64 a1 (IntKind.u64.wrap ((shl .u64 1 (shl .i64 1 (wrap64 (a0 - 1)))) - 1)))) else (none)) else (none)
set_option maxHeartbeats 8000000 in
set_option maxRecDepth 100000 in
theorem z1k.calls (a0 : Int) (a1 : Int) (r1 : Int) (r2 : Int) (w : World) (h : z1k.f a0 a1 = some (r1,r2)) :
 Calls Try.prog 96 #[.int .i64 a0,.int .u64 a1] w fun e w'=>e = .returned (.tuple #[.int .u64 r1,.int .u64 r2]) ∧ Drawn0 w w':=by
 have H : (if 0 ≤ (wrap64 (a0 - 1)) then (if 0 ≤ (shl .i64 1 (wrap64 (a0 - 1))) then (some (shr .u64 a1 (shl .i64 1 (wrap64 (a0 - 1))),Go.bits .and .u64 a1 (IntKind.u64.wrap ((shl .u64 1 (shl .i64 1 (wrap64 (a0 - 1)))) - 1)))) else (none)) else (none)) = some (r1,r2):=h
 clear h
 obtain ⟨ji3,hji3⟩ : ∃ j_ : Int,(wrap64 (a0 - 1)) = j_:=⟨_,rfl⟩
 replace H : (if 0 ≤ (ji3) then (if 0 ≤ (shl .i64 1 (ji3)) then (some (shr .u64 a1 (shl .i64 1 (ji3)),Go.bits .and .u64 a1 (IntKind.u64.wrap ((shl .u64 1 (shl .i64 1 (ji3))) - 1)))) else (none)) else (none)) = some (r1,r2):=by first|(rw [hji3] at H;exact H)|(simp only [hji3] at H ⊢;exact H)
 have hji3w : (IntKind.i64.wrap (a0 - 1)) = ji3:=(zH _).trans hji3
 by_cases c4 : 0 ≤ (ji3)
 rotate_left
 · rw [if_neg c4] at H
   exact absurd H (by simp)
 rw [if_pos c4] at H
 have c4b0:=eq_true c4
 have c4b1 : decide (0 ≤ (ji3)) = true:=decide_eq_true c4
 clear c4
 obtain ⟨ji5,hji5⟩ : ∃ j_ : Int,(shl .i64 1 (ji3)) = j_:=⟨_,rfl⟩
 replace H : (if 0 ≤ (ji5) then (some (shr .u64 a1 (ji5),Go.bits .and .u64 a1 (IntKind.u64.wrap ((shl .u64 1 (ji5)) - 1)))) else (none)) = some (r1,r2):=by first|(rw [hji5] at H;exact H)|(simp only [hji5] at H ⊢;exact H)
 have hji5_ : (IntKind.i64.wrap (1 * 2 ^ min (ji3).toNat 64)) = ji5:=hji5
 have hji5z : (ji3) ≤ 64 → (IntKind.i64.wrap (1 * 2 ^ (ji3).toNat)) = ji5:=z1D hji5
 have hji5u : (IntKind.i64.wrap (2 ^ min (ji3).toNat 64)) = ji5:=by have h_:=hji5_;rw [Int.one_mul] at h_;exact h_
 have hji5v : (ji3) ≤ 64 → (IntKind.i64.wrap (2 ^ (ji3).toNat)) = ji5:=fun hle_=>by have h_:=hji5z hle_;rw [Int.one_mul] at h_;exact h_
 have hji5y : (wrap64 (1 * 2 ^ min (ji3).toNat 64)) = ji5:=(zH _).symm.trans hji5_
 have hji5x : (ji3) ≤ 64 → (wrap64 (1 * 2 ^ (ji3).toNat)) = ji5:=fun h_=>(zH _).symm.trans (hji5z h_)
 by_cases c6 : 0 ≤ (ji5)
 rotate_left
 · rw [if_neg c6] at H
   exact absurd H (by simp)
 rw [if_pos c6] at H
 have c6b0:=eq_true c6
 have c6b1 : decide (0 ≤ (ji5)) = true:=decide_eq_true c6
 clear c6
 obtain ⟨ji7,hji7⟩ : ∃ j_ : Int,(shr .u64 a1 (ji5)) = j_:=⟨_,rfl⟩
 replace H : (some (ji7,Go.bits .and .u64 a1 (IntKind.u64.wrap ((shl .u64 1 (ji5)) - 1)))) = some (r1,r2):=by first|(rw [hji7] at H;exact H)|(simp only [hji7] at H ⊢;exact H)
 have hji7_ : (a1 / 2 ^ min (ji5).toNat 64) = ji7:=hji7
 have hji7z : (ji5) ≤ 64 → (a1 / 2 ^ (ji5).toNat) = ji7:=z24 hji7
 have c8b0:=eq_true (of_decide_eq_true (by first|(with_reducible assumption)|assumption) : 0 ≤ (ji5))
 obtain ⟨ji9,hji9⟩ : ∃ j_ : Int,(shl .u64 1 (ji5)) = j_:=⟨_,rfl⟩
 replace H : (some (ji7,Go.bits .and .u64 a1 (IntKind.u64.wrap ((ji9) - 1)))) = some (r1,r2):=by first|(rw [hji9] at H;exact H)|(simp only [hji9] at H ⊢;exact H)
 have hji9_ : (IntKind.u64.wrap (1 * 2 ^ min (ji5).toNat 64)) = ji9:=hji9
 have hji9z : (ji5) ≤ 64 → (IntKind.u64.wrap (1 * 2 ^ (ji5).toNat)) = ji9:=z1D hji9
 have hji9n0 : 0 ≤ ji9:=by rw [← hji9];exact Int.emod_nonneg _ (by decide)
 have hji9n1 : decide (0 ≤ ji9) = true:=decide_eq_true hji9n0
 replace hji9n0:=eq_true hji9n0
 have hji9u : (IntKind.u64.wrap (2 ^ min (ji5).toNat 64)) = ji9:=by have h_:=hji9_;rw [Int.one_mul] at h_;exact h_
 have hji9v : (ji5) ≤ 64 → (IntKind.u64.wrap (2 ^ (ji5).toNat)) = ji9:=fun hle_=>by have h_:=hji9z hle_;rw [Int.one_mul] at h_;exact h_
 simp only [Option.some.injEq,Prod.mk.injEq] at H
 obtain ⟨rfl,rfl⟩:=H
 go_enter Try.func96,Try.ntmps96
 go_wp2
 repeat (go_quiet (fail);try go_wp2)
 go_ret2
 exact ⟨by first|rfl|(simp;done)|(simp only [← hji3,← hji5,← hji7,← hji9] <;> (first|rfl|simp))|(simp [*];done),by repeat (first|exact Drawn0.refl _|apply Drawn0.step)⟩
end Go.Proofs.Ytngcaphdkgihmaa.P
namespace Go.Proofs.Ytngcaphdkgihmaa.P
open Go.RowKit Go.Proofs.YtngcaphdkgihmaaW.PrintWords Go.Proofs.YtngcaphdkgihmaaW.PrintLast Go.Proofs.YtngcaphdkgihmaaW.PrintMore
attribute [local go_sem] z17 z19 z1e z1f z12 z13 z18 z1a   -- for this text's walks alone
set_option linter.unusedVariables false
set_option linter.unusedSimpArgs false
def z1l.f (a0 : Int) (a1 : Int) (a2 : Int) : Option (Int):=if 0 ≤ (wrap64 (a0 - 1)) then (some (Go.bits .or .u64 (shl .u64 a1 (shl .u64 1 (wrap64 (a0 - 1)))) a2)) else (none)
set_option maxHeartbeats 8000000 in
set_option maxRecDepth 100000 in
theorem z1l.calls (a0 : Int) (a1 : Int) (a2 : Int) (r : Int) (w : World) (h : z1l.f a0 a1 a2 = some r) :
 Calls Try.prog 97 #[.int .i64 a0,.int .u64 a1,.int .u64 a2] w fun e w'=>e = .returned (.int .u64 r) ∧ Drawn0 w w':=by
 have H : (if 0 ≤ (wrap64 (a0 - 1)) then (some (Go.bits .or .u64 (shl .u64 a1 (shl .u64 1 (wrap64 (a0 - 1)))) a2)) else (none)) = some r:=h
 clear h
 obtain ⟨ji4,hji4⟩ : ∃ j_ : Int,(wrap64 (a0 - 1)) = j_:=⟨_,rfl⟩
 replace H : (if 0 ≤ (ji4) then (some (Go.bits .or .u64 (shl .u64 a1 (shl .u64 1 (ji4))) a2)) else (none)) = some r:=by first|(rw [hji4] at H;exact H)|(simp only [hji4] at H ⊢;exact H)
 have hji4w : (IntKind.i64.wrap (a0 - 1)) = ji4:=(zH _).trans hji4
 by_cases c5 : 0 ≤ (ji4)
 rotate_left
 · rw [if_neg c5] at H
   exact absurd H (by simp)
 rw [if_pos c5] at H
 have c5b0:=eq_true c5
 have c5b1 : decide (0 ≤ (ji4)) = true:=decide_eq_true c5
 clear c5
 obtain ⟨ji6,hji6⟩ : ∃ j_ : Int,(shl .u64 1 (ji4)) = j_:=⟨_,rfl⟩
 replace H : (some (Go.bits .or .u64 (shl .u64 a1 (ji6)) a2)) = some r:=by first|(rw [hji6] at H;exact H)|(simp only [hji6] at H ⊢;exact H)
 have hji6_ : (IntKind.u64.wrap (1 * 2 ^ min (ji4).toNat 64)) = ji6:=hji6
 have hji6z : (ji4) ≤ 64 → (IntKind.u64.wrap (1 * 2 ^ (ji4).toNat)) = ji6:=z1D hji6
 have hji6n0 : 0 ≤ ji6:=by rw [← hji6];exact Int.emod_nonneg _ (by decide)
 have hji6n1 : decide (0 ≤ ji6) = true:=decide_eq_true hji6n0
 replace hji6n0:=eq_true hji6n0
 have hji6u : (IntKind.u64.wrap (2 ^ min (ji4).toNat 64)) = ji6:=by have h_:=hji6_;rw [Int.one_mul] at h_;exact h_
 have hji6v : (ji4) ≤ 64 → (IntKind.u64.wrap (2 ^ (ji4).toNat)) = ji6:=fun hle_=>by have h_:=hji6z hle_;rw [Int.one_mul] at h_;exact h_
 obtain ⟨ji7,hji7⟩ : ∃ j_ : Int,(shl .u64 a1 (ji6)) = j_:=⟨_,rfl⟩
 replace H : (some (Go.bits .or .u64 (ji7) a2)) = some r:=by first|(rw [hji7] at H;exact H)|(simp only [hji7] at H ⊢;exact H)
 have hji7_ : (IntKind.u64.wrap (a1 * 2 ^ min (ji6).toNat 64)) = ji7:=hji7
 have hji7z : (ji6) ≤ 64 → (IntKind.u64.wrap (a1 * 2 ^ (ji6).toNat)) = ji7:=z1D hji7
 have hji7n0 : 0 ≤ ji7:=by rw [← hji7];exact Int.emod_nonneg _ (by decide)
 have hji7n1 : decide (0 ≤ ji7) = true:=decide_eq_true hji7n0
 replace hji7n0:=eq_true hji7n0
 obtain rfl:=Option.some.inj H
 go_enter Try.func97,Try.ntmps97
 go_wp2
 go_ret
 exact ⟨by first|rfl|(simp;done)|(simp only [← hji4,← hji6,← hji7] <;> (first|rfl|simp))|(simp [*];done),by repeat (first|exact Drawn0.refl _|apply Drawn0.step)⟩
end Go.Proofs.Ytngcaphdkgihmaa.P
namespace Go.Proofs.Ytngcaphdkgihmaa.P
open Go.RowKit Go.Proofs.YtngcaphdkgihmaaW.PrintWords Go.Proofs.YtngcaphdkgihmaaW.PrintLast Go.Proofs.YtngcaphdkgihmaaW.PrintMore
attribute [local go_sem] z17 z19 z1e z1f z12 z13 z18 z1a   -- for this text's walks alone
set_option linter.unusedVariables false
set_option linter.unusedSimpArgs false
def zQ.f : Nat → Int → Int → Option (Int)
 | 0,_,_=>none
 | k + 1,a0,a1=>if a0 = 0 then (some a1) else ((z1k.f a0 a1).bind fun bt101=>((zQ.f k (wrap64 (a0 - 1)) bt101.1).bind fun t103=>((z1l.f a0 (Go.bits .xor .u64 bt101.2 t103) bt101.1).bind fun t104=>(some t104))))
theorem zQ.z1b : ∀ k,(∀ y0 y1,LeO (zQ.f k y0 y1) (zQ.f (k + 1) y0 y1))
 | 0=>fun _ _ r h=>by simp [zQ.f] at h
 | k + 1=>by
  have ih0:=zQ.z1b k
  · intro y0 y1
    unfold zQ.f
    repeat' first
    | (with_reducible exact ih0 _ _)
    | (with_reducible exact LeO.refl _)
    | (with_reducible exact LeO.none _)
    | (with_reducible refine LeO.ite ?_ ?_)
    | (with_reducible refine LeO.bind ?_ (fun _=>?_))
    | exact ih0 _ _
    | exact LeO.none _
    | refine LeO.ite ?_ ?_
    | refine LeO.bind ?_ (fun _=>?_)
theorem zQ.mono : ∀ a0 a1 k,LeO (zQ.f k a0 a1) (zQ.f (k + 1) a0 a1):=by
 intro a0 a1 k
 have ih0:=zQ.z1b k
 exact ih0 a0 a1
set_option maxHeartbeats 8000000 in
set_option maxRecDepth 100000 in
theorem zQ.calls (k : Nat) : ∀ (a0 : Int) (a1 : Int) (r : Int) (w : World) (h : zQ.f k a0 a1 = some r),
 Calls Try.prog 83 #[.int .i64 a0,.int .u64 a1] w fun e w'=>e = .returned (.int .u64 r) ∧ Drawn0 w w':=by
 induction k using Nat.strongRecOn with
 | _ k ih =>
 intro a0 a1 r w h
 cases k with
 | zero=>exact absurd h (by simp [zQ.f])
 | succ k =>
 simp only [zQ.f] at h
 have H : (if a0 = 0 then (some a1) else ((z1k.f a0 a1).bind fun bt101=>((zQ.f k (wrap64 (a0 - 1)) bt101.1).bind fun t103=>((z1l.f a0 (Go.bits .xor .u64 bt101.2 t103) bt101.1).bind fun t104=>(some t104))))) = some r:=h
 clear h
 by_cases c3 : a0 = 0
 · rw [if_pos c3] at H
   have c3b0 : (a0 == 0) = true:=beq_iff_eq.mpr c3
   have c3b1 : (a0 != 0) = false:=bne_eq_false_iff_eq.mpr c3
   clear c3
   obtain rfl:=Option.some.inj H
   go_enter Try.func83,Try.ntmps83
   go_wp2
   go_ret
   exact ⟨by first|rfl|(simp;done)|(simp [*];done),by repeat (first|exact Drawn0.refl _|apply Drawn0.step)⟩
 rw [if_neg c3] at H
 have c3b0 : (a0 == 0) = false:=beq_eq_false_iff_ne.mpr c3
 have c3b1 : (a0 != 0) = true:=bne_iff_ne.mpr c3
 replace H:=Option.bind_eq_some_iff.mp H
 obtain ⟨⟨t101,t102⟩,A40,H⟩:=H
 replace H : ((zQ.f k (wrap64 (a0 - 1)) t101).bind fun t103=>((z1l.f a0 (Go.bits .xor .u64 t102 t103) t101).bind fun t104=>(some t104))) = some r:=H
 have A4:=z7.mk A40
 clear A40
 replace H:=Option.bind_eq_some_iff.mp H
 obtain ⟨t103,A50,H⟩:=H
 replace H : ((z1l.f a0 (Go.bits .xor .u64 t102 t103) t101).bind fun t104=>(some t104)) = some r:=H
 have A5:=z7.mk A50
 clear A50
 replace H:=Option.bind_eq_some_iff.mp H
 obtain ⟨t104,A60,H⟩:=H
 replace H : (some t104) = some r:=H
 have A6:=z7.mk A60
 clear A60
 obtain rfl:=Option.some.inj H
 go_enter Try.func83,Try.ntmps83
 go_wp2_with (first|((with_reducible refine zB (f:=96) rfl ?_);refine goesL_ (some 13) rfl rfl Try.func96 (by kernel_rfl) rfl #[.int .i64 a0,.int .u64 a1] rfl (by (try simp only [List.map_toArray,List.map_cons,List.map_nil]);first|done|rfl|(simp only [List.length_drop,List.length_take];rfl)) ?_;(with_reducible refine (z1k.calls a0 a1 t101 t102 _ A4.out).mono ?_);rintro e w' ⟨rfl,⟨nd,rfl⟩⟩;refine ⟨_,rfl,?_⟩)|((with_reducible refine zB (f:=83) rfl ?_);refine goesL_ (some 21) rfl rfl Try.func83 (by kernel_rfl) rfl #[.int .i64 (wrap64 (a0 - 1)),.int .u64 t101] rfl (by (try simp only [List.map_toArray,List.map_cons,List.map_nil]);first|done|rfl|(simp only [List.length_drop,List.length_take];rfl)) ?_;(with_reducible refine (ih k (by omega) (wrap64 (a0 - 1)) t101 t103 _ A5.out).mono ?_);rintro e w' ⟨rfl,⟨nd,rfl⟩⟩;refine ⟨_,rfl,?_⟩)|((with_reducible refine zB (f:=97) rfl ?_);refine goesL_ (some 24) rfl rfl Try.func97 (by kernel_rfl) rfl #[.int .i64 a0,.int .u64 (Go.bits .xor .u64 t102 t103),.int .u64 t101] rfl (by (try simp only [List.map_toArray,List.map_cons,List.map_nil]);first|done|rfl|(simp only [List.length_drop,List.length_take];rfl)) ?_;(with_reducible refine (z1l.calls a0 (Go.bits .xor .u64 t102 t103) t101 t104 _ A6.out).mono ?_);rintro e w' ⟨rfl,⟨nd,rfl⟩⟩;refine ⟨_,rfl,?_⟩))
 go_ret
 exact ⟨by first|rfl|(simp;done)|(simp [*];done),by repeat (first|exact Drawn0.refl _|apply Drawn0.step)⟩
end Go.Proofs.Ytngcaphdkgihmaa.P
namespace Go.Proofs.Ytngcaphdkgihmaa.P
open Go.RowKit Go.Proofs.YtngcaphdkgihmaaW.PrintWords Go.Proofs.YtngcaphdkgihmaaW.PrintLast Go.Proofs.YtngcaphdkgihmaaW.PrintMore
attribute [local go_sem] z17 z19 z1e z1f z12 z13 z18 z1a   -- for this text's walks alone
set_option linter.unusedVariables false
set_option linter.unusedSimpArgs false
mutual
def zA.j0 : Nat → Int → Int → Int → Bool → Option (Int)
 | 0,_,_,_,_=>none
 | k + 1,x0,x1,x2,x23=>if x23 = true then (some (Go.bits .and .u64 (Go.bits .and .u64 x1 x2) 1)) else ((z1k.f x0 x1).bind fun bt101=>((z1k.f x0 x2).bind fun bt103=>((zA.f k (wrap64 (x0 - 1)) bt101.1 bt103.1).bind fun t105=>((zA.f k (wrap64 (x0 - 1)) bt101.2 bt103.2).bind fun t106=>((zA.f k (wrap64 (x0 - 1)) (Go.bits .xor .u64 bt101.1 bt101.2) (Go.bits .xor .u64 bt103.1 bt103.2)).bind fun t107=>((zQ.f k (wrap64 (x0 - 1)) t105).bind fun t108=>((z1l.f x0 (Go.bits .xor .u64 (Go.bits .xor .u64 (Go.bits .xor .u64 t107 t105) t106) t108) (Go.bits .xor .u64 t106 t105)).bind fun t109=>(some t109))))))))
def zA.f : Nat → Int → Int → Int → Option (Int)
 | 0,_,_,_=>none
 | k + 1,a0,a1,a2=>if a0 = 0 then (zA.j0 k a0 a1 a2 true) else (if a1 = 0 then (zA.j0 k a0 a1 a2 true) else (zA.j0 k a0 a1 a2 (a2 == 0)))
end
theorem zA.z1b : ∀ k,(∀ y0 y1 y2,LeO (zA.f k y0 y1 y2) (zA.f (k + 1) y0 y1 y2)) ∧ (∀ y0 y1 y2 y3,LeO (zA.j0 k y0 y1 y2 y3) (zA.j0 (k + 1) y0 y1 y2 y3))
 | 0=>⟨fun _ _ _ r h=>by simp [zA.f] at h,fun _ _ _ _ r h=>by simp [zA.j0] at h⟩
 | k + 1=>by
  obtain ⟨ih0,ih1⟩:=zA.z1b k
  refine ⟨?_,?_⟩
  · intro y0 y1 y2
    unfold zA.f
    repeat' first
    | (with_reducible exact ih0 _ _ _)
    | (with_reducible exact ih1 _ _ _ _)
    | (with_reducible exact zQ.mono _ _ _)
    | (with_reducible exact LeO.refl _)
    | (with_reducible exact LeO.none _)
    | (with_reducible refine LeO.ite ?_ ?_)
    | (with_reducible refine LeO.bind ?_ (fun _=>?_))
    | exact ih0 _ _ _
    | exact ih1 _ _ _ _
    | exact zQ.mono _ _ _
    | exact LeO.none _
    | refine LeO.ite ?_ ?_
    | refine LeO.bind ?_ (fun _=>?_)
  · intro y0 y1 y2 y3
    unfold zA.j0
    repeat' first
    | (with_reducible exact ih0 _ _ _)
    | (with_reducible exact ih1 _ _ _ _)
    | (with_reducible exact zQ.mono _ _ _)
    | (with_reducible exact LeO.refl _)
    | (with_reducible exact LeO.none _)
    | (with_reducible refine LeO.ite ?_ ?_)
    | (with_reducible refine LeO.bind ?_ (fun _=>?_))
    | exact ih0 _ _ _
    | exact ih1 _ _ _ _
    | exact zQ.mono _ _ _
    | exact LeO.none _
    | refine LeO.ite ?_ ?_
    | refine LeO.bind ?_ (fun _=>?_)
theorem zA.mono : ∀ a0 a1 a2 k,LeO (zA.f k a0 a1 a2) (zA.f (k + 1) a0 a1 a2):=by
 intro a0 a1 a2 k
 obtain ⟨ih0,ih1⟩:=zA.z1b k
 exact ih0 a0 a1 a2
set_option maxHeartbeats 8000000 in
set_option maxRecDepth 100000 in
theorem zA.calls (k : Nat) : ∀ (a0 : Int) (a1 : Int) (a2 : Int) (r : Int) (w : World) (h : zA.f k a0 a1 a2 = some r),
 Calls Try.prog 82 #[.int .i64 a0,.int .u64 a1,.int .u64 a2] w fun e w'=>e = .returned (.int .u64 r) ∧ Drawn0 w w':=by
 induction k using Nat.strongRecOn with
 | _ k ih =>
 intro a0 a1 a2 r w h
 cases k with
 | zero=>exact absurd h (by simp [zA.f])
 | succ k =>
 simp only [zA.f] at h
 have H : (if a0 = 0 then (zA.j0 k a0 a1 a2 true) else (if a1 = 0 then (zA.j0 k a0 a1 a2 true) else (zA.j0 k a0 a1 a2 (a2 == 0)))) = some r:=h
 clear h
 have HC4:=z7.mk H
 clear H
 go_enter Try.func82,Try.ntmps82
 go_upto_region 1 with (fail)
 go_cut [23] (fun v23 wc=>∃ (kq : Nat) (x23_3 : Bool),v23 = .bool x23_3 ∧ z7 (zA.j0 kq a0 a1 a2 x23_3 = some r) ∧ z7 (kq ≤ k) ∧ Drawn0 w wc)
 case first =>
  have H:=HC4.out
  clear HC4
  by_cases c5 : a0 = 0
  · rw [if_pos c5] at H
    have c5b0 : (a0 == 0) = true:=beq_iff_eq.mpr c5
    have c5b1 : (a0 != 0) = false:=bne_eq_false_iff_eq.mpr c5
    clear c5
    (first|rw [c5b0]|(simp only [zH,zL];rw [c5b0])|skip)
    have H':=z7.mk H
    clear H
    go_wp2
    go_meet
    case rel=>exact ⟨_,(true),(by first|rfl|(simp;done)|(simp [*];done)),H',⟨by first|omega|exact Nat.le_refl _⟩,by repeat (first|exact Drawn0.refl _|apply Drawn0.step)⟩
  rw [if_neg c5] at H
  have c5b0 : (a0 == 0) = false:=beq_eq_false_iff_ne.mpr c5
  have c5b1 : (a0 != 0) = true:=bne_iff_ne.mpr c5
  (first|rw [c5b0]|(simp only [zH,zL];rw [c5b0])|skip)
  by_cases c6 : a1 = 0
  rotate_left
  · rw [if_neg c6] at H
    have c6b0 : (a1 == 0) = false:=beq_eq_false_iff_ne.mpr c6
    have c6b1 : (a1 != 0) = true:=bne_iff_ne.mpr c6
    have H':=z7.mk H
    clear H
    go_wp2
    go_meet
    case rel=>exact ⟨_,((a2 == 0)),(by first|rfl|(simp;done)|(simp [*];done)),H',⟨by first|omega|exact Nat.le_refl _⟩,by repeat (first|exact Drawn0.refl _|apply Drawn0.step)⟩
  rw [if_pos c6] at H
  have c6b0 : (a1 == 0) = true:=beq_iff_eq.mpr c6
  have c6b1 : (a1 != 0) = false:=bne_eq_false_iff_eq.mpr c6
  clear c6
  have H':=z7.mk H
  clear H
  go_wp2
  go_meet
  case rel=>exact ⟨_,(true),(by first|rfl|(simp;done)|(simp [*];done)),H',⟨by first|omega|exact Nat.le_refl _⟩,by repeat (first|exact Drawn0.refl _|apply Drawn0.step)⟩
 case rest =>
  clear HC4
  (try clear p2);(try clear c5);(try clear c5b0);(try clear c5b1);(try clear c6);(try clear c6b0);(try clear c6b1)
  obtain ⟨kq,x23_3,rfl,HA,HJ3,⟨mc3,rfl⟩⟩:=hcut
  cases kq with
  | zero=>exact absurd HA.out (by simp [zA.j0])
  | succ kj3 =>
   have H:=HA.out
   clear HA
   simp only [zA.j0] at H
   by_cases c7 : x23_3 = true
   · subst c7
     have H1 : (some (Go.bits .and .u64 (Go.bits .and .u64 a1 a2) 1)) = some r:=by rw [if_pos rfl] at H;exact H
     clear H
     have H:=H1
     clear H1
     obtain rfl:=Option.some.inj H
     go_wp2
     go_ret
     exact ⟨by first|rfl|(simp;done)|(simp [*];done),by repeat (first|exact Drawn0.refl _|apply Drawn0.step)⟩
   replace c7:=Bool.eq_false_iff.mpr c7
   subst c7
   have H1 : ((z1k.f a0 a1).bind fun bt101=>((z1k.f a0 a2).bind fun bt103=>((zA.f kj3 (wrap64 (a0 - 1)) bt101.1 bt103.1).bind fun t105=>((zA.f kj3 (wrap64 (a0 - 1)) bt101.2 bt103.2).bind fun t106=>((zA.f kj3 (wrap64 (a0 - 1)) (Go.bits .xor .u64 bt101.1 bt101.2) (Go.bits .xor .u64 bt103.1 bt103.2)).bind fun t107=>((zQ.f kj3 (wrap64 (a0 - 1)) t105).bind fun t108=>((z1l.f a0 (Go.bits .xor .u64 (Go.bits .xor .u64 (Go.bits .xor .u64 t107 t105) t106) t108) (Go.bits .xor .u64 t106 t105)).bind fun t109=>(some t109)))))))) = some r:=by rw [if_neg (show ¬ (false = true) by decide)] at H;exact H
   clear H
   have H:=H1
   clear H1
   replace H:=Option.bind_eq_some_iff.mp H
   obtain ⟨⟨t101,t102⟩,A80,H⟩:=H
   replace H : ((z1k.f a0 a2).bind fun bt103=>((zA.f kj3 (wrap64 (a0 - 1)) t101 bt103.1).bind fun t105=>((zA.f kj3 (wrap64 (a0 - 1)) t102 bt103.2).bind fun t106=>((zA.f kj3 (wrap64 (a0 - 1)) (Go.bits .xor .u64 t101 t102) (Go.bits .xor .u64 bt103.1 bt103.2)).bind fun t107=>((zQ.f kj3 (wrap64 (a0 - 1)) t105).bind fun t108=>((z1l.f a0 (Go.bits .xor .u64 (Go.bits .xor .u64 (Go.bits .xor .u64 t107 t105) t106) t108) (Go.bits .xor .u64 t106 t105)).bind fun t109=>(some t109))))))) = some r:=H
   have A8:=z7.mk A80
   clear A80
   replace H:=Option.bind_eq_some_iff.mp H
   obtain ⟨⟨t103,t104⟩,A90,H⟩:=H
   replace H : ((zA.f kj3 (wrap64 (a0 - 1)) t101 t103).bind fun t105=>((zA.f kj3 (wrap64 (a0 - 1)) t102 t104).bind fun t106=>((zA.f kj3 (wrap64 (a0 - 1)) (Go.bits .xor .u64 t101 t102) (Go.bits .xor .u64 t103 t104)).bind fun t107=>((zQ.f kj3 (wrap64 (a0 - 1)) t105).bind fun t108=>((z1l.f a0 (Go.bits .xor .u64 (Go.bits .xor .u64 (Go.bits .xor .u64 t107 t105) t106) t108) (Go.bits .xor .u64 t106 t105)).bind fun t109=>(some t109)))))) = some r:=H
   have A9:=z7.mk A90
   clear A90
   replace H:=Option.bind_eq_some_iff.mp H
   obtain ⟨t105,A100,H⟩:=H
   replace H : ((zA.f kj3 (wrap64 (a0 - 1)) t102 t104).bind fun t106=>((zA.f kj3 (wrap64 (a0 - 1)) (Go.bits .xor .u64 t101 t102) (Go.bits .xor .u64 t103 t104)).bind fun t107=>((zQ.f kj3 (wrap64 (a0 - 1)) t105).bind fun t108=>((z1l.f a0 (Go.bits .xor .u64 (Go.bits .xor .u64 (Go.bits .xor .u64 t107 t105) t106) t108) (Go.bits .xor .u64 t106 t105)).bind fun t109=>(some t109))))) = some r:=H
   have A10:=z7.mk A100
   clear A100
   replace H:=Option.bind_eq_some_iff.mp H
   obtain ⟨t106,A110,H⟩:=H
   replace H : ((zA.f kj3 (wrap64 (a0 - 1)) (Go.bits .xor .u64 t101 t102) (Go.bits .xor .u64 t103 t104)).bind fun t107=>((zQ.f kj3 (wrap64 (a0 - 1)) t105).bind fun t108=>((z1l.f a0 (Go.bits .xor .u64 (Go.bits .xor .u64 (Go.bits .xor .u64 t107 t105) t106) t108) (Go.bits .xor .u64 t106 t105)).bind fun t109=>(some t109)))) = some r:=H
   have A11:=z7.mk A110
   clear A110
   replace H:=Option.bind_eq_some_iff.mp H
   obtain ⟨t107,A120,H⟩:=H
   replace H : ((zQ.f kj3 (wrap64 (a0 - 1)) t105).bind fun t108=>((z1l.f a0 (Go.bits .xor .u64 (Go.bits .xor .u64 (Go.bits .xor .u64 t107 t105) t106) t108) (Go.bits .xor .u64 t106 t105)).bind fun t109=>(some t109))) = some r:=H
   have A12:=z7.mk A120
   clear A120
   replace H:=Option.bind_eq_some_iff.mp H
   obtain ⟨t108,A130,H⟩:=H
   replace H : ((z1l.f a0 (Go.bits .xor .u64 (Go.bits .xor .u64 (Go.bits .xor .u64 t107 t105) t106) t108) (Go.bits .xor .u64 t106 t105)).bind fun t109=>(some t109)) = some r:=H
   have A13:=z7.mk A130
   clear A130
   replace H:=Option.bind_eq_some_iff.mp H
   obtain ⟨t109,A140,H⟩:=H
   replace H : (some t109) = some r:=H
   have A14:=z7.mk A140
   clear A140
   obtain rfl:=Option.some.inj H
   go_wp2_with (first|((with_reducible refine zB (f:=96) rfl ?_);refine goesL_ (some 31) rfl rfl Try.func96 (by kernel_rfl) rfl #[.int .i64 a0,.int .u64 a1] rfl (by (try simp only [List.map_toArray,List.map_cons,List.map_nil]);first|done|rfl|(simp only [List.length_drop,List.length_take];rfl)) ?_;(with_reducible refine (z1k.calls a0 a1 t101 t102 _ A8.out).mono ?_);rintro e w' ⟨rfl,⟨nd,rfl⟩⟩;refine ⟨_,rfl,?_⟩)|((with_reducible refine zB (f:=96) rfl ?_);refine goesL_ (some 37) rfl rfl Try.func96 (by kernel_rfl) rfl #[.int .i64 a0,.int .u64 a2] rfl (by (try simp only [List.map_toArray,List.map_cons,List.map_nil]);first|done|rfl|(simp only [List.length_drop,List.length_take];rfl)) ?_;(with_reducible refine (z1k.calls a0 a2 t103 t104 _ A9.out).mono ?_);rintro e w' ⟨rfl,⟨nd,rfl⟩⟩;refine ⟨_,rfl,?_⟩)|((with_reducible refine zB (f:=82) rfl ?_);refine goesL_ (some 44) rfl rfl Try.func82 (by kernel_rfl) rfl #[.int .i64 (wrap64 (a0 - 1)),.int .u64 t101,.int .u64 t103] rfl (by (try simp only [List.map_toArray,List.map_cons,List.map_nil]);first|done|rfl|(simp only [List.length_drop,List.length_take];rfl)) ?_;(with_reducible refine (ih kj3 (by have:=HJ3.out;omega) (wrap64 (a0 - 1)) t101 t103 t105 _ A10.out).mono ?_);rintro e w' ⟨rfl,⟨nd,rfl⟩⟩;refine ⟨_,rfl,?_⟩)|((with_reducible refine zB (f:=82) rfl ?_);refine goesL_ (some 49) rfl rfl Try.func82 (by kernel_rfl) rfl #[.int .i64 (wrap64 (a0 - 1)),.int .u64 t102,.int .u64 t104] rfl (by (try simp only [List.map_toArray,List.map_cons,List.map_nil]);first|done|rfl|(simp only [List.length_drop,List.length_take];rfl)) ?_;(with_reducible refine (ih kj3 (by have:=HJ3.out;omega) (wrap64 (a0 - 1)) t102 t104 t106 _ A11.out).mono ?_);rintro e w' ⟨rfl,⟨nd,rfl⟩⟩;refine ⟨_,rfl,?_⟩)|((with_reducible refine zB (f:=82) rfl ?_);refine goesL_ (some 58) rfl rfl Try.func82 (by kernel_rfl) rfl #[.int .i64 (wrap64 (a0 - 1)),.int .u64 (Go.bits .xor .u64 t101 t102),.int .u64 (Go.bits .xor .u64 t103 t104)] rfl (by (try simp only [List.map_toArray,List.map_cons,List.map_nil]);first|done|rfl|(simp only [List.length_drop,List.length_take];rfl)) ?_;(with_reducible refine (ih kj3 (by have:=HJ3.out;omega) (wrap64 (a0 - 1)) (Go.bits .xor .u64 t101 t102) (Go.bits .xor .u64 t103 t104) t107 _ A12.out).mono ?_);rintro e w' ⟨rfl,⟨nd,rfl⟩⟩;refine ⟨_,rfl,?_⟩)|((with_reducible refine zB (f:=83) rfl ?_);refine goesL_ (some 68) rfl rfl Try.func83 (by kernel_rfl) rfl #[.int .i64 (wrap64 (a0 - 1)),.int .u64 t105] rfl (by (try simp only [List.map_toArray,List.map_cons,List.map_nil]);first|done|rfl|(simp only [List.length_drop,List.length_take];rfl)) ?_;(with_reducible refine (zQ.calls kj3 (wrap64 (a0 - 1)) t105 t108 _ A13.out).mono ?_);rintro e w' ⟨rfl,⟨nd,rfl⟩⟩;refine ⟨_,rfl,?_⟩)|((with_reducible refine zB (f:=97) rfl ?_);refine goesL_ (some 73) rfl rfl Try.func97 (by kernel_rfl) rfl #[.int .i64 a0,.int .u64 (Go.bits .xor .u64 (Go.bits .xor .u64 (Go.bits .xor .u64 t107 t105) t106) t108),.int .u64 (Go.bits .xor .u64 t106 t105)] rfl (by (try simp only [List.map_toArray,List.map_cons,List.map_nil]);first|done|rfl|(simp only [List.length_drop,List.length_take];rfl)) ?_;(with_reducible refine (z1l.calls a0 (Go.bits .xor .u64 (Go.bits .xor .u64 (Go.bits .xor .u64 t107 t105) t106) t108) (Go.bits .xor .u64 t106 t105) t109 _ A14.out).mono ?_);rintro e w' ⟨rfl,⟨nd,rfl⟩⟩;refine ⟨_,rfl,?_⟩))
   go_ret
   exact ⟨by first|rfl|(simp;done)|(simp [*];done),by repeat (first|exact Drawn0.refl _|apply Drawn0.step)⟩
end Go.Proofs.Ytngcaphdkgihmaa.P

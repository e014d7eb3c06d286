/- Own text: merged by wip/tools/pack.py out of what the law PackvPairs reaches. -/
import Derived.Test.YtngcaphdkgihmaaProg
import Derived.Below
import Derived.Deep.Draws
import Derived.Deep.AppendLies
import Derived.Maps.AppendAt
import Derived.OwnWalk
import Derived.Laws.BytesArg
import Derived.Laws.MakeOwn
import Derived.Laws.OwnMore
import Derived.Deep.OwnRows
import Derived.Tactics
import Derived.Lib.ConvBytes
import Derived.Laws.Slices
import Derived.WalkKit
import Derived.KernelRfl
import Derived.RowKit3
import Derived.Deep.LoopGhost
import Derived.Deep.QuietTactic
import Derived.BigQuiet
import Derived.WideLaws
import Derived.Deep.DeepCutAuto
import Derived.Deep.CutBlock
import Derived.Deep.RegionHeld3
import Derived.Laws.Rows
import Derived.Lib.AppendStr
import Derived.ArgAppend
import Derived.Laws.IdiomCopy
import Derived.OrdersHeld
import Derived.Laws.BitsLemmas
import Derived.RowKit
import Derived.Test.YtngcaphdkgihmaaMPackvPairsa
namespace Go.Proofs.Ytngcaphdkgihmaa.P
open Go.RowKit Go.Proofs.YtngcaphdkgihmaaW.PrintWords Go.Proofs.YtngcaphdkgihmaaW.PrintLast Go.Proofs.YtngcaphdkgihmaaW.PrintMore
attribute [local go_sem] zX zZ z16 z17 zT zU zY z10   -- for this text's walks alone
set_option linter.unusedVariables false
set_option linter.unusedSimpArgs false
def errW : Option Int → Value
 | none=>.nilIface
 | some c=>.iface 0 (.int .i64 c)
theorem zl : errW none = .nilIface:=rfl
theorem zm (c : Int) : errW (some c) = .iface 0 (.int .i64 c):=rfl
theorem info3 : (Try.prog.info? 3).map (fun i=>(i.zero,i.size,i.bytes)) = some (some (.int .i64 0),1,8):=by kernel_rfl
theorem info4 : (Try.prog.info? 4).map (fun i=>(i.zero,i.size,i.bytes)) = some (some (.bool false),1,1):=by kernel_rfl
theorem info37 : (Try.prog.info? 37).map (fun i=>(i.zero,i.size,i.bytes)) = some (some (.slice none 0 0),1,24):=by kernel_rfl
theorem info49 : (Try.prog.info? 49).map (fun i=>(i.zero,i.size,i.bytes)) = some (some (.int .u64 0),1,8):=by kernel_rfl
theorem info51 : (Try.prog.info? 51).map (fun i=>(i.zero,i.size,i.bytes)) = some (some (.agg #[(.int .u64 0),(.int .u64 0)]),2,16):=by kernel_rfl
theorem info61 : (Try.prog.info? 61).map (fun i=>(i.zero,i.size,i.bytes)) = some (some (.agg #[(.int .u64 0),(.int .u64 0)]),2,16):=by kernel_rfl
theorem info87 : (Try.prog.info? 87).map (fun i=>(i.zero,i.size,i.bytes)) = some (some (.agg #[(.int .i64 0),(.int .i64 0),(.int .i64 0),(.int .u64 0),(.int .u64 0)]),5,40):=by kernel_rfl
theorem info92 : (Try.prog.info? 92).map (fun i=>(i.zero,i.size,i.bytes)) = some (some (.slice none 0 0),1,24):=by kernel_rfl
theorem info114 : (Try.prog.info? 114).map (fun i=>(i.zero,i.size,i.bytes)) = some (some (.agg #[(.int .i64 0),(.int .i64 0),(.int .i64 0),(.int .u64 0),(.int .u64 0)]),5,40):=by kernel_rfl
-- the values' own types
structure S23 where
 f0 : Int
 f1 : Int
 f2 : Int
def z23 : S23:=⟨(0 : Int),(0 : Int),(0 : Int)⟩
def k23 : Kd S23:=Kd.iso (Kd.pair (Kd.int .i64) (Kd.pair (Kd.int .i64) (Kd.int .i64))) (fun x : S23=>(x.f0,x.f1,x.f2))
theorem k23_open {w : World} {x : S23} {cs : List Value} (h : k23.K w x cs) : cs = [.int .i64 x.f0,.int .i64 x.f1,.int .i64 x.f2]:=by
 obtain ⟨_,_,rfl,rfl,⟨_,_,rfl,rfl,rfl⟩⟩:=h
 exact rfl
theorem k23_openM {w : World} {base : Nat} {ok : Nat → Prop} {x : S23} {cs : List Value} (h : k23.M w base ok x cs) : cs = [.int .i64 x.f0,.int .i64 x.f1,.int .i64 x.f2]:=by
 obtain ⟨_,_,rfl,rfl,⟨_,_,rfl,rfl,rfl⟩⟩:=h
 exact rfl
theorem k23_mk (w : World) (x : S23)  : k23.K w x [.int .i64 x.f0,.int .i64 x.f1,.int .i64 x.f2]:=⟨[.int .i64 x.f0],[.int .i64 x.f1,.int .i64 x.f2],rfl,rfl,⟨[.int .i64 x.f1],[.int .i64 x.f2],rfl,rfl,rfl⟩⟩
theorem k23_mkM (w : World) (base : Nat) (ok : Nat → Prop) (x : S23)  : k23.M w base ok x [.int .i64 x.f0,.int .i64 x.f1,.int .i64 x.f2]:=⟨[.int .i64 x.f0],[.int .i64 x.f1,.int .i64 x.f2],rfl,rfl,⟨[.int .i64 x.f1],[.int .i64 x.f2],rfl,rfl,rfl⟩⟩
theorem k23_mkF (W : World) (ok : Nat → Prop) (x : S23) : Kd.FK k23 W ok x [.int .i64 x.f0,.int .i64 x.f1,.int .i64 x.f2]:=fun W2 _=>k23_mk W2 x
def z5A (xs : List S23) (i : Int) : S23:=xs.getD i.toNat z23
theorem at_T23 {w : World} {A : Option Addr} {n : Nat} {xs : List S23} (h : Kd.C k23 w A n xs) (i : Int) (h0 : 0 ≤ i) (h1 : i < n) : ∃ ad , A = some ad ∧ w.cell? (ad.add (i.toNat * 3)) = some (.int .i64 (z5A xs i).f0) ∧ w.cell? ⟨(ad.add (i.toNat * 3)).block,(ad.add (i.toNat * 3)).off + 1,none⟩ = some (.int .i64 (z5A xs i).f1) ∧ w.cell? ⟨(ad.add (i.toNat * 3)).block,(ad.add (i.toNat * 3)).off + 2,none⟩ = some (.int .i64 (z5A xs i).f2):=by
 obtain ⟨ad,c,e,_,hK,hc0⟩:=Kd.z2Y h z23 i h0 h1
 have hc : ∀ j u,c[j]? = some u → w.cell? (ad.add (i.toNat * 3 + j)) = some u:=hc0
 obtain rfl:=k23_open hK
 exact ⟨ad,e,hc 0 _ rfl,by rw [← z1j _ _ 1 (by omega)];exact hc 1 _ rfl,by rw [← z1j _ _ 2 (by omega)];exact hc 2 _ rfl⟩
def rd_L3 (xs : List (List Bool)) (i : Int) : (List Bool):=xs.getD i.toNat ([] : List Bool)
theorem at_L3 {w : World} {A : Option Addr} {n : Nat} {xs : List (List Bool)} (h : Kd.C (Kd.slice 4 Kd.bool) w A n xs) (i : Int) (h0 : 0 ≤ i) (h1 : i < n) : ∃ ad A0 c0,A = some ad ∧ w.cell? (ad.add i.toNat) = some (.slice A0 (rd_L3 xs i).length c0) ∧ (rd_L3 xs i).length ≤ c0 ∧ Kd.bool.C w A0 (rd_L3 xs i).length (rd_L3 xs i):=by
 obtain ⟨ad,c,e,_,hK,hc0⟩:=Kd.z2Y h ([] : List Bool) i h0 h1
 have hc : ∀ j u,c[j]? = some u → w.cell? (ad.add (i.toNat * 1 + j)) = some u:=hc0
 obtain ⟨A0,c0,rfl,l0,g0⟩:=hK
 exact ⟨ad,A0,c0,e,by have hq:=hc 0 _ rfl;rwa [Nat.mul_one,Nat.add_zero] at hq,l0,g0⟩
structure S51 where
 f0 : Int
 f1 : Int
def z51 : S51:=⟨(0 : Int),(0 : Int)⟩
def k51 : Kd S51:=Kd.iso (Kd.pair (Kd.int .u64) (Kd.int .u64)) (fun x : S51=>(x.f0,x.f1))
theorem z3C {w : World} {x : S51} {cs : List Value} (h : k51.K w x cs) : cs = [.int .u64 x.f0,.int .u64 x.f1]:=by
 obtain ⟨_,_,rfl,rfl,rfl⟩:=h
 exact rfl
theorem z1S {w : World} {base : Nat} {ok : Nat → Prop} {x : S51} {cs : List Value} (h : k51.M w base ok x cs) : cs = [.int .u64 x.f0,.int .u64 x.f1]:=by
 obtain ⟨_,_,rfl,rfl,rfl⟩:=h
 exact rfl
theorem k51_mk (w : World) (x : S51)  : k51.K w x [.int .u64 x.f0,.int .u64 x.f1]:=⟨[.int .u64 x.f0],[.int .u64 x.f1],rfl,rfl,rfl⟩
theorem z2w (w : World) (base : Nat) (ok : Nat → Prop) (x : S51)  : k51.M w base ok x [.int .u64 x.f0,.int .u64 x.f1]:=⟨[.int .u64 x.f0],[.int .u64 x.f1],rfl,rfl,rfl⟩
theorem k51_mkF (W : World) (ok : Nat → Prop) (x : S51) : Kd.FK k51 W ok x [.int .u64 x.f0,.int .u64 x.f1]:=fun W2 _=>k51_mk W2 x
def zt (xs : List S51) (i : Int) : S51:=xs.getD i.toNat z51
theorem z2b {w : World} {A : Option Addr} {n : Nat} {xs : List S51} (h : Kd.C k51 w A n xs) (i : Int) (h0 : 0 ≤ i) (h1 : i < n) : ∃ ad , A = some ad ∧ w.cell? (ad.add (i.toNat * 2)) = some (.int .u64 (zt xs i).f0) ∧ w.cell? ⟨(ad.add (i.toNat * 2)).block,(ad.add (i.toNat * 2)).off + 1,none⟩ = some (.int .u64 (zt xs i).f1):=by
 obtain ⟨ad,c,e,_,hK,hc0⟩:=Kd.z2Y h z51 i h0 h1
 have hc : ∀ j u,c[j]? = some u → w.cell? (ad.add (i.toNat * 2 + j)) = some u:=hc0
 obtain rfl:=z3C hK
 exact ⟨ad,e,hc 0 _ rfl,by rw [← z1j _ _ 1 (by omega)];exact hc 1 _ rfl⟩
def z2k (xs : List (List S51)) (i : Int) : (List S51):=xs.getD i.toNat ([] : List S51)
theorem at_L6 {w : World} {A : Option Addr} {n : Nat} {xs : List (List S51)} (h : Kd.C (Kd.slice 51 k51) w A n xs) (i : Int) (h0 : 0 ≤ i) (h1 : i < n) : ∃ ad A0 c0,A = some ad ∧ w.cell? (ad.add i.toNat) = some (.slice A0 (z2k xs i).length c0) ∧ (z2k xs i).length ≤ c0 ∧ k51.C w A0 (z2k xs i).length (z2k xs i):=by
 obtain ⟨ad,c,e,_,hK,hc0⟩:=Kd.z2Y h ([] : List S51) i h0 h1
 have hc : ∀ j u,c[j]? = some u → w.cell? (ad.add (i.toNat * 1 + j)) = some u:=hc0
 obtain ⟨A0,c0,rfl,l0,g0⟩:=hK
 exact ⟨ad,A0,c0,e,by have hq:=hc 0 _ rfl;rwa [Nat.mul_one,Nat.add_zero] at hq,l0,g0⟩
structure S61 where
 f0 : Int
 f1 : Int
def z61 : S61:=⟨(0 : Int),(0 : Int)⟩
def k61 : Kd S61:=Kd.iso (Kd.pair (Kd.int .u64) (Kd.int .u64)) (fun x : S61=>(x.f0,x.f1))
theorem z4v {w : World} {x : S61} {cs : List Value} (h : k61.K w x cs) : cs = [.int .u64 x.f0,.int .u64 x.f1]:=by
 obtain ⟨_,_,rfl,rfl,rfl⟩:=h
 exact rfl
theorem z5l {w : World} {base : Nat} {ok : Nat → Prop} {x : S61} {cs : List Value} (h : k61.M w base ok x cs) : cs = [.int .u64 x.f0,.int .u64 x.f1]:=by
 obtain ⟨_,_,rfl,rfl,rfl⟩:=h
 exact rfl
theorem k61_mk (w : World) (x : S61)  : k61.K w x [.int .u64 x.f0,.int .u64 x.f1]:=⟨[.int .u64 x.f0],[.int .u64 x.f1],rfl,rfl,rfl⟩
theorem z3D (w : World) (base : Nat) (ok : Nat → Prop) (x : S61)  : k61.M w base ok x [.int .u64 x.f0,.int .u64 x.f1]:=⟨[.int .u64 x.f0],[.int .u64 x.f1],rfl,rfl,rfl⟩
theorem k61_mkF (W : World) (ok : Nat → Prop) (x : S61) : Kd.FK k61 W ok x [.int .u64 x.f0,.int .u64 x.f1]:=fun W2 _=>k61_mk W2 x
def z1B (xs : List S61) (i : Int) : S61:=xs.getD i.toNat z61
theorem z4q {w : World} {A : Option Addr} {n : Nat} {xs : List S61} (h : Kd.C k61 w A n xs) (i : Int) (h0 : 0 ≤ i) (h1 : i < n) : ∃ ad , A = some ad ∧ w.cell? (ad.add (i.toNat * 2)) = some (.int .u64 (z1B xs i).f0) ∧ w.cell? ⟨(ad.add (i.toNat * 2)).block,(ad.add (i.toNat * 2)).off + 1,none⟩ = some (.int .u64 (z1B xs i).f1):=by
 obtain ⟨ad,c,e,_,hK,hc0⟩:=Kd.z2Y h z61 i h0 h1
 have hc : ∀ j u,c[j]? = some u → w.cell? (ad.add (i.toNat * 2 + j)) = some u:=hc0
 obtain rfl:=z4v hK
 exact ⟨ad,e,hc 0 _ rfl,by rw [← z1j _ _ 1 (by omega)];exact hc 1 _ rfl⟩
structure S64 where
 f0 : (List S51)
 f1 : (List S51)
def z64 : S64:=⟨([] : List S51),([] : List S51)⟩
def k64 : Kd S64:=Kd.iso (Kd.pair (Kd.slice 51 k51) (Kd.slice 51 k51)) (fun x : S64=>(x.f0,x.f1))
theorem z2T {w : World} {x : S64} {cs : List Value} (h : k64.K w x cs) : ∃ A0 c0 A1 c1,cs = [.slice A0 x.f0.length c0,.slice A1 x.f1.length c1] ∧ x.f0.length ≤ c0 ∧ k51.C w A0 x.f0.length x.f0 ∧ x.f1.length ≤ c1 ∧ k51.C w A1 x.f1.length x.f1:=by
 obtain ⟨_,_,rfl,⟨A0,c0,rfl,l0,g0⟩,⟨A1,c1,rfl,l1,g1⟩⟩:=h
 exact ⟨A0,c0,A1,c1,rfl,l0,g0,l1,g1⟩
theorem k64_openM {w : World} {base : Nat} {ok : Nat → Prop} {x : S64} {cs : List Value} (h : k64.M w base ok x cs) : ∃ v0 v1,cs = [v0,v1] ∧ k51.R 51 w base ok v0 x.f0 ∧ k51.R 51 w base ok v1 x.f1:=by
 obtain ⟨_,_,rfl,⟨v0,rfl,g0⟩,⟨v1,rfl,g1⟩⟩:=h
 exact ⟨v0,v1,rfl,g0,g1⟩
theorem k64_mk (w : World) (x : S64) {A0 : Option Addr} {c0 : Nat} (l0 : x.f0.length ≤ c0) (g0 : k51.C w A0 x.f0.length x.f0) {A1 : Option Addr} {c1 : Nat} (l1 : x.f1.length ≤ c1) (g1 : k51.C w A1 x.f1.length x.f1) : k64.K w x [.slice A0 x.f0.length c0,.slice A1 x.f1.length c1]:=⟨[.slice A0 x.f0.length c0],[.slice A1 x.f1.length c1],rfl,⟨A0,c0,rfl,l0,g0⟩,⟨A1,c1,rfl,l1,g1⟩⟩
theorem k64_mkM (w : World) (base : Nat) (ok : Nat → Prop) (x : S64) {v0 : Value} (g0 : k51.R 51 w base ok v0 x.f0) {v1 : Value} (g1 : k51.R 51 w base ok v1 x.f1) : k64.M w base ok x [v0,v1]:=⟨[v0],[v1],rfl,⟨v0,rfl,g0⟩,⟨v1,rfl,g1⟩⟩
theorem k64_openF {W : World} {ok : Nat → Prop} {x : S64} {cs : List Value} (h : Kd.FK k64 W ok x cs) : ∃ A0 c0 A1 c1,cs = [.slice A0 x.f0.length c0,.slice A1 x.f1.length c1] ∧ x.f0.length ≤ c0 ∧ Kd.F k51 W ok A0 x.f0.length x.f0 ∧ x.f1.length ≤ c1 ∧ Kd.F k51 W ok A1 x.f1.length x.f1:=by
 obtain ⟨A0,c0,A1,c1,rfl,l0,_,l1,_⟩:=z2T (Kd.z3O h)
 exact ⟨A0,c0,A1,c1,rfl,l0,(fun W' hW=>by obtain ⟨A0_,c0_,A1_,c1_,he,l0_,g0_,l1_,g1_⟩:=z2T (h W' hW);injection (Option.some.inj (show some (Value.slice A0 x.f0.length c0) = some (Value.slice A0_ x.f0.length c0_) from congrArg (fun l=>l[0]?) he)) with ha_ _ _;rw [ha_];exact g0_),l1,(fun W' hW=>by obtain ⟨A0_,c0_,A1_,c1_,he,l0_,g0_,l1_,g1_⟩:=z2T (h W' hW);injection (Option.some.inj (show some (Value.slice A1 x.f1.length c1) = some (Value.slice A1_ x.f1.length c1_) from congrArg (fun l=>l[1]?) he)) with ha_ _ _;rw [ha_];exact g1_)⟩
theorem k64_mkF (W : World) (ok : Nat → Prop) (x : S64) {A0 : Option Addr} {c0 : Nat} (l0 : x.f0.length ≤ c0) (g0 : Kd.F k51 W ok A0 x.f0.length x.f0) {A1 : Option Addr} {c1 : Nat} (l1 : x.f1.length ≤ c1) (g1 : Kd.F k51 W ok A1 x.f1.length x.f1) : Kd.FK k64 W ok x [.slice A0 x.f0.length c0,.slice A1 x.f1.length c1]:=fun W2 hW=>k64_mk W2 x l0 (g0 W2 hW) l1 (g1 W2 hW)
def z2M (xs : List S64) (i : Int) : S64:=xs.getD i.toNat z64
theorem at_T64 {w : World} {A : Option Addr} {n : Nat} {xs : List S64} (h : Kd.C k64 w A n xs) (i : Int) (h0 : 0 ≤ i) (h1 : i < n) : ∃ ad A0 c0 A1 c1,A = some ad ∧ w.cell? (ad.add (i.toNat * 2)) = some (.slice A0 (z2M xs i).f0.length c0) ∧ w.cell? ⟨(ad.add (i.toNat * 2)).block,(ad.add (i.toNat * 2)).off + 1,none⟩ = some (.slice A1 (z2M xs i).f1.length c1) ∧ (z2M xs i).f0.length ≤ c0 ∧ k51.C w A0 (z2M xs i).f0.length (z2M xs i).f0 ∧ (z2M xs i).f1.length ≤ c1 ∧ k51.C w A1 (z2M xs i).f1.length (z2M xs i).f1:=by
 obtain ⟨ad,c,e,_,hK,hc0⟩:=Kd.z2Y h z64 i h0 h1
 have hc : ∀ j u,c[j]? = some u → w.cell? (ad.add (i.toNat * 2 + j)) = some u:=hc0
 obtain ⟨A0,c0,A1,c1,rfl,l0,g0,l1,g1⟩:=z2T hK
 exact ⟨ad,A0,c0,A1,c1,e,hc 0 _ rfl,by rw [← z1j _ _ 1 (by omega)];exact hc 1 _ rfl,l0,g0,l1,g1⟩
structure S66 where
 f0 : (List S51)
 f1 : (List S51)
def z66 : S66:=⟨([] : List S51),([] : List S51)⟩
def k66 : Kd S66:=Kd.iso (Kd.pair (Kd.slice 51 k51) (Kd.slice 51 k51)) (fun x : S66=>(x.f0,x.f1))
theorem z2U {w : World} {x : S66} {cs : List Value} (h : k66.K w x cs) : ∃ A0 c0 A1 c1,cs = [.slice A0 x.f0.length c0,.slice A1 x.f1.length c1] ∧ x.f0.length ≤ c0 ∧ k51.C w A0 x.f0.length x.f0 ∧ x.f1.length ≤ c1 ∧ k51.C w A1 x.f1.length x.f1:=by
 obtain ⟨_,_,rfl,⟨A0,c0,rfl,l0,g0⟩,⟨A1,c1,rfl,l1,g1⟩⟩:=h
 exact ⟨A0,c0,A1,c1,rfl,l0,g0,l1,g1⟩
theorem k66_openM {w : World} {base : Nat} {ok : Nat → Prop} {x : S66} {cs : List Value} (h : k66.M w base ok x cs) : ∃ v0 v1,cs = [v0,v1] ∧ k51.R 51 w base ok v0 x.f0 ∧ k51.R 51 w base ok v1 x.f1:=by
 obtain ⟨_,_,rfl,⟨v0,rfl,g0⟩,⟨v1,rfl,g1⟩⟩:=h
 exact ⟨v0,v1,rfl,g0,g1⟩
theorem k66_mk (w : World) (x : S66) {A0 : Option Addr} {c0 : Nat} (l0 : x.f0.length ≤ c0) (g0 : k51.C w A0 x.f0.length x.f0) {A1 : Option Addr} {c1 : Nat} (l1 : x.f1.length ≤ c1) (g1 : k51.C w A1 x.f1.length x.f1) : k66.K w x [.slice A0 x.f0.length c0,.slice A1 x.f1.length c1]:=⟨[.slice A0 x.f0.length c0],[.slice A1 x.f1.length c1],rfl,⟨A0,c0,rfl,l0,g0⟩,⟨A1,c1,rfl,l1,g1⟩⟩
theorem k66_mkM (w : World) (base : Nat) (ok : Nat → Prop) (x : S66) {v0 : Value} (g0 : k51.R 51 w base ok v0 x.f0) {v1 : Value} (g1 : k51.R 51 w base ok v1 x.f1) : k66.M w base ok x [v0,v1]:=⟨[v0],[v1],rfl,⟨v0,rfl,g0⟩,⟨v1,rfl,g1⟩⟩
theorem k66_openF {W : World} {ok : Nat → Prop} {x : S66} {cs : List Value} (h : Kd.FK k66 W ok x cs) : ∃ A0 c0 A1 c1,cs = [.slice A0 x.f0.length c0,.slice A1 x.f1.length c1] ∧ x.f0.length ≤ c0 ∧ Kd.F k51 W ok A0 x.f0.length x.f0 ∧ x.f1.length ≤ c1 ∧ Kd.F k51 W ok A1 x.f1.length x.f1:=by
 obtain ⟨A0,c0,A1,c1,rfl,l0,_,l1,_⟩:=z2U (Kd.z3O h)
 exact ⟨A0,c0,A1,c1,rfl,l0,(fun W' hW=>by obtain ⟨A0_,c0_,A1_,c1_,he,l0_,g0_,l1_,g1_⟩:=z2U (h W' hW);injection (Option.some.inj (show some (Value.slice A0 x.f0.length c0) = some (Value.slice A0_ x.f0.length c0_) from congrArg (fun l=>l[0]?) he)) with ha_ _ _;rw [ha_];exact g0_),l1,(fun W' hW=>by obtain ⟨A0_,c0_,A1_,c1_,he,l0_,g0_,l1_,g1_⟩:=z2U (h W' hW);injection (Option.some.inj (show some (Value.slice A1 x.f1.length c1) = some (Value.slice A1_ x.f1.length c1_) from congrArg (fun l=>l[1]?) he)) with ha_ _ _;rw [ha_];exact g1_)⟩
theorem k66_mkF (W : World) (ok : Nat → Prop) (x : S66) {A0 : Option Addr} {c0 : Nat} (l0 : x.f0.length ≤ c0) (g0 : Kd.F k51 W ok A0 x.f0.length x.f0) {A1 : Option Addr} {c1 : Nat} (l1 : x.f1.length ≤ c1) (g1 : Kd.F k51 W ok A1 x.f1.length x.f1) : Kd.FK k66 W ok x [.slice A0 x.f0.length c0,.slice A1 x.f1.length c1]:=fun W2 hW=>k66_mk W2 x l0 (g0 W2 hW) l1 (g1 W2 hW)
def z2N (xs : List S66) (i : Int) : S66:=xs.getD i.toNat z66
theorem at_T66 {w : World} {A : Option Addr} {n : Nat} {xs : List S66} (h : Kd.C k66 w A n xs) (i : Int) (h0 : 0 ≤ i) (h1 : i < n) : ∃ ad A0 c0 A1 c1,A = some ad ∧ w.cell? (ad.add (i.toNat * 2)) = some (.slice A0 (z2N xs i).f0.length c0) ∧ w.cell? ⟨(ad.add (i.toNat * 2)).block,(ad.add (i.toNat * 2)).off + 1,none⟩ = some (.slice A1 (z2N xs i).f1.length c1) ∧ (z2N xs i).f0.length ≤ c0 ∧ k51.C w A0 (z2N xs i).f0.length (z2N xs i).f0 ∧ (z2N xs i).f1.length ≤ c1 ∧ k51.C w A1 (z2N xs i).f1.length (z2N xs i).f1:=by
 obtain ⟨ad,c,e,_,hK,hc0⟩:=Kd.z2Y h z66 i h0 h1
 have hc : ∀ j u,c[j]? = some u → w.cell? (ad.add (i.toNat * 2 + j)) = some u:=hc0
 obtain ⟨A0,c0,A1,c1,rfl,l0,g0,l1,g1⟩:=z2U hK
 exact ⟨ad,A0,c0,A1,c1,e,hc 0 _ rfl,by rw [← z1j _ _ 1 (by omega)];exact hc 1 _ rfl,l0,g0,l1,g1⟩
structure S87 where
 f0 : Int
 f1 : Int
 f2 : Int
 f3 : S51
def z87 : S87:=⟨(0 : Int),(0 : Int),(0 : Int),z51⟩
def k87 : Kd S87:=Kd.iso (Kd.pair (Kd.int .i64) (Kd.pair (Kd.int .i64) (Kd.pair (Kd.int .i64) k51))) (fun x : S87=>(x.f0,x.f1,x.f2,x.f3))
theorem k87_open {w : World} {x : S87} {cs : List Value} (h : k87.K w x cs) : cs = [.int .i64 x.f0,.int .i64 x.f1,.int .i64 x.f2,.int .u64 x.f3.f0,.int .u64 x.f3.f1]:=by
 obtain ⟨_,_,rfl,rfl,⟨_,_,rfl,rfl,⟨_,_,rfl,rfl,s3⟩⟩⟩:=h
 obtain rfl:=z3C s3
 exact rfl
theorem k87_openM {w : World} {base : Nat} {ok : Nat → Prop} {x : S87} {cs : List Value} (h : k87.M w base ok x cs) : cs = [.int .i64 x.f0,.int .i64 x.f1,.int .i64 x.f2,.int .u64 x.f3.f0,.int .u64 x.f3.f1]:=by
 obtain ⟨_,_,rfl,rfl,⟨_,_,rfl,rfl,⟨_,_,rfl,rfl,s3⟩⟩⟩:=h
 obtain rfl:=z1S s3
 exact rfl
theorem k87_mk (w : World) (x : S87)  : k87.K w x [.int .i64 x.f0,.int .i64 x.f1,.int .i64 x.f2,.int .u64 x.f3.f0,.int .u64 x.f3.f1]:=⟨[.int .i64 x.f0],[.int .i64 x.f1,.int .i64 x.f2,.int .u64 x.f3.f0,.int .u64 x.f3.f1],rfl,rfl,⟨[.int .i64 x.f1],[.int .i64 x.f2,.int .u64 x.f3.f0,.int .u64 x.f3.f1],rfl,rfl,⟨[.int .i64 x.f2],[.int .u64 x.f3.f0,.int .u64 x.f3.f1],rfl,rfl,(k51_mk w x.f3 )⟩⟩⟩
theorem k87_mkM (w : World) (base : Nat) (ok : Nat → Prop) (x : S87)  : k87.M w base ok x [.int .i64 x.f0,.int .i64 x.f1,.int .i64 x.f2,.int .u64 x.f3.f0,.int .u64 x.f3.f1]:=⟨[.int .i64 x.f0],[.int .i64 x.f1,.int .i64 x.f2,.int .u64 x.f3.f0,.int .u64 x.f3.f1],rfl,rfl,⟨[.int .i64 x.f1],[.int .i64 x.f2,.int .u64 x.f3.f0,.int .u64 x.f3.f1],rfl,rfl,⟨[.int .i64 x.f2],[.int .u64 x.f3.f0,.int .u64 x.f3.f1],rfl,rfl,(z2w w base ok x.f3 )⟩⟩⟩
theorem k87_mkF (W : World) (ok : Nat → Prop) (x : S87) : Kd.FK k87 W ok x [.int .i64 x.f0,.int .i64 x.f1,.int .i64 x.f2,.int .u64 x.f3.f0,.int .u64 x.f3.f1]:=fun W2 _=>k87_mk W2 x
def z3Z (xs : List S87) (i : Int) : S87:=xs.getD i.toNat z87
theorem at_T87 {w : World} {A : Option Addr} {n : Nat} {xs : List S87} (h : Kd.C k87 w A n xs) (i : Int) (h0 : 0 ≤ i) (h1 : i < n) : ∃ ad , A = some ad ∧ w.cell? (ad.add (i.toNat * 5)) = some (.int .i64 (z3Z xs i).f0) ∧ w.cell? ⟨(ad.add (i.toNat * 5)).block,(ad.add (i.toNat * 5)).off + 1,none⟩ = some (.int .i64 (z3Z xs i).f1) ∧ w.cell? ⟨(ad.add (i.toNat * 5)).block,(ad.add (i.toNat * 5)).off + 2,none⟩ = some (.int .i64 (z3Z xs i).f2) ∧ w.cell? ⟨(ad.add (i.toNat * 5)).block,(ad.add (i.toNat * 5)).off + 3,none⟩ = some (.int .u64 (z3Z xs i).f3.f0) ∧ w.cell? ⟨(ad.add (i.toNat * 5)).block,(ad.add (i.toNat * 5)).off + 4,none⟩ = some (.int .u64 (z3Z xs i).f3.f1):=by
 obtain ⟨ad,c,e,_,hK,hc0⟩:=Kd.z2Y h z87 i h0 h1
 have hc : ∀ j u,c[j]? = some u → w.cell? (ad.add (i.toNat * 5 + j)) = some u:=hc0
 obtain rfl:=k87_open hK
 exact ⟨ad,e,hc 0 _ rfl,by rw [← z1j _ _ 1 (by omega)];exact hc 1 _ rfl,by rw [← z1j _ _ 2 (by omega)];exact hc 2 _ rfl,by rw [← z1j _ _ 3 (by omega)];exact hc 3 _ rfl,by rw [← z1j _ _ 4 (by omega)];exact hc 4 _ rfl⟩
structure S114 where
 f0 : Int
 f1 : Int
 f2 : Int
 f3 : S61
def z114 : S114:=⟨(0 : Int),(0 : Int),(0 : Int),z61⟩
def k114 : Kd S114:=Kd.iso (Kd.pair (Kd.int .i64) (Kd.pair (Kd.int .i64) (Kd.pair (Kd.int .i64) k61))) (fun x : S114=>(x.f0,x.f1,x.f2,x.f3))
theorem z5k {w : World} {x : S114} {cs : List Value} (h : k114.K w x cs) : cs = [.int .i64 x.f0,.int .i64 x.f1,.int .i64 x.f2,.int .u64 x.f3.f0,.int .u64 x.f3.f1]:=by
 obtain ⟨_,_,rfl,rfl,⟨_,_,rfl,rfl,⟨_,_,rfl,rfl,s3⟩⟩⟩:=h
 obtain rfl:=z4v s3
 exact rfl
theorem k114_openM {w : World} {base : Nat} {ok : Nat → Prop} {x : S114} {cs : List Value} (h : k114.M w base ok x cs) : cs = [.int .i64 x.f0,.int .i64 x.f1,.int .i64 x.f2,.int .u64 x.f3.f0,.int .u64 x.f3.f1]:=by
 obtain ⟨_,_,rfl,rfl,⟨_,_,rfl,rfl,⟨_,_,rfl,rfl,s3⟩⟩⟩:=h
 obtain rfl:=z5l s3
 exact rfl
theorem k114_mk (w : World) (x : S114)  : k114.K w x [.int .i64 x.f0,.int .i64 x.f1,.int .i64 x.f2,.int .u64 x.f3.f0,.int .u64 x.f3.f1]:=⟨[.int .i64 x.f0],[.int .i64 x.f1,.int .i64 x.f2,.int .u64 x.f3.f0,.int .u64 x.f3.f1],rfl,rfl,⟨[.int .i64 x.f1],[.int .i64 x.f2,.int .u64 x.f3.f0,.int .u64 x.f3.f1],rfl,rfl,⟨[.int .i64 x.f2],[.int .u64 x.f3.f0,.int .u64 x.f3.f1],rfl,rfl,(k61_mk w x.f3 )⟩⟩⟩
theorem k114_mkM (w : World) (base : Nat) (ok : Nat → Prop) (x : S114)  : k114.M w base ok x [.int .i64 x.f0,.int .i64 x.f1,.int .i64 x.f2,.int .u64 x.f3.f0,.int .u64 x.f3.f1]:=⟨[.int .i64 x.f0],[.int .i64 x.f1,.int .i64 x.f2,.int .u64 x.f3.f0,.int .u64 x.f3.f1],rfl,rfl,⟨[.int .i64 x.f1],[.int .i64 x.f2,.int .u64 x.f3.f0,.int .u64 x.f3.f1],rfl,rfl,⟨[.int .i64 x.f2],[.int .u64 x.f3.f0,.int .u64 x.f3.f1],rfl,rfl,(z3D w base ok x.f3 )⟩⟩⟩
theorem k114_mkF (W : World) (ok : Nat → Prop) (x : S114) : Kd.FK k114 W ok x [.int .i64 x.f0,.int .i64 x.f1,.int .i64 x.f2,.int .u64 x.f3.f0,.int .u64 x.f3.f1]:=fun W2 _=>k114_mk W2 x
def z38 (xs : List S114) (i : Int) : S114:=xs.getD i.toNat z114
theorem at_T114 {w : World} {A : Option Addr} {n : Nat} {xs : List S114} (h : Kd.C k114 w A n xs) (i : Int) (h0 : 0 ≤ i) (h1 : i < n) : ∃ ad , A = some ad ∧ w.cell? (ad.add (i.toNat * 5)) = some (.int .i64 (z38 xs i).f0) ∧ w.cell? ⟨(ad.add (i.toNat * 5)).block,(ad.add (i.toNat * 5)).off + 1,none⟩ = some (.int .i64 (z38 xs i).f1) ∧ w.cell? ⟨(ad.add (i.toNat * 5)).block,(ad.add (i.toNat * 5)).off + 2,none⟩ = some (.int .i64 (z38 xs i).f2) ∧ w.cell? ⟨(ad.add (i.toNat * 5)).block,(ad.add (i.toNat * 5)).off + 3,none⟩ = some (.int .u64 (z38 xs i).f3.f0) ∧ w.cell? ⟨(ad.add (i.toNat * 5)).block,(ad.add (i.toNat * 5)).off + 4,none⟩ = some (.int .u64 (z38 xs i).f3.f1):=by
 obtain ⟨ad,c,e,_,hK,hc0⟩:=Kd.z2Y h z114 i h0 h1
 have hc : ∀ j u,c[j]? = some u → w.cell? (ad.add (i.toNat * 5 + j)) = some u:=hc0
 obtain rfl:=z5k hK
 exact ⟨ad,e,hc 0 _ rfl,by rw [← z1j _ _ 1 (by omega)];exact hc 1 _ rfl,by rw [← z1j _ _ 2 (by omega)];exact hc 2 _ rfl,by rw [← z1j _ _ 3 (by omega)];exact hc 3 _ rfl,by rw [← z1j _ _ 4 (by omega)];exact hc 4 _ rfl⟩
def z4z (xs : List (List S87)) (i : Int) : (List S87):=xs.getD i.toNat ([] : List S87)
theorem at_L12 {w : World} {A : Option Addr} {n : Nat} {xs : List (List S87)} (h : Kd.C (Kd.slice 87 k87) w A n xs) (i : Int) (h0 : 0 ≤ i) (h1 : i < n) : ∃ ad A0 c0,A = some ad ∧ w.cell? (ad.add i.toNat) = some (.slice A0 (z4z xs i).length c0) ∧ (z4z xs i).length ≤ c0 ∧ k87.C w A0 (z4z xs i).length (z4z xs i):=by
 obtain ⟨ad,c,e,_,hK,hc0⟩:=Kd.z2Y h ([] : List S87) i h0 h1
 have hc : ∀ j u,c[j]? = some u → w.cell? (ad.add (i.toNat * 1 + j)) = some u:=hc0
 obtain ⟨A0,c0,rfl,l0,g0⟩:=hK
 exact ⟨ad,A0,c0,e,by have hq:=hc 0 _ rfl;rwa [Nat.mul_one,Nat.add_zero] at hq,l0,g0⟩
structure S79 where
 f0 : Int
 f1 : Int
def z79 : S79:=⟨(0 : Int),(0 : Int)⟩
def k79 : Kd S79:=Kd.iso (Kd.pair (Kd.int .i64) (Kd.int .i64)) (fun x : S79=>(x.f0,x.f1))
theorem k79_open {w : World} {x : S79} {cs : List Value} (h : k79.K w x cs) : cs = [.int .i64 x.f0,.int .i64 x.f1]:=by
 obtain ⟨_,_,rfl,rfl,rfl⟩:=h
 exact rfl
theorem k79_openM {w : World} {base : Nat} {ok : Nat → Prop} {x : S79} {cs : List Value} (h : k79.M w base ok x cs) : cs = [.int .i64 x.f0,.int .i64 x.f1]:=by
 obtain ⟨_,_,rfl,rfl,rfl⟩:=h
 exact rfl
theorem k79_mk (w : World) (x : S79)  : k79.K w x [.int .i64 x.f0,.int .i64 x.f1]:=⟨[.int .i64 x.f0],[.int .i64 x.f1],rfl,rfl,rfl⟩
theorem k79_mkM (w : World) (base : Nat) (ok : Nat → Prop) (x : S79)  : k79.M w base ok x [.int .i64 x.f0,.int .i64 x.f1]:=⟨[.int .i64 x.f0],[.int .i64 x.f1],rfl,rfl,rfl⟩
theorem k79_mkF (W : World) (ok : Nat → Prop) (x : S79) : Kd.FK k79 W ok x [.int .i64 x.f0,.int .i64 x.f1]:=fun W2 _=>k79_mk W2 x
def rd_T79 (xs : List S79) (i : Int) : S79:=xs.getD i.toNat z79
theorem at_T79 {w : World} {A : Option Addr} {n : Nat} {xs : List S79} (h : Kd.C k79 w A n xs) (i : Int) (h0 : 0 ≤ i) (h1 : i < n) : ∃ ad , A = some ad ∧ w.cell? (ad.add (i.toNat * 2)) = some (.int .i64 (rd_T79 xs i).f0) ∧ w.cell? ⟨(ad.add (i.toNat * 2)).block,(ad.add (i.toNat * 2)).off + 1,none⟩ = some (.int .i64 (rd_T79 xs i).f1):=by
 obtain ⟨ad,c,e,_,hK,hc0⟩:=Kd.z2Y h z79 i h0 h1
 have hc : ∀ j u,c[j]? = some u → w.cell? (ad.add (i.toNat * 2 + j)) = some u:=hc0
 obtain rfl:=k79_open hK
 exact ⟨ad,e,hc 0 _ rfl,by rw [← z1j _ _ 1 (by omega)];exact hc 1 _ rfl⟩
end Go.Proofs.Ytngcaphdkgihmaa.P
namespace Go.Proofs.Ytngcaphdkgihmaa.P
open Go.RowKit Go.Proofs.YtngcaphdkgihmaaW.PrintWords Go.Proofs.YtngcaphdkgihmaaW.PrintLast Go.Proofs.YtngcaphdkgihmaaW.PrintMore
attribute [local go_sem] zX zZ z16 z17 zT zU zY z10   -- for this text's walks alone
set_option linter.unusedVariables false
set_option linter.unusedSimpArgs false
theorem eqA61 (d : Nat) (w : World) (x0 y0 : Int) (x1 y1 : Int) :
 (Op.equalIn (d + 2) 61 (.agg #[.int .u64 x0,.int .u64 x1]) (.agg #[.int .u64 y0,.int .u64 y1])).run Try.prog w = .ok (x0 == y0 && (x1 == y1)) w:=by
 refine eqA_of Try.underlying61 (by kernel_rfl) ?_
 refine z4r (by rfl) (by go_simp;rfl) (by go_simp;rfl) (by go_simp) ?_
 exact z4s (by rfl) (by go_simp;rfl) (by go_simp;rfl) (by go_simp)
end Go.Proofs.Ytngcaphdkgihmaa.P
namespace Go.Proofs.Ytngcaphdkgihmaa.P
open Go.RowKit Go.Proofs.YtngcaphdkgihmaaW.PrintWords Go.Proofs.YtngcaphdkgihmaaW.PrintLast Go.Proofs.YtngcaphdkgihmaaW.PrintMore
attribute [local go_sem] zX zZ z16 z17 zT zU zY z10   -- for this text's walks alone
set_option linter.unusedVariables false
set_option linter.unusedSimpArgs false
attribute [local go_sem high] eqA61
def zg.l0 : Nat → List (S51) → List (S61) → Int → Option (Bool)
 | 0,_,_,_=>none
 | k + 1,x0,x1,x5=>if x5 < (x0.length : Int) then (if 0 ≤ x5 then (if x5 < (x1.length : Int) then (if (!(((zt x0 x5).f0) == ((z1B x1 x5).f0)) || (!(((zt x0 x5).f1) == ((z1B x1 x5).f1)))) = true then (some false) else (zg.l0 k x0 x1 (wrap64 (x5 + 1)))) else (none)) else (none)) else (some true)
def zg.f (k : Nat) (l0 : List (S51)) (l1 : List (S61)) : Option (Bool):=if (l0.length : Int) = (l1.length : Int) then (zg.l0 k l0 l1 0) else (some false)
theorem zg.z12 : ∀ k,(∀ y0 y1 y2,LeO (zg.l0 k y0 y1 y2) (zg.l0 (k + 1) y0 y1 y2))
 | 0=>fun _ _ _ r h=>by simp [zg.l0] at h
 | k + 1=>by
  have ih0:=zg.z12 k
  · intro y0 y1 y2
    unfold zg.l0
    repeat' first
    | (with_reducible exact ih0 _ _ _)
    | (with_reducible exact LeO.refl _)
    | (with_reducible exact LeO.none _)
    | (with_reducible refine LeO.ite ?_ ?_)
    | (with_reducible refine LeO.bind ?_ (fun _=>?_))
    | exact ih0 _ _ _
    | exact LeO.none _
    | refine LeO.ite ?_ ?_
    | refine LeO.bind ?_ (fun _=>?_)
theorem zg.mono : ∀ a0 a1 k,LeO (zg.f k a0 a1) (zg.f (k + 1) a0 a1):=by
 intro a0 a1 k
 have ih0:=zg.z12 k
 unfold zg.f
 repeat' first
  | (with_reducible exact ih0 _ _ _)
  | (with_reducible exact LeO.refl _)
  | (with_reducible exact LeO.none _)
  | (with_reducible refine LeO.ite ?_ ?_)
  | (with_reducible refine LeO.bind ?_ (fun _=>?_))
  | exact ih0 _ _ _
  | exact LeO.none _
  | refine LeO.ite ?_ ?_
  | refine LeO.bind ?_ (fun _=>?_)
set_option maxHeartbeats 8000000 in
set_option maxRecDepth 100000 in
theorem zg.calls (k : Nat) (A0 : Option Addr) (c0 : Nat) (l0 : List (S51)) (A1 : Option Addr) (c1 : Nat) (l1 : List (S61)) (r : Bool) (w : World) (hr0 : Kd.C k51 w A0 l0.length l0) (hc0 : l0.length ≤ c0) (hr1 : Kd.C k61 w A1 l1.length l1) (hc1 : l1.length ≤ c1) (h : zg.f k l0 l1 = some r) :
 Calls Try.prog 25 #[.slice A0 l0.length c0,.slice A1 l1.length c1] w fun e w'=>e = .returned (.bool r) ∧ Drawn0 w w':=by
 have hu51:=Try.underlying51
 have hu61:=Try.underlying61
 have HR0:=z2.mk hr0
 have HC0:=z2.mk hc0
 clear hr0 hc0
 have HR1:=z2.mk hr1
 have HC1:=z2.mk hc1
 clear hr1 hc1
 have H : (if (l0.length : Int) = (l1.length : Int) then (zg.l0 k l0 l1 0) else (some false)) = some r:=h
 clear h
 by_cases c3 : (l0.length : Int) = (l1.length : Int)
 rotate_left
 · rw [if_neg c3] at H
   have c3b0 : ((l0.length : Int) == (l1.length : Int)) = false:=beq_eq_false_iff_ne.mpr c3
   have c3b1 : ((l0.length : Int) != (l1.length : Int)) = true:=bne_iff_ne.mpr c3
   have c3b2 : (l0.length == l1.length) = false:=by first|simpa using c3|(simp at c3 ⊢;omega)
   obtain rfl:=Option.some.inj H
   go_enter Try.func25,Try.ntmps25
   go_wp2
   repeat (go_quiet (fail);try go_wp2)
   go_ret
   exact ⟨by first|rfl|(simp;done)|(simp [*];done),by repeat (first|exact Drawn0.refl _|apply Drawn0.step)⟩
 rw [if_pos c3] at H
 have c3b0 : ((l0.length : Int) == (l1.length : Int)) = true:=beq_iff_eq.mpr c3
 have c3b1 : ((l0.length : Int) != (l1.length : Int)) = false:=bne_eq_false_iff_eq.mpr c3
 have c3b2 : (l0.length == l1.length) = true:=by first|simpa using c3|(simp at c3 ⊢;omega)
 clear c3
 have H':=z2.mk H
 clear H
 go_enter Try.func25,Try.ntmps25
 go_wp2
 repeat (go_quiet (fail);try go_wp2)
 go_loopg [5] k (fun kq v5 w'=>∃ (x5_1 : Int),v5 = .int .i64 x5_1 ∧ z2 (zg.l0 kq l0 l1 x5_1 = some r) ∧ z2 (kq ≤ k) ∧ Drawn0 w w')
 case atStart=>exact ⟨(0),(by first|rfl|(simp;done)|(simp [*];done)),H',⟨Nat.le_refl _⟩,by repeat (first|exact Drawn0.refl _|apply Drawn0.step)⟩
 case round =>
  clear H'
  (try clear c1);(try clear c2);(try clear p2);(try clear c3);(try clear c3b0);(try clear c3b1);(try clear c3b2)
  obtain ⟨x5_1,rfl,HA,HK1,⟨m1,rfl⟩⟩:=hrel
  cases gk with
  | zero=>exact absurd HA.out (by simp [zg.l0])
  | succ k1 =>
   have H:=HA.out
   clear HA
   simp only [zg.l0] at H
   by_cases c4 : x5_1 < (l0.length : Int)
   rotate_left
   · rw [if_neg c4] at H
     have c4b0 : decide (x5_1 < (l0.length : Int)) = false:=decide_eq_false c4
     clear c4
     obtain rfl:=Option.some.inj H
     go_wp2
     repeat (go_quiet (fail);try go_wp2)
     go_ret
     exact ⟨by first|rfl|(simp;done)|(simp [*];done),by repeat (first|exact Drawn0.refl _|apply Drawn0.step)⟩
   rw [if_pos c4] at H
   have c4b0 : decide (x5_1 < (l0.length : Int)) = true:=decide_eq_true c4
   clear c4
   by_cases c5 : 0 ≤ x5_1
   rotate_left
   · rw [if_neg c5] at H
     exact absurd H (by simp)
   rw [if_pos c5] at H
   have c5b0 : decide (0 ≤ x5_1) = true:=decide_eq_true c5
   clear c5
   by_cases c6 : x5_1 < (l1.length : Int)
   rotate_left
   · rw [if_neg c6] at H
     exact absurd H (by simp)
   rw [if_pos c6] at H
   have c6b0 : decide (x5_1 < (l1.length : Int)) = true:=decide_eq_true c6
   clear c6
   by_cases c7 : (!(((zt l0 x5_1).f0) == ((z1B l1 x5_1).f0)) || (!(((zt l0 x5_1).f1) == ((z1B l1 x5_1).f1)))) = true
   · rw [if_pos c7] at H
     have c7b0 : (!(((zt l0 x5_1).f0) == ((z1B l1 x5_1).f0)) || (!(((zt l0 x5_1).f1) == ((z1B l1 x5_1).f1)))) = true:=c7
     clear c7
     obtain rfl:=Option.some.inj H
     have p101 : 0 ≤ (x5_1 : Int):=of_decide_eq_true (by first|(with_reducible assumption)|assumption)
     have q101 : x5_1 < (l0.length : Int):=of_decide_eq_true (by first|(with_reducible assumption)|assumption)
     obtain ⟨ad101,e101,hx101_0,hx101_1⟩:=z2b HR0.out x5_1 p101 q101
     cases e101
     replace p101:=eq_true p101
     replace q101:=eq_true q101
     have p102 : 0 ≤ (x5_1 : Int):=of_decide_eq_true (by first|(with_reducible assumption)|assumption)
     have q102 : x5_1 < (l1.length : Int):=of_decide_eq_true (by first|(with_reducible assumption)|assumption)
     obtain ⟨ad102,e102,hx102_0,hx102_1⟩:=z4q HR1.out x5_1 p102 q102
     cases e102
     replace p102:=eq_true p102
     replace q102:=eq_true q102
     go_wp2
     repeat (go_quiet (fail);try go_wp2)
     go_ret
     exact ⟨by first|rfl|(simp;done)|(simp [*];done),by repeat (first|exact Drawn0.refl _|apply Drawn0.step)⟩
   rw [if_neg c7] at H
   have c7b0 : (!(((zt l0 x5_1).f0) == ((z1B l1 x5_1).f0)) || (!(((zt l0 x5_1).f1) == ((z1B l1 x5_1).f1)))) = false:=by simpa using c7
   clear c7
   have H':=z2.mk H
   clear H
   have p101 : 0 ≤ (x5_1 : Int):=of_decide_eq_true (by first|(with_reducible assumption)|assumption)
   have q101 : x5_1 < (l0.length : Int):=of_decide_eq_true (by first|(with_reducible assumption)|assumption)
   obtain ⟨ad101,e101,hx101_0,hx101_1⟩:=z2b HR0.out x5_1 p101 q101
   cases e101
   replace p101:=eq_true p101
   replace q101:=eq_true q101
   have p102 : 0 ≤ (x5_1 : Int):=of_decide_eq_true (by first|(with_reducible assumption)|assumption)
   have q102 : x5_1 < (l1.length : Int):=of_decide_eq_true (by first|(with_reducible assumption)|assumption)
   obtain ⟨ad102,e102,hx102_0,hx102_1⟩:=z4q HR1.out x5_1 p102 q102
   cases e102
   replace p102:=eq_true p102
   replace q102:=eq_true q102
   go_wp2
   repeat (go_quiet (fail);try go_wp2)
   go_roundg k1
   case measure=>have:=HK1.out;omega
   case rel=>exact ⟨(wrap64 (x5_1 + 1)),(by first|rfl|(simp;done)|(simp [*];done)),H',⟨by have:=HK1.out;omega⟩,by repeat (first|exact Drawn0.refl _|apply Drawn0.step)⟩
end Go.Proofs.Ytngcaphdkgihmaa.P
namespace Go.Proofs.Ytngcaphdkgihmaa.P
open Go.RowKit Go.Proofs.YtngcaphdkgihmaaW.PrintWords Go.Proofs.YtngcaphdkgihmaaW.PrintLast Go.Proofs.YtngcaphdkgihmaaW.PrintMore
attribute [local go_sem] zX zZ z16 z17 zT zU zY z10   -- for this text's walks alone
set_option linter.unusedVariables false
set_option linter.unusedSimpArgs false
def z1g.f (a0_0 : Int) (a0_1 : Int) (a1 : Int) : Option (Int):=if a1 ≥ 64 then (if 0 ≤ (IntKind.u64.wrap (wrap64 (a1 - 64))) then (some (Go.bits .and .u64 (shr .u64 a0_0 (IntKind.u64.wrap (wrap64 (a1 - 64)))) 1)) else (none)) else (if 0 ≤ (IntKind.u64.wrap (a1)) then (some (Go.bits .and .u64 (shr .u64 a0_1 (IntKind.u64.wrap (a1))) 1)) else (none))
set_option maxHeartbeats 8000000 in
set_option maxRecDepth 100000 in
theorem z1g.calls (a0_0 : Int) (a0_1 : Int) (a1 : Int) (r : Int) (w : World) (h : z1g.f a0_0 a0_1 a1 = some r) :
 Calls Try.prog 81 #[.agg #[.int .u64 a0_0,.int .u64 a0_1],.int .i64 a1] w fun e w'=>e = .returned (.int .u64 r) ∧ Below w.heap.size w w':=by
 have hu61:=Try.underlying61
 have HB:=z2.mk (Below.refl w.heap.size w)
 have H : (if a1 ≥ 64 then (if 0 ≤ (IntKind.u64.wrap (wrap64 (a1 - 64))) then (some (Go.bits .and .u64 (shr .u64 a0_0 (IntKind.u64.wrap (wrap64 (a1 - 64)))) 1)) else (none)) else (if 0 ≤ (IntKind.u64.wrap (a1)) then (some (Go.bits .and .u64 (shr .u64 a0_1 (IntKind.u64.wrap (a1))) 1)) else (none))) = some r:=h
 clear h
 by_cases c3 : a1 ≥ 64
 · rw [if_pos c3] at H
   have c3b0 : decide (64 ≤ a1) = true:=decide_eq_true c3
   clear c3
   obtain ⟨ji4,hji4⟩ : ∃ j_ : Int,(IntKind.u64.wrap (wrap64 (a1 - 64))) = j_:=⟨_,rfl⟩
   replace H : (if 0 ≤ (ji4) then (some (Go.bits .and .u64 (shr .u64 a0_0 (ji4)) 1)) else (none)) = some r:=by first|(rw [hji4] at H;exact H)|(simp only [hji4] at H ⊢;exact H)
   by_cases c5 : 0 ≤ (ji4)
   rotate_left
   · rw [if_neg c5] at H
     exact absurd H (by simp)
   rw [if_pos c5] at H
   have c5b0:=eq_true c5
   have c5b1 : decide (0 ≤ (ji4)) = true:=decide_eq_true c5
   clear c5
   obtain ⟨ji6,hji6⟩ : ∃ j_ : Int,(shr .u64 a0_0 (ji4)) = j_:=⟨_,rfl⟩
   replace H : (some (Go.bits .and .u64 (ji6) 1)) = some r:=by first|(rw [hji6] at H;exact H)|(simp only [hji6] at H ⊢;exact H)
   have hji6_ : (a0_0 / 2 ^ min (ji4).toNat 64) = ji6:=hji6
   have hji6z : (ji4) ≤ 64 → (a0_0 / 2 ^ (ji4).toNat) = ji6:=z24 hji6
   obtain rfl:=Option.some.inj H
   go_enter Try.func81,Try.ntmps81
   go_wp2_with (first|((with_reducible refine zG (N:=2) rfl ?_);refine zC ?hg (N:=2) ?hd (cs:=#[.int .u64 a0_0,.int .u64 a0_1]) (t:=61) ?hr ?_;(case hd=>rfl);(case hg=>rfl);(case hr=>first|(go_simp;done)|(go_simp;rfl));intro gb101 hg w7 hbox hb;have n0_:=z2.mk (zd (by repeat (first|(with_reducible first|exact HB.out|apply z7|apply z1|apply z6)|exact HB.out)) hb);have n1_:=z2.mk (hbox);have n2_:=z2.mk ((by rw [hg];exact (ze (by repeat (first|(with_reducible first|exact HB.out|apply z7|apply z1|apply z6)|exact HB.out))) : w.heap.size ≤ gb101));have n3_:=z2.mk ((by rw [hg];exact (ze (by repeat (first|(with_reducible first|exact HB.out|apply z7|apply z1|apply z6)|exact HB.out))) : w.heap.size ≤ gb101));clear HB;have HB:=n0_;have BK101:=n1_;have GW101:=n2_;have GE101:=n3_;clear n0_ n1_ n2_ n3_;clear hb hbox hg;have hcz8_0 : w7.cell? ⟨gb101,0,none⟩ = some (.int .u64 a0_0):=(za BK101.out 0).trans rfl;have hcz8_1 : w7.cell? ⟨gb101,1,none⟩ = some (.int .u64 a0_1):=(za BK101.out 1).trans rfl;have hfz8_0:=zb BK101.out 0;have hfz8_1:=zb BK101.out 1))
   go_ret
   exact ⟨by first|rfl|(simp [zl,zm] <;> rfl)|(simp only [← hji4,← hji6];first|rfl|(simp [zl,zm] <;> rfl))|(simp [*,zl,zm] <;> rfl),by repeat (first|(with_reducible first|exact HB.out|apply z7|apply z1|apply z6|refine z5 ?_ GE101.out)|exact HB.out)⟩
 rw [if_neg c3] at H
 have c3b0 : decide (64 ≤ a1) = false:=decide_eq_false c3
 clear c3
 obtain ⟨ji9,hji9⟩ : ∃ j_ : Int,(IntKind.u64.wrap (a1)) = j_:=⟨_,rfl⟩
 replace H : (if 0 ≤ (ji9) then (some (Go.bits .and .u64 (shr .u64 a0_1 (ji9)) 1)) else (none)) = some r:=by first|(rw [hji9] at H;exact H)|(simp only [hji9] at H ⊢;exact H)
 by_cases c10 : 0 ≤ (ji9)
 rotate_left
 · rw [if_neg c10] at H
   exact absurd H (by simp)
 rw [if_pos c10] at H
 have c10b0:=eq_true c10
 have c10b1 : decide (0 ≤ (ji9)) = true:=decide_eq_true c10
 clear c10
 obtain ⟨ji11,hji11⟩ : ∃ j_ : Int,(shr .u64 a0_1 (ji9)) = j_:=⟨_,rfl⟩
 replace H : (some (Go.bits .and .u64 (ji11) 1)) = some r:=by first|(rw [hji11] at H;exact H)|(simp only [hji11] at H ⊢;exact H)
 have hji11_ : (a0_1 / 2 ^ min (ji9).toNat 64) = ji11:=hji11
 have hji11z : (ji9) ≤ 64 → (a0_1 / 2 ^ (ji9).toNat) = ji11:=z24 hji11
 obtain rfl:=Option.some.inj H
 go_enter Try.func81,Try.ntmps81
 go_wp2_with (first|((with_reducible refine zG (N:=2) rfl ?_);refine zC ?hg (N:=2) ?hd (cs:=#[.int .u64 a0_0,.int .u64 a0_1]) (t:=61) ?hr ?_;(case hd=>rfl);(case hg=>rfl);(case hr=>first|(go_simp;done)|(go_simp;rfl));intro gb101 hg w12 hbox hb;have n0_:=z2.mk (zd (by repeat (first|(with_reducible first|exact HB.out|apply z7|apply z1|apply z6)|exact HB.out)) hb);have n1_:=z2.mk (hbox);have n2_:=z2.mk ((by rw [hg];exact (ze (by repeat (first|(with_reducible first|exact HB.out|apply z7|apply z1|apply z6)|exact HB.out))) : w.heap.size ≤ gb101));have n3_:=z2.mk ((by rw [hg];exact (ze (by repeat (first|(with_reducible first|exact HB.out|apply z7|apply z1|apply z6)|exact HB.out))) : w.heap.size ≤ gb101));clear HB;have HB:=n0_;have BK101:=n1_;have GW101:=n2_;have GE101:=n3_;clear n0_ n1_ n2_ n3_;clear hb hbox hg;have hcz13_0 : w12.cell? ⟨gb101,0,none⟩ = some (.int .u64 a0_0):=(za BK101.out 0).trans rfl;have hcz13_1 : w12.cell? ⟨gb101,1,none⟩ = some (.int .u64 a0_1):=(za BK101.out 1).trans rfl;have hfz13_0:=zb BK101.out 0;have hfz13_1:=zb BK101.out 1))
 go_ret
 exact ⟨by first|rfl|(simp [zl,zm] <;> rfl)|(simp only [← hji9,← hji11];first|rfl|(simp [zl,zm] <;> rfl))|(simp [*,zl,zm] <;> rfl),by repeat (first|(with_reducible first|exact HB.out|apply z7|apply z1|apply z6|refine z5 ?_ GE101.out)|exact HB.out)⟩
end Go.Proofs.Ytngcaphdkgihmaa.P
namespace Go.Proofs.Ytngcaphdkgihmaa.P
open Go.RowKit Go.Proofs.YtngcaphdkgihmaaW.PrintWords Go.Proofs.YtngcaphdkgihmaaW.PrintLast Go.Proofs.YtngcaphdkgihmaaW.PrintMore
attribute [local go_sem] zX zZ z16 z17 zT zU zY z10   -- for this text's walks alone
set_option linter.unusedVariables false
set_option linter.unusedSimpArgs false
mutual
def zk.j0 : Nat → Int → List Int → Bool → Int → Int → Option (Bool)
 | 0,_,_,_,_,_=>none
 | k + 1,x0,x5,x13,x102000,x102001=>if x13 = true then (some false) else (if 0 ≤ x0 then (if x0 < (x5.length : Int) then (zk.l0 k (rd x5 x0) x102000 x102001) else (none)) else (none))
def zk.l0 : Nat → Int → Int → Int → Option (Bool)
 | 0,_,_,_=>none
 | k + 1,x6,x102000,x102001=>if x6 < 128 then ((z1g.f x102000 x102001 x6).bind fun t106=>(if t106 = 1 then (some false) else (zk.l0 k (wrap64 (x6 + 1)) x102000 x102001))) else (some true)
end
def zk.f (k : Nat) (a0 : Int) (a1_0 : Int) (a1_1 : Int) : Option (Bool):=(some (([1,2,4,8,16,32,64,128] : List Int) : List Int)).bind fun y102=>(if a0 < 0 then (zk.j0 k a0 y102 true a1_0 a1_1) else (zk.j0 k a0 y102 (decide (a0 > 7)) a1_0 a1_1))
theorem zk.z12 : ∀ k,(∀ y0 y1 y2 y3 y4,LeO (zk.j0 k y0 y1 y2 y3 y4) (zk.j0 (k + 1) y0 y1 y2 y3 y4)) ∧ (∀ y0 y1 y2,LeO (zk.l0 k y0 y1 y2) (zk.l0 (k + 1) y0 y1 y2))
 | 0=>⟨fun _ _ _ _ _ r h=>by simp [zk.j0] at h,fun _ _ _ r h=>by simp [zk.l0] at h⟩
 | k + 1=>by
  obtain ⟨ih0,ih1⟩:=zk.z12 k
  refine ⟨?_,?_⟩
  · intro y0 y1 y2 y3 y4
    unfold zk.j0
    repeat' first
    | (with_reducible exact ih0 _ _ _ _ _)
    | (with_reducible exact ih1 _ _ _)
    | (with_reducible exact LeO.refl _)
    | (with_reducible exact LeO.none _)
    | (with_reducible refine LeO.ite ?_ ?_)
    | (with_reducible refine LeO.bind ?_ (fun _=>?_))
    | exact ih0 _ _ _ _ _
    | exact ih1 _ _ _
    | exact LeO.none _
    | refine LeO.ite ?_ ?_
    | refine LeO.bind ?_ (fun _=>?_)
  · intro y0 y1 y2
    unfold zk.l0
    repeat' first
    | (with_reducible exact ih0 _ _ _ _ _)
    | (with_reducible exact ih1 _ _ _)
    | (with_reducible exact LeO.refl _)
    | (with_reducible exact LeO.none _)
    | (with_reducible refine LeO.ite ?_ ?_)
    | (with_reducible refine LeO.bind ?_ (fun _=>?_))
    | exact ih0 _ _ _ _ _
    | exact ih1 _ _ _
    | exact LeO.none _
    | refine LeO.ite ?_ ?_
    | refine LeO.bind ?_ (fun _=>?_)
theorem zk.mono : ∀ a0 a1 a2 k,LeO (zk.f k a0 a1 a2) (zk.f (k + 1) a0 a1 a2):=by
 intro a0 a1 a2 k
 obtain ⟨ih0,ih1⟩:=zk.z12 k
 unfold zk.f
 repeat' first
  | (with_reducible exact ih0 _ _ _ _ _)
  | (with_reducible exact ih1 _ _ _)
  | (with_reducible exact LeO.refl _)
  | (with_reducible exact LeO.none _)
  | (with_reducible refine LeO.ite ?_ ?_)
  | (with_reducible refine LeO.bind ?_ (fun _=>?_))
  | exact ih0 _ _ _ _ _
  | exact ih1 _ _ _
  | exact LeO.none _
  | refine LeO.ite ?_ ?_
  | refine LeO.bind ?_ (fun _=>?_)
set_option maxHeartbeats 8000000 in
set_option maxRecDepth 100000 in
theorem zk.calls (k : Nat) (a0 : Int) (a1_0 : Int) (a1_1 : Int) (r : Bool) (w : World) (h : zk.f k a0 a1_0 a1_1 = some r) :
 Calls Try.prog 39 #[.int .i64 a0,.agg #[.int .u64 a1_0,.int .u64 a1_1]] w fun e w'=>e = .returned (.bool r) ∧ Below w.heap.size w w':=by
 have hu61:=Try.underlying61
 have HB:=z2.mk (Below.refl w.heap.size w)
 have H : ((some (([1,2,4,8,16,32,64,128] : List Int) : List Int)).bind fun y102=>(if a0 < 0 then (zk.j0 k a0 y102 true a1_0 a1_1) else (zk.j0 k a0 y102 (decide (a0 > 7)) a1_0 a1_1))) = some r:=h
 clear h
 obtain ⟨y102,hy102⟩ : ∃ y_ : List Int,y_ = (([1,2,4,8,16,32,64,128] : List Int)):=⟨_,rfl⟩
 replace H : (if a0 < 0 then (zk.j0 k a0 y102 true a1_0 a1_1) else (zk.j0 k a0 y102 (decide (a0 > 7)) a1_0 a1_1)) = some r:=by first|(rw [hy102];with_reducible exact H)|(have H2_:=(Option.bind_some _ _).symm.trans H;rw [hy102];with_reducible exact H2_)|(have H2_:=(Option.bind_some _ _).symm.trans H;with_reducible exact H2_)|with_reducible exact H|(rw [hy102];exact H)|exact H
 have Ny102:=z2.mk hy102
 clear hy102
 have HC3:=z2.mk H
 clear H
 go_enter Try.func39,Try.ntmps39
 go_upto_region 2 with (first|((with_reducible refine zG (N:=3) rfl ?_);refine zC ?hg (N:=3) ?hd (cs:=#[.int .u64 a1_0,.int .u64 a1_1]) (t:=61) ?hr ?_;(case hd=>rfl);(case hg=>rfl);(case hr=>first|(go_simp;done)|(go_simp;rfl));intro gb101 hg w4 hbox hb;have n0_:=z2.mk (zd (by repeat (first|(with_reducible first|exact HB.out|apply z7|apply z1|apply z6)|exact HB.out)) hb);have n1_:=z2.mk (hbox);have n2_:=z2.mk ((by rw [hg];exact (ze (by repeat (first|(with_reducible first|exact HB.out|apply z7|apply z1|apply z6)|exact HB.out))) : w.heap.size ≤ gb101));have n3_:=z2.mk ((by rw [hg];exact (ze (by repeat (first|(with_reducible first|exact HB.out|apply z7|apply z1|apply z6)|exact HB.out))) : w.heap.size ≤ gb101));clear HB;have HB:=n0_;have BK101:=n1_;have GW101:=n2_;have GE101:=n3_;clear n0_ n1_ n2_ n3_;clear hb hbox hg)|((with_reducible refine zG (N:=7) rfl ?_);refine Kd.R_lit (Kd.int .i64) _ 3 ?hg (N:=7) ?hd (xs:=([1,2,4,8,16,32,64,128] : List Int)) (inner:=[.int .i64 1,.int .i64 2,.int .i64 4,.int .i64 8,.int .i64 16,.int .i64 32,.int .i64 64,.int .i64 128]) (ok:=fun _=>True) (okp:=fun _=>True) ?hr ?hp (fun _ hk=>hk) trivial (Below.refl _ _) (Nat.le_refl _) (by simp) ?_;(case hd=>rfl);(case hg=>rfl);(case hr=>first|(go_simp;done)|(go_simp;rfl));(case hp=>exact (Reps.one (show Kd.M (Kd.int .i64) _ _ _ 1 [.int .i64 1] from rfl) (Reps.one (show Kd.M (Kd.int .i64) _ _ _ 2 [.int .i64 2] from rfl) (Reps.one (show Kd.M (Kd.int .i64) _ _ _ 4 [.int .i64 4] from rfl) (Reps.one (show Kd.M (Kd.int .i64) _ _ _ 8 [.int .i64 8] from rfl) (Reps.one (show Kd.M (Kd.int .i64) _ _ _ 16 [.int .i64 16] from rfl) (Reps.one (show Kd.M (Kd.int .i64) _ _ _ 32 [.int .i64 32] from rfl) (Reps.one (show Kd.M (Kd.int .i64) _ _ _ 64 [.int .i64 64] from rfl) (Reps.one (show Kd.M (Kd.int .i64) _ _ _ 128 [.int .i64 128] from rfl) (Reps.none _ _))))))))));intro v103 w5 ho6 hb hg_ hnew_;clear hg_ hnew_;(first|rw [← Ny102.out] at ho6|(simp only [Int.reduceToNat] at ho6;rw [← Ny102.out] at ho6));have n0_:=z2.mk (Kd.z14 ho6 (ze (by repeat (first|(with_reducible first|exact HB.out|apply z7|apply z1|apply z6|refine z5 ?_ GE101.out)|exact HB.out))));have n1_:=z2.mk (z9 (g:=gb101) (o:=.cells #[.int .u64 a1_0,.int .u64 a1_1] 61 (0,0)) (by (with_reducible repeat (first|refine z4 ?_ _|refine z8 ?_|refine z3 ?_ _));exact BK101.out) hb);have n2_:=z2.mk (zd (by repeat (first|(with_reducible first|exact HB.out|apply z7|apply z1|apply z6|refine z5 ?_ GE101.out)|exact HB.out)) hb);clear BK101;clear HB;have HO104:=n0_;have BK101:=n1_;have HB:=n2_;clear n0_ n1_ n2_;clear hb ho6))
 (try simp only [Act.put,List.setIfInBounds_toArray,List.set_cons_zero,List.set_cons_succ])
 go_cut [13] (fun v13 wc=>∃ (kq : Nat) (x13_2 : Bool),v13 = .bool x13_2 ∧ z2 (zk.j0 kq a0 y102 x13_2 a1_0 a1_1 = some r) ∧ z2 (kq ≤ k) ∧ z2 (Kd.R (Kd.int .i64) 3 wc w.heap.size (fun _=>True) v103 y102) ∧ z2 (wc.heap[gb101]? = some (.cells #[.int .u64 a1_0,.int .u64 a1_1] 61 (0,0))) ∧ z2 (Below w.heap.size w wc))
 case first =>
  have H:=HC3.out
  clear HC3
  by_cases c7 : a0 < 0
  rotate_left
  · rw [if_neg c7] at H
    have c7b0 : decide (a0 < 0) = false:=decide_eq_false c7
    clear c7
    (first|rw [c7b0]|(simp only [zR,zV];rw [c7b0])|skip)
    have H':=z2.mk H
    clear H
    go_wp2
    go_meet
    case rel=>exact ⟨_,(decide (a0 > 7)),(by first|rfl|(simp;done)|(simp [*];done)),H',⟨by first|omega|exact Nat.le_refl _⟩,⟨by (with_reducible repeat (first|apply Kd.zi|apply Kd.zj|apply Kd.zo));exact HO104.out⟩,⟨by (with_reducible repeat (first|refine z4 ?_ _|refine z8 ?_|refine z3 ?_ _));exact BK101.out⟩,⟨by repeat (first|(with_reducible first|exact HB.out|apply z7|apply z1|apply z6|refine z5 ?_ GE101.out)|exact HB.out)⟩⟩
  rw [if_pos c7] at H
  have c7b0 : decide (a0 < 0) = true:=decide_eq_true c7
  clear c7
  (first|rw [c7b0]|(simp only [zR,zV];rw [c7b0])|skip)
  have H':=z2.mk H
  clear H
  go_wp2
  go_meet
  case rel=>exact ⟨_,(true),(by first|rfl|(simp;done)|(simp [*];done)),H',⟨by first|omega|exact Nat.le_refl _⟩,⟨by (with_reducible repeat (first|apply Kd.zi|apply Kd.zj|apply Kd.zo));exact HO104.out⟩,⟨by (with_reducible repeat (first|refine z4 ?_ _|refine z8 ?_|refine z3 ?_ _));exact BK101.out⟩,⟨by repeat (first|(with_reducible first|exact HB.out|apply z7|apply z1|apply z6|refine z5 ?_ GE101.out)|exact HB.out)⟩⟩
 case rest =>
  clear HC3
  (try clear p2);(try clear c3);(try clear c7);(try clear c7b0)
  obtain ⟨kq,x13_2,rfl,HA,HJ2,HO_5,BK101,HB⟩:=hcut
  cases kq with
  | zero=>exact absurd HA.out (by simp [zk.j0])
  | succ kj2 =>
   have H:=HA.out
   clear HA
   simp only [zk.j0] at H
   by_cases c8 : x13_2 = true
   · subst c8
     have H1 : (some false) = some r:=by rw [if_pos rfl] at H;exact H
     clear H
     have H:=H1
     clear H1
     obtain rfl:=Option.some.inj H
     go_wp2
     go_ret
     exact ⟨by first|rfl|(simp [zl,zm] <;> rfl)|(simp [*,zl,zm] <;> rfl),by repeat (first|(with_reducible first|exact HB.out|apply z7|apply z1|apply z6|refine z5 ?_ GE101.out)|exact HB.out)⟩
   replace c8:=Bool.eq_false_iff.mpr c8
   subst c8
   have H1 : (if 0 ≤ a0 then (if a0 < (y102.length : Int) then (zk.l0 kj2 (rd y102 a0) a1_0 a1_1) else (none)) else (none)) = some r:=by rw [if_neg (show ¬ (false = true) by decide)] at H;exact H
   clear H
   have H:=H1
   clear H1
   by_cases c9 : 0 ≤ a0
   rotate_left
   · rw [if_neg c9] at H
     exact absurd H (by simp)
   rw [if_pos c9] at H
   have c9b0 : decide (0 ≤ a0) = true:=decide_eq_true c9
   clear c9
   by_cases c10 : a0 < (y102.length : Int)
   rotate_left
   · rw [if_neg c10] at H
     exact absurd H (by simp)
   rw [if_pos c10] at H
   have c10b0 : decide (a0 < (y102.length : Int)) = true:=decide_eq_true c10
   clear c10
   have H':=z2.mk H
   clear H
   obtain ⟨Ao11,co11,eo11⟩:=Kd.z13 HO_5.out
   subst eo11
   have p105 : 0 ≤ (a0 : Int):=of_decide_eq_true (by first|(with_reducible assumption)|assumption)
   have q105 : a0 < (y102.length : Int):=of_decide_eq_true (by first|(with_reducible assumption)|assumption)
   obtain ⟨ad105,e105,hx105_0⟩:=Kd.at_int (Kd.zM HO_5.out).2.2 a0 p105 q105
   cases e105
   replace p105:=eq_true p105
   replace q105:=eq_true q105
   go_wp2
   go_loopg [6] kj2 (fun kq v6 w'=>∃ (x6_2 : Int),v6 = .int .i64 x6_2 ∧ z2 (zk.l0 kq x6_2 a1_0 a1_1 = some r) ∧ z2 (kq ≤ kj2) ∧ z2 (w'.heap[gb101]? = some (.cells #[.int .u64 a1_0,.int .u64 a1_1] 61 (0,0))) ∧ z2 (Below w.heap.size w w'))
   case atStart=>exact ⟨(rd y102 a0),(by first|rfl|(simp;done)|(simp [*];done)),H',⟨Nat.le_refl _⟩,⟨by (with_reducible repeat (first|refine z4 ?_ _|refine z8 ?_|refine z3 ?_ _));exact BK101.out⟩,⟨by repeat (first|(with_reducible first|exact HB.out|apply z7|apply z1|apply z6|refine z5 ?_ GE101.out)|exact HB.out)⟩⟩
   case round =>
    clear H'
    (try clear c1);(try clear p1);(try clear q1);(try clear hx1);(try clear p2);(try clear c3);(try clear c7);(try clear c7b0);(try clear c8);(try clear c9);(try clear c9b0);(try clear c10);(try clear c10b0);(try clear p10);(try clear q10);(try clear hx10);(try clear hx105_0);(try clear p105);(try clear p2);(try clear q105)
    obtain ⟨x6_2,rfl,HA,HK2,BK101,HB⟩:=hrel
    cases gk with
    | zero=>exact absurd HA.out (by simp [zk.l0])
    | succ k2 =>
     have H:=HA.out
     clear HA
     simp only [zk.l0] at H
     by_cases c12 : x6_2 < 128
     rotate_left
     · rw [if_neg c12] at H
       have c12b0 : decide (x6_2 < 128) = false:=decide_eq_false c12
       clear c12
       obtain rfl:=Option.some.inj H
       go_wp2
       go_ret
       exact ⟨by first|rfl|(simp [zl,zm] <;> rfl)|(simp [*,zl,zm] <;> rfl),by repeat (first|(with_reducible first|exact HB.out|apply z7|apply z1|apply z6|refine z5 ?_ GE101.out)|exact HB.out)⟩
     rw [if_pos c12] at H
     have c12b0 : decide (x6_2 < 128) = true:=decide_eq_true c12
     clear c12
     replace H:=Option.bind_eq_some_iff.mp H
     obtain ⟨t106,A130,H⟩:=H
     replace H : (if t106 = 1 then (some false) else (zk.l0 k2 (wrap64 (x6_2 + 1)) a1_0 a1_1)) = some r:=H
     have A13:=z2.mk A130
     clear A130
     by_cases c14 : t106 = 1
     · rw [if_pos c14] at H
       have c14b0 : (t106 == 1) = true:=beq_iff_eq.mpr c14
       have c14b1 : (t106 != 1) = false:=bne_eq_false_iff_eq.mpr c14
       clear c14
       obtain rfl:=Option.some.inj H
       have hcz15_0 : wr.cell? ⟨gb101,0,none⟩ = some (.int .u64 a1_0):=(za BK101.out 0).trans rfl
       have hcz15_1 : wr.cell? ⟨gb101,1,none⟩ = some (.int .u64 a1_1):=(za BK101.out 1).trans rfl
       have hfz15_0:=zb BK101.out 0
       have hfz15_1:=zb BK101.out 1
       go_wp2_with (first|((with_reducible refine zp (f:=81) rfl ?_);refine goesL_ (some 24) rfl rfl Try.func81 (by kernel_rfl) rfl #[.agg #[.int .u64 a1_0,.int .u64 a1_1],.int .i64 x6_2] rfl (by (try simp only [List.map_toArray,List.map_cons,List.map_nil]);first|done|rfl|(simp only [List.length_drop,List.length_take];rfl)) ?_;(with_reducible refine (z1g.calls a1_0 a1_1 x6_2 t106 _ A13.out).mono ?_);rintro e w16 ⟨rfl,hb⟩;refine ⟨_,rfl,?_⟩;have n0_:=z2.mk (z9 (g:=gb101) (o:=.cells #[.int .u64 a1_0,.int .u64 a1_1] 61 (0,0)) (by (with_reducible repeat (first|refine z4 ?_ _|refine z8 ?_|refine z3 ?_ _));exact BK101.out) hb);have n1_:=z2.mk (zd (by repeat (first|(with_reducible first|exact HB.out|apply z7|apply z1|apply z6|refine z5 ?_ GE101.out)|exact HB.out)) hb);clear BK101;clear HB;have BK101:=n0_;have HB:=n1_;clear n0_ n1_;(try clear hb);(try clear hb2);(try clear hk);(try clear hi)))
       go_ret
       exact ⟨by first|rfl|(simp [zl,zm] <;> rfl)|(simp [*,zl,zm] <;> rfl),by repeat (first|(with_reducible first|exact HB.out|apply z7|apply z1|apply z6|refine z5 ?_ GE101.out)|exact HB.out)⟩
     rw [if_neg c14] at H
     have c14b0 : (t106 == 1) = false:=beq_eq_false_iff_ne.mpr c14
     have c14b1 : (t106 != 1) = true:=bne_iff_ne.mpr c14
     have H':=z2.mk H
     clear H
     have hcz17_0 : wr.cell? ⟨gb101,0,none⟩ = some (.int .u64 a1_0):=(za BK101.out 0).trans rfl
     have hcz17_1 : wr.cell? ⟨gb101,1,none⟩ = some (.int .u64 a1_1):=(za BK101.out 1).trans rfl
     have hfz17_0:=zb BK101.out 0
     have hfz17_1:=zb BK101.out 1
     go_wp2_with (first|((with_reducible refine zp (f:=81) rfl ?_);refine goesL_ (some 24) rfl rfl Try.func81 (by kernel_rfl) rfl #[.agg #[.int .u64 a1_0,.int .u64 a1_1],.int .i64 x6_2] rfl (by (try simp only [List.map_toArray,List.map_cons,List.map_nil]);first|done|rfl|(simp only [List.length_drop,List.length_take];rfl)) ?_;(with_reducible refine (z1g.calls a1_0 a1_1 x6_2 t106 _ A13.out).mono ?_);rintro e w18 ⟨rfl,hb⟩;refine ⟨_,rfl,?_⟩;have n0_:=z2.mk (z9 (g:=gb101) (o:=.cells #[.int .u64 a1_0,.int .u64 a1_1] 61 (0,0)) (by (with_reducible repeat (first|refine z4 ?_ _|refine z8 ?_|refine z3 ?_ _));exact BK101.out) hb);have n1_:=z2.mk (zd (by repeat (first|(with_reducible first|exact HB.out|apply z7|apply z1|apply z6|refine z5 ?_ GE101.out)|exact HB.out)) hb);clear BK101;clear HB;have BK101:=n0_;have HB:=n1_;clear n0_ n1_;(try clear hb);(try clear hb2);(try clear hk);(try clear hi)))
     go_roundg k2
     case measure=>have:=HJ2.out;have:=HK2.out;omega
     case rel=>exact ⟨(wrap64 (x6_2 + 1)),(by first|rfl|(simp;done)|(simp [*];done)),H',⟨by have:=HJ2.out;have:=HK2.out;omega⟩,⟨by (with_reducible repeat (first|refine z4 ?_ _|refine z8 ?_|refine z3 ?_ _));exact BK101.out⟩,⟨by repeat (first|(with_reducible first|exact HB.out|apply z7|apply z1|apply z6|refine z5 ?_ GE101.out)|exact HB.out)⟩⟩
end Go.Proofs.Ytngcaphdkgihmaa.P
namespace Go.Proofs.Ytngcaphdkgihmaa.P
open Go.RowKit Go.Proofs.YtngcaphdkgihmaaW.PrintWords Go.Proofs.YtngcaphdkgihmaaW.PrintLast Go.Proofs.YtngcaphdkgihmaaW.PrintMore
attribute [local go_sem] zX zZ z16 z17 zT zU zY z10   -- for this text's walks alone
set_option linter.unusedVariables false
set_option linter.unusedSimpArgs false
def zB.j0 : Nat → Int → Bool → Int → Int → Option (Bool)
 | 0,_,_,_,_=>none
 | k + 1,x0,x5,x102000,x102001=>if x5 = true then (some false) else (if x0 = 7 then (some true) else (if x0 = 6 then (some (x102000 == 0)) else (if x102000 = 0 then (if 0 ≤ x0 then (some ((shr .u64 x102001 (shl .u64 1 x0)) == 0)) else (none)) else (some false))))
def zB.f (k : Nat) (a0 : Int) (a1_0 : Int) (a1_1 : Int) : Option (Bool):=if a0 < 0 then (zB.j0 k a0 true a1_0 a1_1) else (zB.j0 k a0 (decide (a0 > 7)) a1_0 a1_1)
theorem zB.z12 : ∀ k,(∀ y0 y1 y2 y3,LeO (zB.j0 k y0 y1 y2 y3) (zB.j0 (k + 1) y0 y1 y2 y3))
 | 0=>fun _ _ _ _ r h=>by simp [zB.j0] at h
 | k + 1=>by
  have ih0:=zB.z12 k
  · intro y0 y1 y2 y3
    unfold zB.j0
    repeat' first
    | (with_reducible exact ih0 _ _ _ _)
    | (with_reducible exact LeO.refl _)
    | (with_reducible exact LeO.none _)
    | (with_reducible refine LeO.ite ?_ ?_)
    | (with_reducible refine LeO.bind ?_ (fun _=>?_))
    | exact ih0 _ _ _ _
    | exact LeO.none _
    | refine LeO.ite ?_ ?_
    | refine LeO.bind ?_ (fun _=>?_)
theorem zB.mono : ∀ a0 a1 a2 k,LeO (zB.f k a0 a1 a2) (zB.f (k + 1) a0 a1 a2):=by
 intro a0 a1 a2 k
 have ih0:=zB.z12 k
 unfold zB.f
 repeat' first
  | (with_reducible exact ih0 _ _ _ _)
  | (with_reducible exact LeO.refl _)
  | (with_reducible exact LeO.none _)
  | (with_reducible refine LeO.ite ?_ ?_)
  | (with_reducible refine LeO.bind ?_ (fun _=>?_))
  | exact ih0 _ _ _ _
  | exact LeO.none _
  | refine LeO.ite ?_ ?_
  | refine LeO.bind ?_ (fun _=>?_)
set_option maxHeartbeats 8000000 in
set_option maxRecDepth 100000 in
theorem zB.calls (k : Nat) (a0 : Int) (a1_0 : Int) (a1_1 : Int) (r : Bool) (w : World) (h : zB.f k a0 a1_0 a1_1 = some r) :
 Calls Try.prog 67 #[.int .i64 a0,.agg #[.int .u64 a1_0,.int .u64 a1_1]] w fun e w'=>e = .returned (.bool r) ∧ Below w.heap.size w w':=by
 have hu51:=Try.underlying51
 have HB:=z2.mk (Below.refl w.heap.size w)
 have H : (if a0 < 0 then (zB.j0 k a0 true a1_0 a1_1) else (zB.j0 k a0 (decide (a0 > 7)) a1_0 a1_1)) = some r:=h
 clear h
 have HC3:=z2.mk H
 clear H
 go_enter Try.func67,Try.ntmps67
 go_upto_region 1 with (first|((with_reducible refine zG (N:=3) rfl ?_);refine zC ?hg (N:=3) ?hd (cs:=#[.int .u64 a1_0,.int .u64 a1_1]) (t:=51) ?hr ?_;(case hd=>rfl);(case hg=>rfl);(case hr=>first|(go_simp;done)|(go_simp;rfl));intro gb101 hg w4 hbox hb;have n0_:=z2.mk (zd (by repeat (first|(with_reducible first|exact HB.out|apply z7|apply z1|apply z6)|exact HB.out)) hb);have n1_:=z2.mk (hbox);have n2_:=z2.mk ((by rw [hg];exact (ze (by repeat (first|(with_reducible first|exact HB.out|apply z7|apply z1|apply z6)|exact HB.out))) : w.heap.size ≤ gb101));have n3_:=z2.mk ((by rw [hg];exact (ze (by repeat (first|(with_reducible first|exact HB.out|apply z7|apply z1|apply z6)|exact HB.out))) : w.heap.size ≤ gb101));clear HB;have HB:=n0_;have BK101:=n1_;have GW101:=n2_;have GE101:=n3_;clear n0_ n1_ n2_ n3_;clear hb hbox hg))
 repeat (go_quiet (first|((with_reducible refine zG (N:=3) rfl ?_);refine zC ?hg (N:=3) ?hd (cs:=#[.int .u64 a1_0,.int .u64 a1_1]) (t:=51) ?hr ?_;(case hd=>rfl);(case hg=>rfl);(case hr=>first|(go_simp;done)|(go_simp;rfl));intro gb101 hg w4 hbox hb;have n0_:=z2.mk (zd (by repeat (first|(with_reducible first|exact HB.out|apply z7|apply z1|apply z6)|exact HB.out)) hb);have n1_:=z2.mk (hbox);have n2_:=z2.mk ((by rw [hg];exact (ze (by repeat (first|(with_reducible first|exact HB.out|apply z7|apply z1|apply z6)|exact HB.out))) : w.heap.size ≤ gb101));have n3_:=z2.mk ((by rw [hg];exact (ze (by repeat (first|(with_reducible first|exact HB.out|apply z7|apply z1|apply z6)|exact HB.out))) : w.heap.size ≤ gb101));clear HB;have HB:=n0_;have BK101:=n1_;have GW101:=n2_;have GE101:=n3_;clear n0_ n1_ n2_ n3_;clear hb hbox hg));go_upto_region 1 with (first|((with_reducible refine zG (N:=3) rfl ?_);refine zC ?hg (N:=3) ?hd (cs:=#[.int .u64 a1_0,.int .u64 a1_1]) (t:=51) ?hr ?_;(case hd=>rfl);(case hg=>rfl);(case hr=>first|(go_simp;done)|(go_simp;rfl));intro gb101 hg w4 hbox hb;have n0_:=z2.mk (zd (by repeat (first|(with_reducible first|exact HB.out|apply z7|apply z1|apply z6)|exact HB.out)) hb);have n1_:=z2.mk (hbox);have n2_:=z2.mk ((by rw [hg];exact (ze (by repeat (first|(with_reducible first|exact HB.out|apply z7|apply z1|apply z6)|exact HB.out))) : w.heap.size ≤ gb101));have n3_:=z2.mk ((by rw [hg];exact (ze (by repeat (first|(with_reducible first|exact HB.out|apply z7|apply z1|apply z6)|exact HB.out))) : w.heap.size ≤ gb101));clear HB;have HB:=n0_;have BK101:=n1_;have GW101:=n2_;have GE101:=n3_;clear n0_ n1_ n2_ n3_;clear hb hbox hg)))
 (try simp only [Act.put,List.setIfInBounds_toArray,List.set_cons_zero,List.set_cons_succ])
 go_cut [5] (fun v5 wc=>∃ (kq : Nat) (x5_2 : Bool),v5 = .bool x5_2 ∧ z2 (zB.j0 kq a0 x5_2 a1_0 a1_1 = some r) ∧ z2 (kq ≤ k) ∧ z2 (wc.heap[gb101]? = some (.cells #[.int .u64 a1_0,.int .u64 a1_1] 51 (0,0))) ∧ z2 (Below w.heap.size w wc))
 case first =>
  have H:=HC3.out
  clear HC3
  by_cases c5 : a0 < 0
  rotate_left
  · rw [if_neg c5] at H
    have c5b0 : decide (a0 < 0) = false:=decide_eq_false c5
    clear c5
    (first|rw [c5b0]|(simp only [zR,zV];rw [c5b0])|skip)
    have H':=z2.mk H
    clear H
    go_wp2
    repeat (go_quiet (fail);try go_wp2)
    go_meet
    case rel=>exact ⟨_,(decide (a0 > 7)),(by first|rfl|(simp;done)|(simp [*];done)),H',⟨by first|omega|exact Nat.le_refl _⟩,⟨by (with_reducible repeat (first|refine z4 ?_ _|refine z8 ?_|refine z3 ?_ _));exact BK101.out⟩,⟨by repeat (first|(with_reducible first|exact HB.out|apply z7|apply z1|apply z6|refine z5 ?_ GE101.out)|exact HB.out)⟩⟩
  rw [if_pos c5] at H
  have c5b0 : decide (a0 < 0) = true:=decide_eq_true c5
  clear c5
  (first|rw [c5b0]|(simp only [zR,zV];rw [c5b0])|skip)
  have H':=z2.mk H
  clear H
  go_wp2
  repeat (go_quiet (fail);try go_wp2)
  go_meet
  case rel=>exact ⟨_,(true),(by first|rfl|(simp;done)|(simp [*];done)),H',⟨by first|omega|exact Nat.le_refl _⟩,⟨by (with_reducible repeat (first|refine z4 ?_ _|refine z8 ?_|refine z3 ?_ _));exact BK101.out⟩,⟨by repeat (first|(with_reducible first|exact HB.out|apply z7|apply z1|apply z6|refine z5 ?_ GE101.out)|exact HB.out)⟩⟩
 case rest =>
  clear HC3
  (try clear p2);(try clear c5);(try clear c5b0)
  obtain ⟨kq,x5_2,rfl,HA,HJ2,BK101,HB⟩:=hcut
  cases kq with
  | zero=>exact absurd HA.out (by simp [zB.j0])
  | succ kj2 =>
   have H:=HA.out
   clear HA
   simp only [zB.j0] at H
   by_cases c6 : x5_2 = true
   · subst c6
     have H1 : (some false) = some r:=by rw [if_pos rfl] at H;exact H
     clear H
     have H:=H1
     clear H1
     obtain rfl:=Option.some.inj H
     go_wp2
     repeat (go_quiet (fail);try go_wp2)
     go_ret
     exact ⟨by first|rfl|(simp [zl,zm] <;> rfl)|(simp [*,zl,zm] <;> rfl),by repeat (first|(with_reducible first|exact HB.out|apply z7|apply z1|apply z6|refine z5 ?_ GE101.out)|exact HB.out)⟩
   replace c6:=Bool.eq_false_iff.mpr c6
   subst c6
   have H1 : (if a0 = 7 then (some true) else (if a0 = 6 then (some (a1_0 == 0)) else (if a1_0 = 0 then (if 0 ≤ a0 then (some ((shr .u64 a1_1 (shl .u64 1 a0)) == 0)) else (none)) else (some false)))) = some r:=by rw [if_neg (show ¬ (false = true) by decide)] at H;exact H
   clear H
   have H:=H1
   clear H1
   by_cases c7 : a0 = 7
   · rw [if_pos c7] at H
     have c7b0 : (a0 == 7) = true:=beq_iff_eq.mpr c7
     have c7b1 : (a0 != 7) = false:=bne_eq_false_iff_eq.mpr c7
     clear c7
     obtain rfl:=Option.some.inj H
     go_wp2
     repeat (go_quiet (fail);try go_wp2)
     go_ret
     exact ⟨by first|rfl|(simp [zl,zm] <;> rfl)|(simp [*,zl,zm] <;> rfl),by repeat (first|(with_reducible first|exact HB.out|apply z7|apply z1|apply z6|refine z5 ?_ GE101.out)|exact HB.out)⟩
   rw [if_neg c7] at H
   have c7b0 : (a0 == 7) = false:=beq_eq_false_iff_ne.mpr c7
   have c7b1 : (a0 != 7) = true:=bne_iff_ne.mpr c7
   by_cases c8 : a0 = 6
   · rw [if_pos c8] at H
     have c8b0 : (a0 == 6) = true:=beq_iff_eq.mpr c8
     have c8b1 : (a0 != 6) = false:=bne_eq_false_iff_eq.mpr c8
     clear c8
     obtain rfl:=Option.some.inj H
     have hcz9_0 : wc.cell? ⟨gb101,0,none⟩ = some (.int .u64 a1_0):=(za BK101.out 0).trans rfl
     have hcz9_1 : wc.cell? ⟨gb101,1,none⟩ = some (.int .u64 a1_1):=(za BK101.out 1).trans rfl
     have hfz9_0:=zb BK101.out 0
     have hfz9_1:=zb BK101.out 1
     go_wp2
     repeat (go_quiet (fail);try go_wp2)
     go_ret
     exact ⟨by first|rfl|(simp [zl,zm] <;> rfl)|(simp [*,zl,zm] <;> rfl),by repeat (first|(with_reducible first|exact HB.out|apply z7|apply z1|apply z6|refine z5 ?_ GE101.out)|exact HB.out)⟩
   rw [if_neg c8] at H
   have c8b0 : (a0 == 6) = false:=beq_eq_false_iff_ne.mpr c8
   have c8b1 : (a0 != 6) = true:=bne_iff_ne.mpr c8
   by_cases c10 : a1_0 = 0
   rotate_left
   · rw [if_neg c10] at H
     have c10b0 : (a1_0 == 0) = false:=beq_eq_false_iff_ne.mpr c10
     have c10b1 : (a1_0 != 0) = true:=bne_iff_ne.mpr c10
     obtain rfl:=Option.some.inj H
     have hcz15_0 : wc.cell? ⟨gb101,0,none⟩ = some (.int .u64 a1_0):=(za BK101.out 0).trans rfl
     have hcz15_1 : wc.cell? ⟨gb101,1,none⟩ = some (.int .u64 a1_1):=(za BK101.out 1).trans rfl
     have hfz15_0:=zb BK101.out 0
     have hfz15_1:=zb BK101.out 1
     go_wp2
     repeat (go_quiet (fail);try go_wp2)
     go_ret
     exact ⟨by first|rfl|(simp [zl,zm] <;> rfl)|(simp [*,zl,zm] <;> rfl),by repeat (first|(with_reducible first|exact HB.out|apply z7|apply z1|apply z6|refine z5 ?_ GE101.out)|exact HB.out)⟩
   rw [if_pos c10] at H
   have c10b0 : (a1_0 == 0) = true:=beq_iff_eq.mpr c10
   have c10b1 : (a1_0 != 0) = false:=bne_eq_false_iff_eq.mpr c10
   clear c10
   by_cases c11 : 0 ≤ a0
   rotate_left
   · rw [if_neg c11] at H
     exact absurd H (by simp)
   rw [if_pos c11] at H
   have c11b0:=eq_true c11
   have c11b1 : decide (0 ≤ a0) = true:=decide_eq_true c11
   clear c11
   obtain ⟨ji12,hji12⟩ : ∃ j_ : Int,(shl .u64 1 a0) = j_:=⟨_,rfl⟩
   replace H : (some ((shr .u64 a1_1 (ji12)) == 0)) = some r:=by first|(rw [hji12] at H;exact H)|(simp only [hji12] at H ⊢;exact H)
   have hji12_ : (IntKind.u64.wrap (1 * 2 ^ min a0.toNat 64)) = ji12:=hji12
   have hji12z : a0 ≤ 64 → (IntKind.u64.wrap (1 * 2 ^ a0.toNat)) = ji12:=z1p hji12
   have hji12n0 : 0 ≤ ji12:=by rw [← hji12];exact Int.emod_nonneg _ (by decide)
   have hji12n1 : decide (0 ≤ ji12) = true:=decide_eq_true hji12n0
   replace hji12n0:=eq_true hji12n0
   have hji12u : (IntKind.u64.wrap (2 ^ min a0.toNat 64)) = ji12:=by have h_:=hji12_;rw [Int.one_mul] at h_;exact h_
   have hji12v : a0 ≤ 64 → (IntKind.u64.wrap (2 ^ a0.toNat)) = ji12:=fun hle_=>by have h_:=hji12z hle_;rw [Int.one_mul] at h_;exact h_
   obtain ⟨ji13,hji13⟩ : ∃ j_ : Int,(shr .u64 a1_1 (ji12)) = j_:=⟨_,rfl⟩
   replace H : (some ((ji13) == 0)) = some r:=by first|(rw [hji13] at H;exact H)|(simp only [hji13] at H ⊢;exact H)
   have hji13_ : (a1_1 / 2 ^ min (ji12).toNat 64) = ji13:=hji13
   have hji13z : (ji12) ≤ 64 → (a1_1 / 2 ^ (ji12).toNat) = ji13:=z24 hji13
   obtain rfl:=Option.some.inj H
   have hcz14_0 : wc.cell? ⟨gb101,0,none⟩ = some (.int .u64 a1_0):=(za BK101.out 0).trans rfl
   have hcz14_1 : wc.cell? ⟨gb101,1,none⟩ = some (.int .u64 a1_1):=(za BK101.out 1).trans rfl
   have hfz14_0:=zb BK101.out 0
   have hfz14_1:=zb BK101.out 1
   go_wp2
   repeat (go_quiet (fail);try go_wp2)
   go_ret
   exact ⟨by first|rfl|(simp [zl,zm] <;> rfl)|(simp only [← hji12,← hji13];first|rfl|(simp [zl,zm] <;> rfl))|(simp [*,zl,zm] <;> rfl),by repeat (first|(with_reducible first|exact HB.out|apply z7|apply z1|apply z6|refine z5 ?_ GE101.out)|exact HB.out)⟩
end Go.Proofs.Ytngcaphdkgihmaa.P
namespace Go.Proofs.Ytngcaphdkgihmaa.P
open Go.RowKit Go.Proofs.YtngcaphdkgihmaaW.PrintWords Go.Proofs.YtngcaphdkgihmaaW.PrintLast Go.Proofs.YtngcaphdkgihmaaW.PrintMore
attribute [local go_sem] zX zZ z16 z17 zT zU zY z10   -- for this text's walks alone
set_option linter.unusedVariables false
set_option linter.unusedSimpArgs false
def z1x.f  : Option (Int × Int):=some (0,1)
set_option maxHeartbeats 8000000 in
set_option maxRecDepth 100000 in
theorem z1x.calls  (r1 : Int) (r2 : Int) (w : World) (h : z1x.f  = some (r1,r2)) :
 Calls Try.prog 66 #[] w fun e w'=>e = .returned (.agg #[.int .u64 r1,.int .u64 r2]) ∧ Below w.heap.size w w':=by
 have hu51:=Try.underlying51
 have HB:=z2.mk (Below.refl w.heap.size w)
 have H : (some (0,1)) = some (r1,r2):=h
 clear h
 simp only [Option.some.injEq,Prod.mk.injEq] at H
 obtain ⟨rfl,rfl⟩:=H
 go_enter Try.func66,Try.ntmps66
 go_wp2_with (first|((with_reducible refine zG (N:=0) rfl ?_);refine zC ?hg (N:=0) ?hd (cs:=#[.int .u64 0,.int .u64 0]) (t:=51) ?hr ?_;(case hd=>rfl);(case hg=>rfl);(case hr=>first|(go_simp;done)|(go_simp;rfl));intro gb101 hg w1 hbox hb;have n0_:=z2.mk (zd (by repeat (first|(with_reducible first|exact HB.out|apply z7|apply z1|apply z6)|exact HB.out)) hb);have n1_:=z2.mk (hbox);have n2_:=z2.mk ((by rw [hg];exact (ze (by repeat (first|(with_reducible first|exact HB.out|apply z7|apply z1|apply z6)|exact HB.out))) : w.heap.size ≤ gb101));have n3_:=z2.mk ((by rw [hg];exact (ze (by repeat (first|(with_reducible first|exact HB.out|apply z7|apply z1|apply z6)|exact HB.out))) : w.heap.size ≤ gb101));clear HB;have HB:=n0_;have BK101:=n1_;have GW101:=n2_;have GE101:=n3_;clear n0_ n1_ n2_ n3_;clear hb hbox hg;have hcz2_0 : w1.cell? ⟨gb101,0,none⟩ = some (.int .u64 0):=(za BK101.out 0).trans rfl;have hcz2_1 : w1.cell? ⟨gb101,1,none⟩ = some (.int .u64 0):=(za BK101.out 1).trans rfl;have hfz2_0:=zb BK101.out 0;have hfz2_1:=zb BK101.out 1))
 refine bodyPost_ret (results_cell_row rfl _ _ gb101 51 #[.int .u64 0,.int .u64 1] (0,0) _ rfl (by (with_reducible repeat (first|refine z4 ?_ _|refine z8 ?_|refine z3 ?_ _));refine zQ (cs:=#[.int .u64 0,.int .u64 0]) ?_ 1 _ rfl;(with_reducible repeat (first|refine z4 ?_ _|refine z8 ?_|refine z3 ?_ _));refine zQ (cs:=#[.int .u64 0,.int .u64 0]) ?_ 0 _ rfl;(with_reducible repeat (first|refine z4 ?_ _|refine z8 ?_|refine z3 ?_ _));exact BK101.out) Try.underlying51 rfl (by kernel_rfl)) rfl ?_
 exact ⟨by first|rfl|(simp [zl,zm] <;> rfl)|(simp [*,zl,zm] <;> rfl),by repeat (first|(with_reducible first|exact HB.out|apply z7|apply z1|apply z6|refine z5 ?_ GE101.out)|exact HB.out)⟩
end Go.Proofs.Ytngcaphdkgihmaa.P
namespace Go.Proofs.Ytngcaphdkgihmaa.P
open Go.RowKit Go.Proofs.YtngcaphdkgihmaaW.PrintWords Go.Proofs.YtngcaphdkgihmaaW.PrintLast Go.Proofs.YtngcaphdkgihmaaW.PrintMore
attribute [local go_sem] zX zZ z16 z17 zT zU zY z10   -- for this text's walks alone
set_option linter.unusedVariables false
set_option linter.unusedSimpArgs false
def zN.j0 : Nat → Int → Bool → Option (Int × Int)
 | 0,_,_=>none
 | k + 1,x0,x3=>if x3 = true then (if 0 ≤ x0 then (some (0,shl .u64 1 x0)) else (none)) else (if x0 ≥ 64 then (if x0 < 128 then (if 0 ≤ (wrap64 (x0 - 64)) then (some (shl .u64 1 (wrap64 (x0 - 64)),0)) else (none)) else (some (0,0))) else (some (0,0)))
def zN.f (k : Nat) (a0 : Int) : Option (Int × Int):=if a0 ≥ 0 then (zN.j0 k a0 (decide (a0 < 64))) else (zN.j0 k a0 false)
theorem zN.z12 : ∀ k,(∀ y0 y1,LeO (zN.j0 k y0 y1) (zN.j0 (k + 1) y0 y1))
 | 0=>fun _ _ r h=>by simp [zN.j0] at h
 | k + 1=>by
  have ih0:=zN.z12 k
  · intro y0 y1
    unfold zN.j0
    repeat' first
    | (with_reducible exact ih0 _ _)
    | (with_reducible exact LeO.refl _)
    | (with_reducible exact LeO.none _)
    | (with_reducible refine LeO.ite ?_ ?_)
    | (with_reducible refine LeO.bind ?_ (fun _=>?_))
    | exact ih0 _ _
    | exact LeO.none _
    | refine LeO.ite ?_ ?_
    | refine LeO.bind ?_ (fun _=>?_)
theorem zN.mono : ∀ a0 k,LeO (zN.f k a0) (zN.f (k + 1) a0):=by
 intro a0 k
 have ih0:=zN.z12 k
 unfold zN.f
 repeat' first
  | (with_reducible exact ih0 _ _)
  | (with_reducible exact LeO.refl _)
  | (with_reducible exact LeO.none _)
  | (with_reducible refine LeO.ite ?_ ?_)
  | (with_reducible refine LeO.bind ?_ (fun _=>?_))
  | exact ih0 _ _
  | exact LeO.none _
  | refine LeO.ite ?_ ?_
  | refine LeO.bind ?_ (fun _=>?_)
set_option maxHeartbeats 8000000 in
set_option maxRecDepth 100000 in
theorem zN.calls (k : Nat) (a0 : Int) (r1 : Int) (r2 : Int) (w : World) (h : zN.f k a0 = some (r1,r2)) :
 Calls Try.prog 68 #[.int .i64 a0] w fun e w'=>e = .returned (.agg #[.int .u64 r1,.int .u64 r2]) ∧ Below w.heap.size w w':=by
 have hu51:=Try.underlying51
 have HB:=z2.mk (Below.refl w.heap.size w)
 have H : (if a0 ≥ 0 then (zN.j0 k a0 (decide (a0 < 64))) else (zN.j0 k a0 false)) = some (r1,r2):=h
 clear h
 have HC2:=z2.mk H
 clear H
 go_enter Try.func68,Try.ntmps68
 go_upto_region 1 with (first|((with_reducible refine zG (N:=2) rfl ?_);refine zC ?hg (N:=2) ?hd (cs:=#[.int .u64 0,.int .u64 0]) (t:=51) ?hr ?_;(case hd=>rfl);(case hg=>rfl);(case hr=>first|(go_simp;done)|(go_simp;rfl));intro gb101 hg w3 hbox hb;have n0_:=z2.mk (zd (by repeat (first|(with_reducible first|exact HB.out|apply z7|apply z1|apply z6)|exact HB.out)) hb);have n1_:=z2.mk (hbox);have n2_:=z2.mk ((by rw [hg];exact (ze (by repeat (first|(with_reducible first|exact HB.out|apply z7|apply z1|apply z6)|exact HB.out))) : w.heap.size ≤ gb101));have n3_:=z2.mk ((by rw [hg];exact (ze (by repeat (first|(with_reducible first|exact HB.out|apply z7|apply z1|apply z6)|exact HB.out))) : w.heap.size ≤ gb101));clear HB;have HB:=n0_;have BK101:=n1_;have GW101:=n2_;have GE101:=n3_;clear n0_ n1_ n2_ n3_;clear hb hbox hg))
 (try simp only [Act.put,List.setIfInBounds_toArray,List.set_cons_zero,List.set_cons_succ])
 go_cut [3] (fun v3 wc=>∃ (kq : Nat) (x3_1 : Bool),v3 = .bool x3_1 ∧ z2 (zN.j0 kq a0 x3_1 = some (r1,r2)) ∧ z2 (kq ≤ k) ∧ z2 (wc.heap[gb101]? = some (.cells #[.int .u64 0,.int .u64 0] 51 (0,0))) ∧ z2 (Below w.heap.size w wc))
 case first =>
  have H:=HC2.out
  clear HC2
  by_cases c4 : a0 ≥ 0
  rotate_left
  · rw [if_neg c4] at H
    have c4b0 : decide (0 ≤ a0) = false:=decide_eq_false c4
    clear c4
    (first|rw [c4b0]|(simp only [zR,zV];rw [c4b0])|skip)
    have H':=z2.mk H
    clear H
    go_wp2
    go_meet
    case rel=>exact ⟨_,(false),(by first|rfl|(simp;done)|(simp [*];done)),H',⟨by first|omega|exact Nat.le_refl _⟩,⟨by (with_reducible repeat (first|refine z4 ?_ _|refine z8 ?_|refine z3 ?_ _));exact BK101.out⟩,⟨by repeat (first|(with_reducible first|exact HB.out|apply z7|apply z1|apply z6|refine z5 ?_ GE101.out)|exact HB.out)⟩⟩
  rw [if_pos c4] at H
  have c4b0 : decide (0 ≤ a0) = true:=decide_eq_true c4
  clear c4
  (first|rw [c4b0]|(simp only [zR,zV];rw [c4b0])|skip)
  have H':=z2.mk H
  clear H
  go_wp2
  go_meet
  case rel=>exact ⟨_,(decide (a0 < 64)),(by first|rfl|(simp;done)|(simp [*];done)),H',⟨by first|omega|exact Nat.le_refl _⟩,⟨by (with_reducible repeat (first|refine z4 ?_ _|refine z8 ?_|refine z3 ?_ _));exact BK101.out⟩,⟨by repeat (first|(with_reducible first|exact HB.out|apply z7|apply z1|apply z6|refine z5 ?_ GE101.out)|exact HB.out)⟩⟩
 case rest =>
  clear HC2
  (try clear p2);(try clear c4);(try clear c4b0)
  obtain ⟨kq,x3_1,rfl,HA,HJ1,BK101,HB⟩:=hcut
  cases kq with
  | zero=>exact absurd HA.out (by simp [zN.j0])
  | succ kj1 =>
   have H:=HA.out
   clear HA
   simp only [zN.j0] at H
   by_cases c5 : x3_1 = true
   · subst c5
     have H1 : (if 0 ≤ a0 then (some (0,shl .u64 1 a0)) else (none)) = some (r1,r2):=by rw [if_pos rfl] at H;exact H
     clear H
     have H:=H1
     clear H1
     by_cases c6 : 0 ≤ a0
     rotate_left
     · rw [if_neg c6] at H
       exact absurd H (by simp)
     rw [if_pos c6] at H
     have c6b0:=eq_true c6
     have c6b1 : decide (0 ≤ a0) = true:=decide_eq_true c6
     clear c6
     obtain ⟨ji7,hji7⟩ : ∃ j_ : Int,(shl .u64 1 a0) = j_:=⟨_,rfl⟩
     replace H : (some (0,ji7)) = some (r1,r2):=by first|(rw [hji7] at H;exact H)|(simp only [hji7] at H ⊢;exact H)
     have hji7_ : (IntKind.u64.wrap (1 * 2 ^ min a0.toNat 64)) = ji7:=hji7
     have hji7z : a0 ≤ 64 → (IntKind.u64.wrap (1 * 2 ^ a0.toNat)) = ji7:=z1p hji7
     have hji7n0 : 0 ≤ ji7:=by rw [← hji7];exact Int.emod_nonneg _ (by decide)
     have hji7n1 : decide (0 ≤ ji7) = true:=decide_eq_true hji7n0
     replace hji7n0:=eq_true hji7n0
     have hji7u : (IntKind.u64.wrap (2 ^ min a0.toNat 64)) = ji7:=by have h_:=hji7_;rw [Int.one_mul] at h_;exact h_
     have hji7v : a0 ≤ 64 → (IntKind.u64.wrap (2 ^ a0.toNat)) = ji7:=fun hle_=>by have h_:=hji7z hle_;rw [Int.one_mul] at h_;exact h_
     simp only [Option.some.injEq,Prod.mk.injEq] at H
     obtain ⟨rfl,rfl⟩:=H
     have hcz8_0 : wc.cell? ⟨gb101,0,none⟩ = some (.int .u64 0):=(za BK101.out 0).trans rfl
     have hcz8_1 : wc.cell? ⟨gb101,1,none⟩ = some (.int .u64 0):=(za BK101.out 1).trans rfl
     have hfz8_0:=zb BK101.out 0
     have hfz8_1:=zb BK101.out 1
     go_wp2
     refine bodyPost_ret (results_cell_row rfl _ _ gb101 51 #[.int .u64 0,.int .u64 ji7] (0,0) _ rfl (by (with_reducible repeat (first|refine z4 ?_ _|refine z8 ?_|refine z3 ?_ _));refine zQ (cs:=#[.int .u64 0,.int .u64 0]) ?_ 1 _ rfl;(with_reducible repeat (first|refine z4 ?_ _|refine z8 ?_|refine z3 ?_ _));refine zQ (cs:=#[.int .u64 0,.int .u64 0]) ?_ 0 _ rfl;(with_reducible repeat (first|refine z4 ?_ _|refine z8 ?_|refine z3 ?_ _));exact BK101.out) Try.underlying51 rfl (by kernel_rfl)) rfl ?_
     exact ⟨by first|rfl|(simp [zl,zm] <;> rfl)|(simp only [← hji7];first|rfl|(simp [zl,zm] <;> rfl))|(simp [*,zl,zm] <;> rfl),by repeat (first|(with_reducible first|exact HB.out|apply z7|apply z1|apply z6|refine z5 ?_ GE101.out)|exact HB.out)⟩
   replace c5:=Bool.eq_false_iff.mpr c5
   subst c5
   have H1 : (if a0 ≥ 64 then (if a0 < 128 then (if 0 ≤ (wrap64 (a0 - 64)) then (some (shl .u64 1 (wrap64 (a0 - 64)),0)) else (none)) else (some (0,0))) else (some (0,0))) = some (r1,r2):=by rw [if_neg (show ¬ (false = true) by decide)] at H;exact H
   clear H
   have H:=H1
   clear H1
   by_cases c9 : a0 ≥ 64
   rotate_left
   · rw [if_neg c9] at H
     have c9b0 : decide (64 ≤ a0) = false:=decide_eq_false c9
     clear c9
     simp only [Option.some.injEq,Prod.mk.injEq] at H
     obtain ⟨rfl,rfl⟩:=H
     have hcz16_0 : wc.cell? ⟨gb101,0,none⟩ = some (.int .u64 0):=(za BK101.out 0).trans rfl
     have hcz16_1 : wc.cell? ⟨gb101,1,none⟩ = some (.int .u64 0):=(za BK101.out 1).trans rfl
     have hfz16_0:=zb BK101.out 0
     have hfz16_1:=zb BK101.out 1
     go_wp2
     refine bodyPost_ret (results_cell_row rfl _ _ gb101 51 #[.int .u64 0,.int .u64 0] (0,0) _ rfl (by (with_reducible repeat (first|refine z4 ?_ _|refine z8 ?_|refine z3 ?_ _));refine zQ (cs:=#[.int .u64 0,.int .u64 0]) ?_ 1 _ rfl;(with_reducible repeat (first|refine z4 ?_ _|refine z8 ?_|refine z3 ?_ _));refine zQ (cs:=#[.int .u64 0,.int .u64 0]) ?_ 0 _ rfl;(with_reducible repeat (first|refine z4 ?_ _|refine z8 ?_|refine z3 ?_ _));exact BK101.out) Try.underlying51 rfl (by kernel_rfl)) rfl ?_
     exact ⟨by first|rfl|(simp [zl,zm] <;> rfl)|(simp [*,zl,zm] <;> rfl),by repeat (first|(with_reducible first|exact HB.out|apply z7|apply z1|apply z6|refine z5 ?_ GE101.out)|exact HB.out)⟩
   rw [if_pos c9] at H
   have c9b0 : decide (64 ≤ a0) = true:=decide_eq_true c9
   clear c9
   by_cases c10 : a0 < 128
   rotate_left
   · rw [if_neg c10] at H
     have c10b0 : decide (a0 < 128) = false:=decide_eq_false c10
     clear c10
     simp only [Option.some.injEq,Prod.mk.injEq] at H
     obtain ⟨rfl,rfl⟩:=H
     have hcz15_0 : wc.cell? ⟨gb101,0,none⟩ = some (.int .u64 0):=(za BK101.out 0).trans rfl
     have hcz15_1 : wc.cell? ⟨gb101,1,none⟩ = some (.int .u64 0):=(za BK101.out 1).trans rfl
     have hfz15_0:=zb BK101.out 0
     have hfz15_1:=zb BK101.out 1
     go_wp2
     refine bodyPost_ret (results_cell_row rfl _ _ gb101 51 #[.int .u64 0,.int .u64 0] (0,0) _ rfl (by (with_reducible repeat (first|refine z4 ?_ _|refine z8 ?_|refine z3 ?_ _));refine zQ (cs:=#[.int .u64 0,.int .u64 0]) ?_ 1 _ rfl;(with_reducible repeat (first|refine z4 ?_ _|refine z8 ?_|refine z3 ?_ _));refine zQ (cs:=#[.int .u64 0,.int .u64 0]) ?_ 0 _ rfl;(with_reducible repeat (first|refine z4 ?_ _|refine z8 ?_|refine z3 ?_ _));exact BK101.out) Try.underlying51 rfl (by kernel_rfl)) rfl ?_
     exact ⟨by first|rfl|(simp [zl,zm] <;> rfl)|(simp [*,zl,zm] <;> rfl),by repeat (first|(with_reducible first|exact HB.out|apply z7|apply z1|apply z6|refine z5 ?_ GE101.out)|exact HB.out)⟩
   rw [if_pos c10] at H
   have c10b0 : decide (a0 < 128) = true:=decide_eq_true c10
   clear c10
   obtain ⟨ji11,hji11⟩ : ∃ j_ : Int,(wrap64 (a0 - 64)) = j_:=⟨_,rfl⟩
   replace H : (if 0 ≤ (ji11) then (some (shl .u64 1 (ji11),0)) else (none)) = some (r1,r2):=by first|(rw [hji11] at H;exact H)|(simp only [hji11] at H ⊢;exact H)
   have hji11w : (IntKind.i64.wrap (a0 - 64)) = ji11:=(zR _).trans hji11
   by_cases c12 : 0 ≤ (ji11)
   rotate_left
   · rw [if_neg c12] at H
     exact absurd H (by simp)
   rw [if_pos c12] at H
   have c12b0:=eq_true c12
   have c12b1 : decide (0 ≤ (ji11)) = true:=decide_eq_true c12
   clear c12
   obtain ⟨ji13,hji13⟩ : ∃ j_ : Int,(shl .u64 1 (ji11)) = j_:=⟨_,rfl⟩
   replace H : (some (ji13,0)) = some (r1,r2):=by first|(rw [hji13] at H;exact H)|(simp only [hji13] at H ⊢;exact H)
   have hji13_ : (IntKind.u64.wrap (1 * 2 ^ min (ji11).toNat 64)) = ji13:=hji13
   have hji13z : (ji11) ≤ 64 → (IntKind.u64.wrap (1 * 2 ^ (ji11).toNat)) = ji13:=z1p hji13
   have hji13n0 : 0 ≤ ji13:=by rw [← hji13];exact Int.emod_nonneg _ (by decide)
   have hji13n1 : decide (0 ≤ ji13) = true:=decide_eq_true hji13n0
   replace hji13n0:=eq_true hji13n0
   have hji13u : (IntKind.u64.wrap (2 ^ min (ji11).toNat 64)) = ji13:=by have h_:=hji13_;rw [Int.one_mul] at h_;exact h_
   have hji13v : (ji11) ≤ 64 → (IntKind.u64.wrap (2 ^ (ji11).toNat)) = ji13:=fun hle_=>by have h_:=hji13z hle_;rw [Int.one_mul] at h_;exact h_
   simp only [Option.some.injEq,Prod.mk.injEq] at H
   obtain ⟨rfl,rfl⟩:=H
   have hcz14_0 : wc.cell? ⟨gb101,0,none⟩ = some (.int .u64 0):=(za BK101.out 0).trans rfl
   have hcz14_1 : wc.cell? ⟨gb101,1,none⟩ = some (.int .u64 0):=(za BK101.out 1).trans rfl
   have hfz14_0:=zb BK101.out 0
   have hfz14_1:=zb BK101.out 1
   go_wp2
   refine bodyPost_ret (results_cell_row rfl _ _ gb101 51 #[.int .u64 ji13,.int .u64 0] (0,0) _ rfl (by (with_reducible repeat (first|refine z4 ?_ _|refine z8 ?_|refine z3 ?_ _));refine zQ (cs:=#[.int .u64 ji13,.int .u64 0]) ?_ 1 _ rfl;(with_reducible repeat (first|refine z4 ?_ _|refine z8 ?_|refine z3 ?_ _));refine zQ (cs:=#[.int .u64 0,.int .u64 0]) ?_ 0 _ rfl;(with_reducible repeat (first|refine z4 ?_ _|refine z8 ?_|refine z3 ?_ _));exact BK101.out) Try.underlying51 rfl (by kernel_rfl)) rfl ?_
   exact ⟨by first|rfl|(simp [zl,zm] <;> rfl)|(simp only [← hji11,← hji13];first|rfl|(simp [zl,zm] <;> rfl))|(simp [*,zl,zm] <;> rfl),by repeat (first|(with_reducible first|exact HB.out|apply z7|apply z1|apply z6|refine z5 ?_ GE101.out)|exact HB.out)⟩
end Go.Proofs.Ytngcaphdkgihmaa.P
namespace Go.Proofs.Ytngcaphdkgihmaa.P
open Go.RowKit Go.Proofs.YtngcaphdkgihmaaW.PrintWords Go.Proofs.YtngcaphdkgihmaaW.PrintLast Go.Proofs.YtngcaphdkgihmaaW.PrintMore
attribute [local go_sem] zX zZ z16 z17 zT zU zY z10   -- for this text's walks alone
set_option linter.unusedVariables false
set_option linter.unusedSimpArgs false
def zA.l0 : Nat → List Bool → Int → Int → Int → Int → Option (List Bool)
 | 0,_,_,_,_,_=>none
 | k + 1,x5,x13,x14,x102000,x102001=>if x14 < x13 then ((zN.f k x14).bind fun bt103=>(if x5.length < 140737488355328 then (zA.l0 k (x5 ++ [((Go.bits .or .u64 (Go.bits .and .u64 x102001 bt103.2) (Go.bits .and .u64 x102000 bt103.1)) != 0)]) x13 (wrap64 (x14 + 1)) x102000 x102001) else (none))) else (some x5)
def zA.f (k : Nat) (a0 : Int) (a1_0 : Int) (a1_1 : Int) : Option (List Bool):=(zB.f k a0 a1_0 a1_1).bind fun t102=>(if t102 = true then (if 0 ≤ a0 then (zA.l0 k ([] : List Bool) (shl .i64 1 a0) 0 a1_0 a1_1) else (none)) else (some ([] : List Bool)))
theorem zA.z12 : ∀ k,(∀ y0 y1 y2 y3 y4,LeO (zA.l0 k y0 y1 y2 y3 y4) (zA.l0 (k + 1) y0 y1 y2 y3 y4))
 | 0=>fun _ _ _ _ _ r h=>by simp [zA.l0] at h
 | k + 1=>by
  have ih0:=zA.z12 k
  · intro y0 y1 y2 y3 y4
    unfold zA.l0
    repeat' first
    | (with_reducible exact ih0 _ _ _ _ _)
    | (with_reducible exact zB.mono _ _ _ _)
    | (with_reducible exact zN.mono _ _)
    | (with_reducible exact LeO.refl _)
    | (with_reducible exact LeO.none _)
    | (with_reducible refine LeO.ite ?_ ?_)
    | (with_reducible refine LeO.bind ?_ (fun _=>?_))
    | exact ih0 _ _ _ _ _
    | exact zB.mono _ _ _ _
    | exact zN.mono _ _
    | exact LeO.none _
    | refine LeO.ite ?_ ?_
    | refine LeO.bind ?_ (fun _=>?_)
theorem zA.mono : ∀ a0 a1 a2 k,LeO (zA.f k a0 a1 a2) (zA.f (k + 1) a0 a1 a2):=by
 intro a0 a1 a2 k
 have ih0:=zA.z12 k
 unfold zA.f
 repeat' first
  | (with_reducible exact ih0 _ _ _ _ _)
  | (with_reducible exact zB.mono _ _ _ _)
  | (with_reducible exact zN.mono _ _)
  | (with_reducible exact LeO.refl _)
  | (with_reducible exact LeO.none _)
  | (with_reducible refine LeO.ite ?_ ?_)
  | (with_reducible refine LeO.bind ?_ (fun _=>?_))
  | exact ih0 _ _ _ _ _
  | exact zB.mono _ _ _ _
  | exact zN.mono _ _
  | exact LeO.none _
  | refine LeO.ite ?_ ?_
  | refine LeO.bind ?_ (fun _=>?_)
set_option maxHeartbeats 8000000 in
set_option maxRecDepth 100000 in
theorem zA.calls (k : Nat) (a0 : Int) (a1_0 : Int) (a1_1 : Int) (r : List Bool) (w : World) (h : zA.f k a0 a1_0 a1_1 = some r) :
 Calls Try.prog 29 #[.int .i64 a0,.agg #[.int .u64 a1_0,.int .u64 a1_1]] w fun e w'=>∃ v0_ : Value,e = .returned (v0_) ∧ Kd.R Kd.bool 4 w' w.heap.size (fun _=>True) v0_ r ∧ Below w.heap.size w w':=by
 have hu51:=Try.underlying51
 have HB:=z2.mk (Below.refl w.heap.size w)
 have H : ((zB.f k a0 a1_0 a1_1).bind fun t102=>(if t102 = true then (if 0 ≤ a0 then (zA.l0 k ([] : List Bool) (shl .i64 1 a0) 0 a1_0 a1_1) else (none)) else (some ([] : List Bool)))) = some r:=h
 clear h
 replace H:=Option.bind_eq_some_iff.mp H
 obtain ⟨t102,A30,H⟩:=H
 replace H : (if t102 = true then (if 0 ≤ a0 then (zA.l0 k ([] : List Bool) (shl .i64 1 a0) 0 a1_0 a1_1) else (none)) else (some ([] : List Bool))) = some r:=H
 have A3:=z2.mk A30
 clear A30
 by_cases c4 : t102 = true
 rotate_left
 · replace c4:=Bool.eq_false_iff.mpr c4
   subst c4
   have H1 : (some ([] : List Bool)) = some r:=by rw [if_neg (show ¬ (false = true) by decide)] at H;exact H
   clear H
   have H:=H1
   clear H1
   obtain rfl:=Option.some.inj H
   go_enter Try.func29,Try.ntmps29
   go_wp2_with (first|((with_reducible refine zG (N:=3) rfl ?_);refine zC ?hg (N:=3) ?hd (cs:=#[.int .u64 a1_0,.int .u64 a1_1]) (t:=51) ?hr ?_;(case hd=>rfl);(case hg=>rfl);(case hr=>first|(go_simp;done)|(go_simp;rfl));intro gb101 hg w19 hbox hb;have n0_:=z2.mk (zd (by repeat (first|(with_reducible first|exact HB.out|apply z7|apply z1|apply z6)|exact HB.out)) hb);have n1_:=z2.mk (hbox);have n2_:=z2.mk ((by rw [hg];exact (ze (by repeat (first|(with_reducible first|exact HB.out|apply z7|apply z1|apply z6)|exact HB.out))) : w.heap.size ≤ gb101));have n3_:=z2.mk ((by rw [hg];exact (ze (by repeat (first|(with_reducible first|exact HB.out|apply z7|apply z1|apply z6)|exact HB.out))) : w.heap.size ≤ gb101));clear HB;have HB:=n0_;have BK101:=n1_;have GW101:=n2_;have GE101:=n3_;clear n0_ n1_ n2_ n3_;clear hb hbox hg;have hcz20_0 : w19.cell? ⟨gb101,0,none⟩ = some (.int .u64 a1_0):=(za BK101.out 0).trans rfl;have hcz20_1 : w19.cell? ⟨gb101,1,none⟩ = some (.int .u64 a1_1):=(za BK101.out 1).trans rfl;have hfz20_0:=zb BK101.out 0;have hfz20_1:=zb BK101.out 1)|((with_reducible refine zp (f:=67) rfl ?_);refine goesL_ (some 10) rfl rfl Try.func67 (by kernel_rfl) rfl #[.int .i64 a0,.agg #[.int .u64 a1_0,.int .u64 a1_1]] rfl (by (try simp only [List.map_toArray,List.map_cons,List.map_nil]);first|done|rfl|(simp only [List.length_drop,List.length_take];rfl)) ?_;(with_reducible refine (zB.calls k a0 a1_0 a1_1 false _ A3.out).mono ?_);rintro e w21 ⟨rfl,hb⟩;refine ⟨_,rfl,?_⟩;have n0_:=z2.mk (z9 (g:=gb101) (o:=.cells #[.int .u64 a1_0,.int .u64 a1_1] 51 (0,0)) (by (with_reducible repeat (first|refine z4 ?_ _|refine z8 ?_|refine z3 ?_ _));exact BK101.out) hb);have n1_:=z2.mk (zd (by repeat (first|(with_reducible first|exact HB.out|apply z7|apply z1|apply z6|refine z5 ?_ GE101.out)|exact HB.out)) hb);clear BK101;clear HB;have BK101:=n0_;have HB:=n1_;clear n0_ n1_;(try clear hb);(try clear hb2);(try clear hk);(try clear hi)))
   go_ret
   exact ⟨_,by first|rfl|(simp [zl,zm] <;> rfl)|(simp [*,zl,zm] <;> rfl),by first|exact Kd.z3g _ _ _ _ _|exact Kd.z47 _ _ _ _ _|exact Kd.z4d _ _ _ _ _|exact Kd.z49 _ _ _ _ _|exact Kd.z4b _ _ _ _ _,by repeat (first|(with_reducible first|exact HB.out|apply z7|apply z1|apply z6|refine z5 ?_ GE101.out)|exact HB.out)⟩
 subst c4
 have H1 : (if 0 ≤ a0 then (zA.l0 k ([] : List Bool) (shl .i64 1 a0) 0 a1_0 a1_1) else (none)) = some r:=by rw [if_pos rfl] at H;exact H
 clear H
 have H:=H1
 clear H1
 by_cases c5 : 0 ≤ a0
 rotate_left
 · rw [if_neg c5] at H
   exact absurd H (by simp)
 rw [if_pos c5] at H
 have c5b0:=eq_true c5
 have c5b1 : decide (0 ≤ a0) = true:=decide_eq_true c5
 clear c5
 obtain ⟨ji6,hji6⟩ : ∃ j_ : Int,(shl .i64 1 a0) = j_:=⟨_,rfl⟩
 replace H : (zA.l0 k ([] : List Bool) ji6 0 a1_0 a1_1) = some r:=by first|(rw [hji6] at H;exact H)|(simp only [hji6] at H ⊢;exact H)
 (try rw [hji6] at A3)
 have hji6_ : (IntKind.i64.wrap (1 * 2 ^ min a0.toNat 64)) = ji6:=hji6
 have hji6z : a0 ≤ 64 → (IntKind.i64.wrap (1 * 2 ^ a0.toNat)) = ji6:=z1p hji6
 have hji6u : (IntKind.i64.wrap (2 ^ min a0.toNat 64)) = ji6:=by have h_:=hji6_;rw [Int.one_mul] at h_;exact h_
 have hji6v : a0 ≤ 64 → (IntKind.i64.wrap (2 ^ a0.toNat)) = ji6:=fun hle_=>by have h_:=hji6z hle_;rw [Int.one_mul] at h_;exact h_
 have hji6y : (wrap64 (1 * 2 ^ min a0.toNat 64)) = ji6:=(zR _).symm.trans hji6_
 have hji6x : a0 ≤ 64 → (wrap64 (1 * 2 ^ a0.toNat)) = ji6:=fun h_=>(zR _).symm.trans (hji6z h_)
 have H':=z2.mk H
 clear H
 go_enter Try.func29,Try.ntmps29
 go_wp2_with (first|((with_reducible refine zG (N:=3) rfl ?_);refine zC ?hg (N:=3) ?hd (cs:=#[.int .u64 a1_0,.int .u64 a1_1]) (t:=51) ?hr ?_;(case hd=>rfl);(case hg=>rfl);(case hr=>first|(go_simp;done)|(go_simp;rfl));intro gb101 hg w7 hbox hb;have n0_:=z2.mk (zd (by repeat (first|(with_reducible first|exact HB.out|apply z7|apply z1|apply z6)|exact HB.out)) hb);have n1_:=z2.mk (hbox);have n2_:=z2.mk ((by rw [hg];exact (ze (by repeat (first|(with_reducible first|exact HB.out|apply z7|apply z1|apply z6)|exact HB.out))) : w.heap.size ≤ gb101));have n3_:=z2.mk ((by rw [hg];exact (ze (by repeat (first|(with_reducible first|exact HB.out|apply z7|apply z1|apply z6)|exact HB.out))) : w.heap.size ≤ gb101));clear HB;have HB:=n0_;have BK101:=n1_;have GW101:=n2_;have GE101:=n3_;clear n0_ n1_ n2_ n3_;clear hb hbox hg;have hcz8_0 : w7.cell? ⟨gb101,0,none⟩ = some (.int .u64 a1_0):=(za BK101.out 0).trans rfl;have hcz8_1 : w7.cell? ⟨gb101,1,none⟩ = some (.int .u64 a1_1):=(za BK101.out 1).trans rfl;have hfz8_0:=zb BK101.out 0;have hfz8_1:=zb BK101.out 1)|((with_reducible refine zp (f:=67) rfl ?_);refine goesL_ (some 10) rfl rfl Try.func67 (by kernel_rfl) rfl #[.int .i64 a0,.agg #[.int .u64 a1_0,.int .u64 a1_1]] rfl (by (try simp only [List.map_toArray,List.map_cons,List.map_nil]);first|done|rfl|(simp only [List.length_drop,List.length_take];rfl)) ?_;(with_reducible refine (zB.calls k a0 a1_0 a1_1 true _ A3.out).mono ?_);rintro e w9 ⟨rfl,hb⟩;refine ⟨_,rfl,?_⟩;have n0_:=z2.mk (z9 (g:=gb101) (o:=.cells #[.int .u64 a1_0,.int .u64 a1_1] 51 (0,0)) (by (with_reducible repeat (first|refine z4 ?_ _|refine z8 ?_|refine z3 ?_ _));exact BK101.out) hb);have n1_:=z2.mk (zd (by repeat (first|(with_reducible first|exact HB.out|apply z7|apply z1|apply z6|refine z5 ?_ GE101.out)|exact HB.out)) hb);clear BK101;clear HB;have BK101:=n0_;have HB:=n1_;clear n0_ n1_;(try clear hb);(try clear hb2);(try clear hk);(try clear hi)))
 go_loopg [5,14] k (fun kq v5 v14 w'=>∃ (x5_1 : List Bool) (x14_1 : Int),v14 = .int .i64 x14_1 ∧ z2 (zA.l0 kq x5_1 ji6 x14_1 a1_0 a1_1 = some r) ∧ z2 (kq ≤ k) ∧ z2 (Kd.R Kd.bool 4 w' w.heap.size (fun _=>True) v5 x5_1) ∧ z2 (w'.heap[gb101]? = some (.cells #[.int .u64 a1_0,.int .u64 a1_1] 51 (0,0))) ∧ z2 (Below w.heap.size w w'))
 case atStart=>exact ⟨(([] : List Bool)),(0),(by first|rfl|(simp;done)|(simp [*];done)),H',⟨Nat.le_refl _⟩,⟨by first|exact Kd.z3g _ _ _ _ _|exact Kd.z47 _ _ _ _ _|exact Kd.z4d _ _ _ _ _|exact Kd.z49 _ _ _ _ _|exact Kd.z4b _ _ _ _ _⟩,⟨by (with_reducible repeat (first|refine z4 ?_ _|refine z8 ?_|refine z3 ?_ _));exact BK101.out⟩,⟨by repeat (first|(with_reducible first|exact HB.out|apply z7|apply z1|apply z6|refine z5 ?_ GE101.out)|exact HB.out)⟩⟩
 case round =>
  clear H'
  (try clear c2);(try clear p2);(try clear c4);(try clear c5);(try clear c5b0);(try clear c5b1);(try clear c6);(try clear p6);(try clear hcz8_0);(try clear hcz8_1);(try clear hfz8_0);(try clear hfz8_1)
  obtain ⟨x5_1,x14_1,rfl,HA,HK1,HO_5,BK101,HB⟩:=hrel
  cases gk with
  | zero=>exact absurd HA.out (by simp [zA.l0])
  | succ k1 =>
   have H:=HA.out
   clear HA
   simp only [zA.l0] at H
   by_cases c10 : x14_1 < ji6
   rotate_left
   · rw [if_neg c10] at H
     have c10b0 : decide (x14_1 < ji6) = false:=decide_eq_false c10
     clear c10
     obtain rfl:=Option.some.inj H
     go_wp2
     go_ret
     exact ⟨_,by first|rfl|(simp [zl,zm] <;> rfl)|(simp only [← hji6];first|rfl|(simp [zl,zm] <;> rfl))|(simp [*,zl,zm] <;> rfl),by (with_reducible repeat (first|apply Kd.zi|apply Kd.zj|apply Kd.zo));exact HO_5.out,by repeat (first|(with_reducible first|exact HB.out|apply z7|apply z1|apply z6|refine z5 ?_ GE101.out)|exact HB.out)⟩
   rw [if_pos c10] at H
   have c10b0 : decide (x14_1 < ji6) = true:=decide_eq_true c10
   clear c10
   replace H:=Option.bind_eq_some_iff.mp H
   obtain ⟨⟨t103,t104⟩,A110,H⟩:=H
   replace H : (if x5_1.length < 140737488355328 then (zA.l0 k1 (x5_1 ++ [((Go.bits .or .u64 (Go.bits .and .u64 a1_1 t104) (Go.bits .and .u64 a1_0 t103)) != 0)]) ji6 (wrap64 (x14_1 + 1)) a1_0 a1_1) else (none)) = some r:=H
   have A11:=z2.mk A110
   clear A110
   by_cases c12 : x5_1.length < 140737488355328
   rotate_left
   · rw [if_neg c12] at H
     exact absurd H (by simp)
   rw [if_pos c12] at H
   have LMc12:=z2.mk c12
   clear c12
   obtain ⟨y106,hy106⟩ : ∃ y_ : List Bool,y_ = (x5_1 ++ [((Go.bits .or .u64 (Go.bits .and .u64 a1_1 t104) (Go.bits .and .u64 a1_0 t103)) != 0)]):=⟨_,rfl⟩
   replace H : (zA.l0 k1 y106 ji6 (wrap64 (x14_1 + 1)) a1_0 a1_1) = some r:=by first|(rw [hy106];with_reducible exact H)|(have H2_:=(Option.bind_some _ _).symm.trans H;rw [hy106];with_reducible exact H2_)|(have H2_:=(Option.bind_some _ _).symm.trans H;with_reducible exact H2_)|with_reducible exact H|(rw [hy106];exact H)|exact H
   have Ny106:=z2.mk hy106
   clear hy106
   have H':=z2.mk H
   clear H
   go_wp2_with (first|((with_reducible refine zp (f:=68) rfl ?_);refine goesL_ (some 18) rfl rfl Try.func68 (by kernel_rfl) rfl #[.int .i64 x14_1] rfl (by (try simp only [List.map_toArray,List.map_cons,List.map_nil]);first|done|rfl|(simp only [List.length_drop,List.length_take];rfl)) ?_;(with_reducible refine (zN.calls k1 x14_1 t103 t104 _ A11.out).mono ?_);rintro e w13 ⟨rfl,hb⟩;refine ⟨_,rfl,?_⟩;have n0_:=z2.mk (Kd.zx (by (with_reducible repeat (first|apply Kd.zi|apply Kd.zj|apply Kd.zo));exact HO_5.out) hb);have n1_:=z2.mk (z9 (g:=gb101) (o:=.cells #[.int .u64 a1_0,.int .u64 a1_1] 51 (0,0)) (by (with_reducible repeat (first|refine z4 ?_ _|refine z8 ?_|refine z3 ?_ _));exact BK101.out) hb);have n2_:=z2.mk (zd (by repeat (first|(with_reducible first|exact HB.out|apply z7|apply z1|apply z6|refine z5 ?_ GE101.out)|exact HB.out)) hb);clear HO_5;clear BK101;clear HB;have HO_5:=n0_;have BK101:=n1_;have HB:=n2_;clear n0_ n1_ n2_;(try clear hb);(try clear hb2);(try clear hk);(try clear hi))|((with_reducible refine zG (N:=7) rfl ?_);refine zC ?hg (N:=7) ?hd (cs:=#[.int .u64 0,.int .u64 0]) (t:=51) ?hr ?_;(case hd=>rfl);(case hg=>rfl);(case hr=>first|(go_simp;done)|(go_simp;rfl));intro gb105 hg w14 hbox hb;have n0_:=z2.mk (Kd.zx (by (with_reducible repeat (first|apply Kd.zi|apply Kd.zj|apply Kd.zo));exact HO_5.out) hb);have n1_:=z2.mk (z9 (g:=gb101) (o:=.cells #[.int .u64 a1_0,.int .u64 a1_1] 51 (0,0)) (by (with_reducible repeat (first|refine z4 ?_ _|refine z8 ?_|refine z3 ?_ _));exact BK101.out) hb);have n2_:=z2.mk (zd (by repeat (first|(with_reducible first|exact HB.out|apply z7|apply z1|apply z6|refine z5 ?_ GE101.out)|exact HB.out)) hb);have n3_:=z2.mk (hbox);have n4_:=z2.mk ((by rw [hg];exact (ze (by repeat (first|(with_reducible first|exact HB.out|apply z7|apply z1|apply z6|refine z5 ?_ GE101.out)|exact HB.out))) : w.heap.size ≤ gb105));have n5_:=z2.mk ((by rw [hg];exact (ze (by repeat (first|(with_reducible first|exact HB.out|apply z7|apply z1|apply z6|refine z5 ?_ GE101.out)|exact HB.out))) : w.heap.size ≤ gb105));have n6_:=z2.mk ((by rw [hg];exact Nat.ne_of_lt (zI (g:=gb101) (o:=.cells #[.int .u64 a1_0,.int .u64 a1_1] 51 (0,0)) (by (with_reducible repeat (first|refine z4 ?_ _|refine z8 ?_|refine z3 ?_ _));exact BK101.out)) : gb101 ≠ gb105));have n7_:=z2.mk ((by rw [hg];exact Nat.ne_of_gt (zI (g:=gb101) (o:=.cells #[.int .u64 a1_0,.int .u64 a1_1] 51 (0,0)) (by (with_reducible repeat (first|refine z4 ?_ _|refine z8 ?_|refine z3 ?_ _));exact BK101.out)) : gb105 ≠ gb101));clear HO_5;clear BK101;clear HB;have HO_5:=n0_;have BK101:=n1_;have HB:=n2_;have BK105:=n3_;have GW105:=n4_;have GE105:=n5_;have NB101_105:=n6_;have NB105_101:=n7_;clear n0_ n1_ n2_ n3_ n4_ n5_ n6_ n7_;clear hb hbox hg;have hnb15:=NB105_101.out;have hnc15:=NB101_105.out;have hcz16_0 : w14.cell? ⟨gb105,0,none⟩ = some (.int .u64 0):=(za BK105.out 0).trans rfl;have hcz16_1 : w14.cell? ⟨gb105,1,none⟩ = some (.int .u64 0):=(za BK105.out 1).trans rfl;have hfz16_0:=zb BK105.out 0;have hfz16_1:=zb BK105.out 1;have hcz17_0 : w14.cell? ⟨gb101,0,none⟩ = some (.int .u64 a1_0):=(za BK101.out 0).trans rfl;have hcz17_1 : w14.cell? ⟨gb101,1,none⟩ = some (.int .u64 a1_1):=(za BK101.out 1).trans rfl;have hfz17_0:=zb BK101.out 0;have hfz17_1:=zb BK101.out 1)|((with_reducible refine z1W (b:=.append) (xs:=#[.tmp 19,.tmp 32]) rfl ?_);at_builtin;refine Kd.z2S Kd.bool (w0:=w) w.heap.size rfl (.tmp 19) (.tmp 32) 24 4 (.bool false) 1 rfl Try.underlying24 info4 rfl (by decide) (by omega) u5 x5_1 ((Go.bits .or .u64 (Go.bits .and .u64 a1_1 t104) (Go.bits .and .u64 a1_0 t103)) != 0) [.bool ((Go.bits .or .u64 (Go.bits .and .u64 a1_1 t104) (Go.bits .and .u64 a1_0 t103)) != 0)] (fun _=>True) (fun _=>False) rfl (by first|(go_simp;done)|(go_simp;rfl)) ?aP (fun _ hk=>hk.elim) ?aF ?aO ?aB ?aS ?aL ?_;(case aP=>exact rfl);(case aB=>exact (by repeat (first|(with_reducible first|exact HB.out|apply z7|apply z1|apply z6|refine z5 ?_ GE101.out|refine z5 ?_ GE105.out)|exact HB.out)));(case aF=>exact (fun _ _=>trivial));(case aO=>exact (by (with_reducible repeat (first|apply Kd.zi|apply Kd.zj|apply Kd.zo));exact Kd.z19 (Kd.z1H (p:=⟨gb105,1,none⟩) (Kd.z1H (p:=⟨gb105,0,none⟩) (Kd.z2f HO_5.out BK105.out (by decide)) (fun _ hk=>hk.2) (.int .u64 t103)) (fun _ hk=>hk.2) (.int .u64 t104)) (fun _ hk=>trivial)));(case aS=>exact (ze (by repeat (first|(with_reducible first|exact HB.out|apply z7|apply z1|apply z6|refine z5 ?_ GE101.out|refine z5 ?_ GE105.out)|exact HB.out))));(case aL=>have:=LMc12.out;omega);intro v107 w18 ho hb hg hat;rw [← Ny106.out] at ho;have n0_:=z2.mk (z1D (g:=gb101) (o:=.cells #[.int .u64 a1_0,.int .u64 a1_1] 51 (0,0)) (by (with_reducible repeat (first|refine z4 ?_ _|refine z8 ?_|refine z3 ?_ _));refine zL ?_ NB101_105.out _;(with_reducible repeat (first|refine z4 ?_ _|refine z8 ?_|refine z3 ?_ _));refine zL ?_ NB101_105.out _;(with_reducible repeat (first|refine z4 ?_ _|refine z8 ?_|refine z3 ?_ _));exact BK101.out) hg (Kd.R_ne HO_5.out BK101.out (by decide)));have n1_:=z2.mk (z1D (g:=gb105) (o:=.cells #[.int .u64 t103,.int .u64 t104] 51 (0,0)) (by (with_reducible repeat (first|refine z4 ?_ _|refine z8 ?_|refine z3 ?_ _));refine zQ (cs:=#[.int .u64 t103,.int .u64 0]) ?_ 1 _ rfl;(with_reducible repeat (first|refine z4 ?_ _|refine z8 ?_|refine z3 ?_ _));refine zQ (cs:=#[.int .u64 0,.int .u64 0]) ?_ 0 _ rfl;(with_reducible repeat (first|refine z4 ?_ _|refine z8 ?_|refine z3 ?_ _));exact BK105.out) hg (Kd.R_ne HO_5.out BK105.out (by decide)));have n2_:=z2.mk (hb);have n3_:=z2.mk (ho);clear BK101;clear BK105;clear HB;clear HO_5;have BK101:=n0_;have BK105:=n1_;have HB:=n2_;have HO108:=n3_;clear n0_ n1_ n2_ n3_;clear ho hb hg hat))
   go_roundg k1
   case measure=>have:=HK1.out;omega
   case rel=>exact ⟨(y106),(wrap64 (x14_1 + 1)),(by first|rfl|(simp;done)|(simp [*];done)),H',⟨by have:=HK1.out;omega⟩,⟨by (with_reducible repeat (first|apply Kd.zi|apply Kd.zj|apply Kd.zo));exact HO108.out⟩,⟨by (with_reducible repeat (first|refine z4 ?_ _|refine z8 ?_|refine z3 ?_ _));exact BK101.out⟩,⟨by repeat (first|(with_reducible first|exact HB.out|apply z7|apply z1|apply z6|refine z5 ?_ GE101.out|refine z5 ?_ GE105.out)|exact HB.out)⟩⟩
end Go.Proofs.Ytngcaphdkgihmaa.P
namespace Go.Proofs.Ytngcaphdkgihmaa.P
open Go.RowKit Go.Proofs.YtngcaphdkgihmaaW.PrintWords Go.Proofs.YtngcaphdkgihmaaW.PrintLast Go.Proofs.YtngcaphdkgihmaaW.PrintMore
attribute [local go_sem] zX zZ z16 z17 zT zU zY z10   -- for this text's walks alone
set_option linter.unusedVariables false
set_option linter.unusedSimpArgs false
def zP.j0 : Nat → Int → Bool → Option (Int)
 | 0,_,_=>none
 | k + 1,x0,x3=>if x3 = true then (some 0) else (if x0 ≤ 3 then (some 1) else (if 0 ≤ (wrap64 (x0 - 3)) then (some (shl .i64 1 (wrap64 (x0 - 3)))) else (none)))
def zP.f (k : Nat) (a0 : Int) : Option (Int):=if a0 < 0 then (zP.j0 k a0 true) else (zP.j0 k a0 (decide (a0 > 7)))
theorem zP.z12 : ∀ k,(∀ y0 y1,LeO (zP.j0 k y0 y1) (zP.j0 (k + 1) y0 y1))
 | 0=>fun _ _ r h=>by simp [zP.j0] at h
 | k + 1=>by
  have ih0:=zP.z12 k
  · intro y0 y1
    unfold zP.j0
    repeat' first
    | (with_reducible exact ih0 _ _)
    | (with_reducible exact LeO.refl _)
    | (with_reducible exact LeO.none _)
    | (with_reducible refine LeO.ite ?_ ?_)
    | (with_reducible refine LeO.bind ?_ (fun _=>?_))
    | exact ih0 _ _
    | exact LeO.none _
    | refine LeO.ite ?_ ?_
    | refine LeO.bind ?_ (fun _=>?_)
theorem zP.mono : ∀ a0 k,LeO (zP.f k a0) (zP.f (k + 1) a0):=by
 intro a0 k
 have ih0:=zP.z12 k
 unfold zP.f
 repeat' first
  | (with_reducible exact ih0 _ _)
  | (with_reducible exact LeO.refl _)
  | (with_reducible exact LeO.none _)
  | (with_reducible refine LeO.ite ?_ ?_)
  | (with_reducible refine LeO.bind ?_ (fun _=>?_))
  | exact ih0 _ _
  | exact LeO.none _
  | refine LeO.ite ?_ ?_
  | refine LeO.bind ?_ (fun _=>?_)
set_option maxHeartbeats 8000000 in
set_option maxRecDepth 100000 in
theorem zP.calls (k : Nat) (a0 : Int) (r : Int) (w : World) (h : zP.f k a0 = some r) :
 Calls Try.prog 78 #[.int .i64 a0] w fun e w'=>e = .returned (.int .i64 r) ∧ Drawn0 w w':=by
 have H : (if a0 < 0 then (zP.j0 k a0 true) else (zP.j0 k a0 (decide (a0 > 7)))) = some r:=h
 clear h
 have HC2:=z2.mk H
 clear H
 go_enter Try.func78,Try.ntmps78
 go_upto_region 1 with (fail)
 go_cut [3] (fun v3 wc=>∃ (kq : Nat) (x3_1 : Bool),v3 = .bool x3_1 ∧ z2 (zP.j0 kq a0 x3_1 = some r) ∧ z2 (kq ≤ k) ∧ Drawn0 w wc)
 case first =>
  have H:=HC2.out
  clear HC2
  by_cases c3 : a0 < 0
  rotate_left
  · rw [if_neg c3] at H
    have c3b0 : decide (a0 < 0) = false:=decide_eq_false c3
    clear c3
    (first|rw [c3b0]|(simp only [zR,zV];rw [c3b0])|skip)
    have H':=z2.mk H
    clear H
    go_wp2
    go_meet
    case rel=>exact ⟨_,(decide (a0 > 7)),(by first|rfl|(simp;done)|(simp [*];done)),H',⟨by first|omega|exact Nat.le_refl _⟩,by repeat (first|exact Drawn0.refl _|apply Drawn0.step)⟩
  rw [if_pos c3] at H
  have c3b0 : decide (a0 < 0) = true:=decide_eq_true c3
  clear c3
  (first|rw [c3b0]|(simp only [zR,zV];rw [c3b0])|skip)
  have H':=z2.mk H
  clear H
  go_wp2
  go_meet
  case rel=>exact ⟨_,(true),(by first|rfl|(simp;done)|(simp [*];done)),H',⟨by first|omega|exact Nat.le_refl _⟩,by repeat (first|exact Drawn0.refl _|apply Drawn0.step)⟩
 case rest =>
  clear HC2
  (try clear p2);(try clear c3);(try clear c3b0)
  obtain ⟨kq,x3_1,rfl,HA,HJ1,⟨mc1,rfl⟩⟩:=hcut
  cases kq with
  | zero=>exact absurd HA.out (by simp [zP.j0])
  | succ kj1 =>
   have H:=HA.out
   clear HA
   simp only [zP.j0] at H
   by_cases c4 : x3_1 = true
   · subst c4
     have H1 : (some 0) = some r:=by rw [if_pos rfl] at H;exact H
     clear H
     have H:=H1
     clear H1
     obtain rfl:=Option.some.inj H
     go_wp2
     go_ret
     exact ⟨by first|rfl|(simp;done)|(simp [*];done),by repeat (first|exact Drawn0.refl _|apply Drawn0.step)⟩
   replace c4:=Bool.eq_false_iff.mpr c4
   subst c4
   have H1 : (if a0 ≤ 3 then (some 1) else (if 0 ≤ (wrap64 (a0 - 3)) then (some (shl .i64 1 (wrap64 (a0 - 3)))) else (none))) = some r:=by rw [if_neg (show ¬ (false = true) by decide)] at H;exact H
   clear H
   have H:=H1
   clear H1
   by_cases c5 : a0 ≤ 3
   · rw [if_pos c5] at H
     have c5b0 : decide (a0 ≤ 3) = true:=decide_eq_true c5
     clear c5
     obtain rfl:=Option.some.inj H
     go_wp2
     go_ret
     exact ⟨by first|rfl|(simp;done)|(simp [*];done),by repeat (first|exact Drawn0.refl _|apply Drawn0.step)⟩
   rw [if_neg c5] at H
   have c5b0 : decide (a0 ≤ 3) = false:=decide_eq_false c5
   clear c5
   obtain ⟨ji6,hji6⟩ : ∃ j_ : Int,(wrap64 (a0 - 3)) = j_:=⟨_,rfl⟩
   replace H : (if 0 ≤ (ji6) then (some (shl .i64 1 (ji6))) else (none)) = some r:=by first|(rw [hji6] at H;exact H)|(simp only [hji6] at H ⊢;exact H)
   have hji6w : (IntKind.i64.wrap (a0 - 3)) = ji6:=(zR _).trans hji6
   by_cases c7 : 0 ≤ (ji6)
   rotate_left
   · rw [if_neg c7] at H
     exact absurd H (by simp)
   rw [if_pos c7] at H
   have c7b0:=eq_true c7
   have c7b1 : decide (0 ≤ (ji6)) = true:=decide_eq_true c7
   clear c7
   obtain ⟨ji8,hji8⟩ : ∃ j_ : Int,(shl .i64 1 (ji6)) = j_:=⟨_,rfl⟩
   replace H : (some ji8) = some r:=by first|(rw [hji8] at H;exact H)|(simp only [hji8] at H ⊢;exact H)
   have hji8_ : (IntKind.i64.wrap (1 * 2 ^ min (ji6).toNat 64)) = ji8:=hji8
   have hji8z : (ji6) ≤ 64 → (IntKind.i64.wrap (1 * 2 ^ (ji6).toNat)) = ji8:=z1p hji8
   have hji8u : (IntKind.i64.wrap (2 ^ min (ji6).toNat 64)) = ji8:=by have h_:=hji8_;rw [Int.one_mul] at h_;exact h_
   have hji8v : (ji6) ≤ 64 → (IntKind.i64.wrap (2 ^ (ji6).toNat)) = ji8:=fun hle_=>by have h_:=hji8z hle_;rw [Int.one_mul] at h_;exact h_
   have hji8y : (wrap64 (1 * 2 ^ min (ji6).toNat 64)) = ji8:=(zR _).symm.trans hji8_
   have hji8x : (ji6) ≤ 64 → (wrap64 (1 * 2 ^ (ji6).toNat)) = ji8:=fun h_=>(zR _).symm.trans (hji8z h_)
   obtain rfl:=Option.some.inj H
   go_wp2
   go_ret
   exact ⟨by first|rfl|(simp;done)|(simp only [← hji6,← hji8] <;> (first|rfl|simp))|(simp [*];done),by repeat (first|exact Drawn0.refl _|apply Drawn0.step)⟩
end Go.Proofs.Ytngcaphdkgihmaa.P
namespace Go.Proofs.Ytngcaphdkgihmaa.P
open Go.RowKit Go.Proofs.YtngcaphdkgihmaaW.PrintWords Go.Proofs.YtngcaphdkgihmaaW.PrintLast Go.Proofs.YtngcaphdkgihmaaW.PrintMore
attribute [local go_sem] zX zZ z16 z17 zT zU zY z10   -- for this text's walks alone
set_option linter.unusedVariables false
set_option linter.unusedSimpArgs false
def zK.f (k : Nat) (a0 : Int) : Option (Int):=(zP.f k a0).bind fun t101=>(if t101 = 0 then (some 0) else (if 0 ≤ a0 then (some (shl .i64 1 a0)) else (none)))
theorem zK.mono : ∀ a0 k,LeO (zK.f k a0) (zK.f (k + 1) a0):=by
 intro a0 k
 unfold zK.f
 repeat' first
  | (with_reducible exact zP.mono _ _)
  | (with_reducible exact LeO.refl _)
  | (with_reducible exact LeO.none _)
  | (with_reducible refine LeO.ite ?_ ?_)
  | (with_reducible refine LeO.bind ?_ (fun _=>?_))
  | exact zP.mono _ _
  | exact LeO.none _
  | refine LeO.ite ?_ ?_
  | refine LeO.bind ?_ (fun _=>?_)
set_option maxHeartbeats 8000000 in
set_option maxRecDepth 100000 in
theorem zK.calls (k : Nat) (a0 : Int) (r : Int) (w : World) (h : zK.f k a0 = some r) :
 Calls Try.prog 89 #[.int .i64 a0] w fun e w'=>e = .returned (.int .i64 r) ∧ Drawn0 w w':=by
 have H : ((zP.f k a0).bind fun t101=>(if t101 = 0 then (some 0) else (if 0 ≤ a0 then (some (shl .i64 1 a0)) else (none)))) = some r:=h
 clear h
 replace H:=Option.bind_eq_some_iff.mp H
 obtain ⟨t101,A20,H⟩:=H
 replace H : (if t101 = 0 then (some 0) else (if 0 ≤ a0 then (some (shl .i64 1 a0)) else (none))) = some r:=H
 have A2:=z2.mk A20
 clear A20
 by_cases c3 : t101 = 0
 · rw [if_pos c3] at H
   have c3b0 : (t101 == 0) = true:=beq_iff_eq.mpr c3
   have c3b1 : (t101 != 0) = false:=bne_eq_false_iff_eq.mpr c3
   clear c3
   obtain rfl:=Option.some.inj H
   go_enter Try.func89,Try.ntmps89
   go_wp2_with (first|((with_reducible refine zp (f:=78) rfl ?_);refine goesL_ (some 4) rfl rfl Try.func78 (by kernel_rfl) rfl #[.int .i64 a0] rfl (by (try simp only [List.map_toArray,List.map_cons,List.map_nil]);first|done|rfl|(simp only [List.length_drop,List.length_take];rfl)) ?_;(with_reducible refine (zP.calls k a0 t101 _ A2.out).mono ?_);rintro e w' ⟨rfl,⟨nd,rfl⟩⟩;refine ⟨_,rfl,?_⟩))
   go_ret
   exact ⟨by first|rfl|(simp;done)|(simp [*];done),by repeat (first|exact Drawn0.refl _|apply Drawn0.step)⟩
 rw [if_neg c3] at H
 have c3b0 : (t101 == 0) = false:=beq_eq_false_iff_ne.mpr c3
 have c3b1 : (t101 != 0) = true:=bne_iff_ne.mpr c3
 by_cases c4 : 0 ≤ a0
 rotate_left
 · rw [if_neg c4] at H
   exact absurd H (by simp)
 rw [if_pos c4] at H
 have c4b0:=eq_true c4
 have c4b1 : decide (0 ≤ a0) = true:=decide_eq_true c4
 clear c4
 obtain ⟨ji5,hji5⟩ : ∃ j_ : Int,(shl .i64 1 a0) = j_:=⟨_,rfl⟩
 replace H : (some ji5) = some r:=by first|(rw [hji5] at H;exact H)|(simp only [hji5] at H ⊢;exact H)
 (try rw [hji5] at A2)
 have hji5_ : (IntKind.i64.wrap (1 * 2 ^ min a0.toNat 64)) = ji5:=hji5
 have hji5z : a0 ≤ 64 → (IntKind.i64.wrap (1 * 2 ^ a0.toNat)) = ji5:=z1p hji5
 have hji5u : (IntKind.i64.wrap (2 ^ min a0.toNat 64)) = ji5:=by have h_:=hji5_;rw [Int.one_mul] at h_;exact h_
 have hji5v : a0 ≤ 64 → (IntKind.i64.wrap (2 ^ a0.toNat)) = ji5:=fun hle_=>by have h_:=hji5z hle_;rw [Int.one_mul] at h_;exact h_
 have hji5y : (wrap64 (1 * 2 ^ min a0.toNat 64)) = ji5:=(zR _).symm.trans hji5_
 have hji5x : a0 ≤ 64 → (wrap64 (1 * 2 ^ a0.toNat)) = ji5:=fun h_=>(zR _).symm.trans (hji5z h_)
 obtain rfl:=Option.some.inj H
 go_enter Try.func89,Try.ntmps89
 go_wp2_with (first|((with_reducible refine zp (f:=78) rfl ?_);refine goesL_ (some 4) rfl rfl Try.func78 (by kernel_rfl) rfl #[.int .i64 a0] rfl (by (try simp only [List.map_toArray,List.map_cons,List.map_nil]);first|done|rfl|(simp only [List.length_drop,List.length_take];rfl)) ?_;(with_reducible refine (zP.calls k a0 t101 _ A2.out).mono ?_);rintro e w' ⟨rfl,⟨nd,rfl⟩⟩;refine ⟨_,rfl,?_⟩))
 go_ret
 exact ⟨by first|rfl|(simp;done)|(simp only [← hji5] <;> (first|rfl|simp))|(simp [*];done),by repeat (first|exact Drawn0.refl _|apply Drawn0.step)⟩
end Go.Proofs.Ytngcaphdkgihmaa.P
namespace Go.Proofs.Ytngcaphdkgihmaa.P
open Go.RowKit Go.Proofs.YtngcaphdkgihmaaW.PrintWords Go.Proofs.YtngcaphdkgihmaaW.PrintLast Go.Proofs.YtngcaphdkgihmaaW.PrintMore
attribute [local go_sem] zX zZ z16 z17 zT zU zY z10   -- for this text's walks alone
set_option linter.unusedVariables false
set_option linter.unusedSimpArgs false
def zw.l0 : Nat → List (S51) → List Bool → Int → Int → Option ((List (S51)))
 | 0,_,_,_,_=>none
 | k + 1,x5,x17,x18,x19=>if x19 < x18 then (if 0 ≤ x19 then (if x19 < (x17.length : Int) then (if rdOf false x17 x19 = true then ((z1x.f).bind fun bt111=>(if x19 < (x5.length : Int) then (zw.l0 k (x5.set (x19 : Int).toNat (⟨bt111.1,bt111.2⟩ : S51)) x17 x18 (wrap64 (x19 + 1))) else (none))) else (zw.l0 k x5 x17 x18 (wrap64 (x19 + 1)))) else (none)) else (none)) else (some x5)
def zw.f (k : Nat) (a0 : Int) (a1_0 : Int) (a1_1 : Int) : Option ((List (S51))):=(zB.f k a0 a1_0 a1_1).bind fun t102=>(if t102 = true then ((zK.f k a0).bind fun t103=>(if 0 ≤ t103 then (if (t103 : Int).toNat ≤ 17592186044416 then ((zA.f k a0 a1_0 a1_1).bind fun t107=>(zw.l0 k (List.replicate (t103 : Int).toNat z51) t107 (t107.length : Int) 0)) else (none)) else (none))) else (some ([] : List (S51))))
theorem zw.z12 : ∀ k,(∀ y0 y1 y2 y3,LeO (zw.l0 k y0 y1 y2 y3) (zw.l0 (k + 1) y0 y1 y2 y3))
 | 0=>fun _ _ _ _ r h=>by simp [zw.l0] at h
 | k + 1=>by
  have ih0:=zw.z12 k
  · intro y0 y1 y2 y3
    unfold zw.l0
    repeat' first
    | (with_reducible exact ih0 _ _ _ _)
    | (with_reducible exact zB.mono _ _ _ _)
    | (with_reducible exact zK.mono _ _)
    | (with_reducible exact zA.mono _ _ _ _)
    | (with_reducible exact LeO.refl _)
    | (with_reducible exact LeO.none _)
    | (with_reducible refine LeO.ite ?_ ?_)
    | (with_reducible refine LeO.bind ?_ (fun _=>?_))
    | exact ih0 _ _ _ _
    | exact zB.mono _ _ _ _
    | exact zK.mono _ _
    | exact zA.mono _ _ _ _
    | exact LeO.none _
    | refine LeO.ite ?_ ?_
    | refine LeO.bind ?_ (fun _=>?_)
theorem zw.mono : ∀ a0 a1 a2 k,LeO (zw.f k a0 a1 a2) (zw.f (k + 1) a0 a1 a2):=by
 intro a0 a1 a2 k
 have ih0:=zw.z12 k
 unfold zw.f
 repeat' first
  | (with_reducible exact ih0 _ _ _ _)
  | (with_reducible exact zB.mono _ _ _ _)
  | (with_reducible exact zK.mono _ _)
  | (with_reducible exact zA.mono _ _ _ _)
  | (with_reducible exact LeO.refl _)
  | (with_reducible exact LeO.none _)
  | (with_reducible refine LeO.ite ?_ ?_)
  | (with_reducible refine LeO.bind ?_ (fun _=>?_))
  | exact ih0 _ _ _ _
  | exact zB.mono _ _ _ _
  | exact zK.mono _ _
  | exact zA.mono _ _ _ _
  | exact LeO.none _
  | refine LeO.ite ?_ ?_
  | refine LeO.bind ?_ (fun _=>?_)
set_option maxHeartbeats 8000000 in
set_option maxRecDepth 100000 in
theorem zw.calls (k : Nat) (a0 : Int) (a1_0 : Int) (a1_1 : Int) (r : List (S51)) (w : World) (h : zw.f k a0 a1_0 a1_1 = some r) :
 Calls Try.prog 59 #[.int .i64 a0,.agg #[.int .u64 a1_0,.int .u64 a1_1]] w fun e w'=>∃ v0_ : Value,e = .returned (v0_) ∧ Kd.R k51 51 w' w.heap.size (fun _=>True) v0_ r ∧ Below w.heap.size w w':=by
 have hu51:=Try.underlying51
 have HB:=z2.mk (Below.refl w.heap.size w)
 have H : ((zB.f k a0 a1_0 a1_1).bind fun t102=>(if t102 = true then ((zK.f k a0).bind fun t103=>(if 0 ≤ t103 then (if (t103 : Int).toNat ≤ 17592186044416 then ((zA.f k a0 a1_0 a1_1).bind fun t107=>(zw.l0 k (List.replicate (t103 : Int).toNat z51) t107 (t107.length : Int) 0)) else (none)) else (none))) else (some ([] : List (S51))))) = some r:=h
 clear h
 replace H:=Option.bind_eq_some_iff.mp H
 obtain ⟨t102,A30,H⟩:=H
 replace H : (if t102 = true then ((zK.f k a0).bind fun t103=>(if 0 ≤ t103 then (if (t103 : Int).toNat ≤ 17592186044416 then ((zA.f k a0 a1_0 a1_1).bind fun t107=>(zw.l0 k (List.replicate (t103 : Int).toNat z51) t107 (t107.length : Int) 0)) else (none)) else (none))) else (some ([] : List (S51)))) = some r:=H
 have A3:=z2.mk A30
 clear A30
 by_cases c4 : t102 = true
 rotate_left
 · replace c4:=Bool.eq_false_iff.mpr c4
   subst c4
   have H1 : (some ([] : List (S51))) = some r:=by rw [if_neg (show ¬ (false = true) by decide)] at H;exact H
   clear H
   have H:=H1
   clear H1
   obtain rfl:=Option.some.inj H
   go_enter Try.func59,Try.ntmps59
   go_wp2_with (first|((with_reducible refine zG (N:=3) rfl ?_);refine zC ?hg (N:=3) ?hd (cs:=#[.int .u64 a1_0,.int .u64 a1_1]) (t:=51) ?hr ?_;(case hd=>rfl);(case hg=>rfl);(case hr=>first|(go_simp;done)|(go_simp;rfl));intro gb101 hg w28 hbox hb;have n0_:=z2.mk (zd (by repeat (first|(with_reducible first|exact HB.out|apply z7|apply z1|apply z6)|exact HB.out)) hb);have n1_:=z2.mk (hbox);have n2_:=z2.mk ((by rw [hg];exact (ze (by repeat (first|(with_reducible first|exact HB.out|apply z7|apply z1|apply z6)|exact HB.out))) : w.heap.size ≤ gb101));have n3_:=z2.mk ((by rw [hg];exact (ze (by repeat (first|(with_reducible first|exact HB.out|apply z7|apply z1|apply z6)|exact HB.out))) : w.heap.size ≤ gb101));clear HB;have HB:=n0_;have BK101:=n1_;have GW101:=n2_;have GE101:=n3_;clear n0_ n1_ n2_ n3_;clear hb hbox hg;have hcz29_0 : w28.cell? ⟨gb101,0,none⟩ = some (.int .u64 a1_0):=(za BK101.out 0).trans rfl;have hcz29_1 : w28.cell? ⟨gb101,1,none⟩ = some (.int .u64 a1_1):=(za BK101.out 1).trans rfl;have hfz29_0:=zb BK101.out 0;have hfz29_1:=zb BK101.out 1)|((with_reducible refine zp (f:=67) rfl ?_);refine goesL_ (some 10) rfl rfl Try.func67 (by kernel_rfl) rfl #[.int .i64 a0,.agg #[.int .u64 a1_0,.int .u64 a1_1]] rfl (by (try simp only [List.map_toArray,List.map_cons,List.map_nil]);first|done|rfl|(simp only [List.length_drop,List.length_take];rfl)) ?_;(with_reducible refine (zB.calls k a0 a1_0 a1_1 false _ A3.out).mono ?_);rintro e w30 ⟨rfl,hb⟩;refine ⟨_,rfl,?_⟩;have n0_:=z2.mk (z9 (g:=gb101) (o:=.cells #[.int .u64 a1_0,.int .u64 a1_1] 51 (0,0)) (by (with_reducible repeat (first|refine z4 ?_ _|refine z8 ?_|refine z3 ?_ _));exact BK101.out) hb);have n1_:=z2.mk (zd (by repeat (first|(with_reducible first|exact HB.out|apply z7|apply z1|apply z6|refine z5 ?_ GE101.out)|exact HB.out)) hb);clear BK101;clear HB;have BK101:=n0_;have HB:=n1_;clear n0_ n1_;(try clear hb);(try clear hb2);(try clear hk);(try clear hi)))
   go_ret
   exact ⟨_,by first|rfl|(simp [zl,zm] <;> rfl)|(simp [*,zl,zm] <;> rfl),by first|exact Kd.z3g _ _ _ _ _|exact Kd.z47 _ _ _ _ _|exact Kd.z4d _ _ _ _ _|exact Kd.z49 _ _ _ _ _|exact Kd.z4b _ _ _ _ _,by repeat (first|(with_reducible first|exact HB.out|apply z7|apply z1|apply z6|refine z5 ?_ GE101.out)|exact HB.out)⟩
 subst c4
 have H1 : ((zK.f k a0).bind fun t103=>(if 0 ≤ t103 then (if (t103 : Int).toNat ≤ 17592186044416 then ((zA.f k a0 a1_0 a1_1).bind fun t107=>(zw.l0 k (List.replicate (t103 : Int).toNat z51) t107 (t107.length : Int) 0)) else (none)) else (none))) = some r:=by rw [if_pos rfl] at H;exact H
 clear H
 have H:=H1
 clear H1
 replace H:=Option.bind_eq_some_iff.mp H
 obtain ⟨t103,A50,H⟩:=H
 replace H : (if 0 ≤ t103 then (if (t103 : Int).toNat ≤ 17592186044416 then ((zA.f k a0 a1_0 a1_1).bind fun t107=>(zw.l0 k (List.replicate (t103 : Int).toNat z51) t107 (t107.length : Int) 0)) else (none)) else (none)) = some r:=H
 have A5:=z2.mk A50
 clear A50
 by_cases c6 : 0 ≤ t103
 rotate_left
 · rw [if_neg c6] at H
   exact absurd H (by simp)
 rw [if_pos c6] at H
 have c6b0:=eq_true c6
 have c6b1 : decide (0 ≤ t103) = true:=decide_eq_true c6
 clear c6
 by_cases c7 : (t103 : Int).toNat ≤ 17592186044416
 rotate_left
 · rw [if_neg c7] at H
   exact absurd H (by simp)
 rw [if_pos c7] at H
 have c7b0:=eq_true c7
 have c7b1 : decide ((t103 : Int).toNat ≤ 17592186044416) = true:=decide_eq_true c7
 clear c7
 obtain ⟨y104,hy104⟩ : ∃ y_ : List (S51),y_ = (List.replicate (t103 : Int).toNat z51):=⟨_,rfl⟩
 replace H : ((zA.f k a0 a1_0 a1_1).bind fun t107=>(zw.l0 k y104 t107 (t107.length : Int) 0)) = some r:=by first|(rw [hy104];with_reducible exact H)|(have H2_:=(Option.bind_some _ _).symm.trans H;rw [hy104];with_reducible exact H2_)|(have H2_:=(Option.bind_some _ _).symm.trans H;with_reducible exact H2_)|with_reducible exact H|(rw [hy104];exact H)|exact H
 have Ny104:=z2.mk hy104
 clear hy104
 replace H:=Option.bind_eq_some_iff.mp H
 obtain ⟨t107,A80,H⟩:=H
 replace H : (zw.l0 k y104 t107 (t107.length : Int) 0) = some r:=H
 have A8:=z2.mk A80
 clear A80
 have H':=z2.mk H
 clear H
 go_enter Try.func59,Try.ntmps59
 go_wp2_with (first|((with_reducible refine zG (N:=3) rfl ?_);refine zC ?hg (N:=3) ?hd (cs:=#[.int .u64 a1_0,.int .u64 a1_1]) (t:=51) ?hr ?_;(case hd=>rfl);(case hg=>rfl);(case hr=>first|(go_simp;done)|(go_simp;rfl));intro gb101 hg w9 hbox hb;have n0_:=z2.mk (zd (by repeat (first|(with_reducible first|exact HB.out|apply z7|apply z1|apply z6)|exact HB.out)) hb);have n1_:=z2.mk (hbox);have n2_:=z2.mk ((by rw [hg];exact (ze (by repeat (first|(with_reducible first|exact HB.out|apply z7|apply z1|apply z6)|exact HB.out))) : w.heap.size ≤ gb101));have n3_:=z2.mk ((by rw [hg];exact (ze (by repeat (first|(with_reducible first|exact HB.out|apply z7|apply z1|apply z6)|exact HB.out))) : w.heap.size ≤ gb101));clear HB;have HB:=n0_;have BK101:=n1_;have GW101:=n2_;have GE101:=n3_;clear n0_ n1_ n2_ n3_;clear hb hbox hg;have hcz10_0 : w9.cell? ⟨gb101,0,none⟩ = some (.int .u64 a1_0):=(za BK101.out 0).trans rfl;have hcz10_1 : w9.cell? ⟨gb101,1,none⟩ = some (.int .u64 a1_1):=(za BK101.out 1).trans rfl;have hfz10_0:=zb BK101.out 0;have hfz10_1:=zb BK101.out 1)|((with_reducible refine zp (f:=67) rfl ?_);refine goesL_ (some 10) rfl rfl Try.func67 (by kernel_rfl) rfl #[.int .i64 a0,.agg #[.int .u64 a1_0,.int .u64 a1_1]] rfl (by (try simp only [List.map_toArray,List.map_cons,List.map_nil]);first|done|rfl|(simp only [List.length_drop,List.length_take];rfl)) ?_;(with_reducible refine (zB.calls k a0 a1_0 a1_1 true _ A3.out).mono ?_);rintro e w11 ⟨rfl,hb⟩;refine ⟨_,rfl,?_⟩;have n0_:=z2.mk (z9 (g:=gb101) (o:=.cells #[.int .u64 a1_0,.int .u64 a1_1] 51 (0,0)) (by (with_reducible repeat (first|refine z4 ?_ _|refine z8 ?_|refine z3 ?_ _));exact BK101.out) hb);have n1_:=z2.mk (zd (by repeat (first|(with_reducible first|exact HB.out|apply z7|apply z1|apply z6|refine z5 ?_ GE101.out)|exact HB.out)) hb);clear BK101;clear HB;have BK101:=n0_;have HB:=n1_;clear n0_ n1_;(try clear hb);(try clear hb2);(try clear hk);(try clear hi))|((with_reducible refine zp (f:=89) rfl ?_);refine goesL_ (some 13) rfl rfl Try.func89 (by kernel_rfl) rfl #[.int .i64 a0] rfl (by (try simp only [List.map_toArray,List.map_cons,List.map_nil]);first|done|rfl|(simp only [List.length_drop,List.length_take];rfl)) ?_;(with_reducible refine (zK.calls k a0 t103 _ A5.out).mono ?_);rintro e w' ⟨rfl,⟨nd,rfl⟩⟩;refine ⟨_,rfl,?_⟩)|((with_reducible refine zG (N:=14) rfl ?_);refine Kd.z55 k51 _ 51 rfl (N:=14) rfl 92 _ _ rfl t103 rfl rfl Try.underlying92 (.agg #[(.int .u64 0),(.int .u64 0)]) 16 info51 rfl (by decide) (by omega) z51 (ok:=fun _=>True) (okp:=fun _=>True) (z2w _ _ _ z51 ) (fun _ hk=>hk) trivial (of_decide_eq_true (by first|(with_reducible assumption)|assumption)) (Nat.le_trans (Nat.mul_le_mul_right _ (of_decide_eq_true (by first|(with_reducible assumption)|assumption) : t103.toNat ≤ 17592186044416)) (by omega)) (Below.refl _ _) (Nat.le_refl _) ?_;intro v105 w12 ho13 hb hg_ hnew_;clear hg_ hnew_;(first|rw [← Ny104.out] at ho13|(simp only [Int.reduceToNat] at ho13;rw [← Ny104.out] at ho13));have n0_:=z2.mk (Kd.z14 (Kd.z1n ho13 (g:=gb101) (o:=.cells #[.int .u64 a1_0,.int .u64 a1_1] 51 (0,0)) (by (with_reducible repeat (first|refine z4 ?_ _|refine z8 ?_|refine z3 ?_ _));exact BK101.out)) (ze (by repeat (first|(with_reducible first|exact HB.out|apply z7|apply z1|apply z6|refine z5 ?_ GE101.out)|exact HB.out))));have n1_:=z2.mk (z9 (g:=gb101) (o:=.cells #[.int .u64 a1_0,.int .u64 a1_1] 51 (0,0)) (by (with_reducible repeat (first|refine z4 ?_ _|refine z8 ?_|refine z3 ?_ _));exact BK101.out) hb);have n2_:=z2.mk (zd (by repeat (first|(with_reducible first|exact HB.out|apply z7|apply z1|apply z6|refine z5 ?_ GE101.out)|exact HB.out)) hb);clear BK101;clear HB;have HO106:=n0_;have BK101:=n1_;have HB:=n2_;clear n0_ n1_ n2_;clear hb ho13;have hcz14_0 : w12.cell? ⟨gb101,0,none⟩ = some (.int .u64 a1_0):=(za BK101.out 0).trans rfl;have hcz14_1 : w12.cell? ⟨gb101,1,none⟩ = some (.int .u64 a1_1):=(za BK101.out 1).trans rfl;have hfz14_0:=zb BK101.out 0;have hfz14_1:=zb BK101.out 1)|((with_reducible refine zp (f:=29) rfl ?_);refine goesL_ (some 17) rfl rfl Try.func29 (by kernel_rfl) rfl #[.int .i64 a0,.agg #[.int .u64 a1_0,.int .u64 a1_1]] rfl (by (try simp only [List.map_toArray,List.map_cons,List.map_nil]);first|done|rfl|(simp only [List.length_drop,List.length_take];rfl)) ?_;(with_reducible refine (zA.calls k a0 a1_0 a1_1 t107 _ A8.out).mono ?_);rintro e w15 ⟨v108,rfl,ho0,hb⟩;refine ⟨_,rfl,?_⟩;have n0_:=z2.mk (Kd.zx (by (with_reducible repeat (first|apply Kd.zi|apply Kd.zj|apply Kd.zo));exact HO106.out) hb);have n1_:=z2.mk (Kd.z14 ho0 (ze (by repeat (first|(with_reducible first|exact HB.out|apply z7|apply z1|apply z6|refine z5 ?_ GE101.out)|exact HB.out))));have n2_:=z2.mk (z9 (g:=gb101) (o:=.cells #[.int .u64 a1_0,.int .u64 a1_1] 51 (0,0)) (by (with_reducible repeat (first|refine z4 ?_ _|refine z8 ?_|refine z3 ?_ _));exact BK101.out) hb);have n3_:=z2.mk (zd (by repeat (first|(with_reducible first|exact HB.out|apply z7|apply z1|apply z6|refine z5 ?_ GE101.out)|exact HB.out)) hb);clear HO106;clear BK101;clear HB;have HO106:=n0_;have HO109:=n1_;have BK101:=n2_;have HB:=n3_;clear n0_ n1_ n2_ n3_;(try clear hb);(try clear hb2);(try clear hk);(try clear hi);(try clear ho0);obtain ⟨Ao16,co16,eo16⟩:=Kd.z13 HO109.out;subst eo16))
 go_loopg [19] k (fun kq v19 w'=>∃ (x5_1 : List (S51)) (x19_1 : Int) (x102000_1 : Int) (x102001_1 : Int),v19 = .int .i64 x19_1 ∧ z2 (zw.l0 kq x5_1 t107 (t107.length : Int) x19_1 = some r) ∧ z2 (kq ≤ k) ∧ z2 (Kd.R k51 51 w' w.heap.size (fun k_=>k_ ≠ gb101) v105 x5_1) ∧ z2 (Kd.R Kd.bool 4 w' w.heap.size (fun _=>True) (.slice Ao16 t107.length co16) t107) ∧ z2 (w'.heap[gb101]? = some (.cells #[.int .u64 x102000_1,.int .u64 x102001_1] 51 (0,0))) ∧ z2 (Below w.heap.size w w'))
 case atStart=>exact ⟨(y104),(0),(a1_0),(a1_1),(by first|rfl|(simp;done)|(simp [*];done)),H',⟨Nat.le_refl _⟩,⟨by (with_reducible repeat (first|apply Kd.zi|apply Kd.zj|apply Kd.zo));exact Kd.z19 HO106.out (fun _ hk=>hk.2)⟩,⟨by (with_reducible repeat (first|apply Kd.zi|apply Kd.zj|apply Kd.zo));exact HO109.out⟩,⟨by (with_reducible repeat (first|refine z4 ?_ _|refine z8 ?_|refine z3 ?_ _));exact BK101.out⟩,⟨by repeat (first|(with_reducible first|exact HB.out|apply z7|apply z1|apply z6|refine z5 ?_ GE101.out)|exact HB.out)⟩⟩
 case round =>
  clear H'
  (try clear c2);(try clear p2);(try clear c4);(try clear c5);(try clear c6);(try clear c6b0);(try clear c6b1);(try clear c7);(try clear c7b0);(try clear c7b1);(try clear c8);(try clear hcz10_0);(try clear hcz10_1);(try clear hcz14_0);(try clear hcz14_1);(try clear hfz10_0);(try clear hfz10_1);(try clear hfz14_0);(try clear hfz14_1)
  obtain ⟨x5_1,x19_1,x102000_1,x102001_1,rfl,HA,HK1,HO_5,HO_17,BK101,HB⟩:=hrel
  cases gk with
  | zero=>exact absurd HA.out (by simp [zw.l0])
  | succ k1 =>
   have H:=HA.out
   clear HA
   simp only [zw.l0] at H
   by_cases c17 : x19_1 < (t107.length : Int)
   rotate_left
   · rw [if_neg c17] at H
     have c17b0 : decide (x19_1 < (t107.length : Int)) = false:=decide_eq_false c17
     clear c17
     obtain rfl:=Option.some.inj H
     go_wp2
     go_ret
     exact ⟨_,by first|rfl|(simp [zl,zm] <;> rfl)|(simp [*,zl,zm] <;> rfl),by (with_reducible repeat (first|apply Kd.zi|apply Kd.zj|apply Kd.zo));exact Kd.z19 HO_5.out (fun _ hk=>trivial),by repeat (first|(with_reducible first|exact HB.out|apply z7|apply z1|apply z6|refine z5 ?_ GE101.out)|exact HB.out)⟩
   rw [if_pos c17] at H
   have c17b0 : decide (x19_1 < (t107.length : Int)) = true:=decide_eq_true c17
   clear c17
   by_cases c18 : 0 ≤ x19_1
   rotate_left
   · rw [if_neg c18] at H
     exact absurd H (by simp)
   rw [if_pos c18] at H
   have c18b0 : decide (0 ≤ x19_1) = true:=decide_eq_true c18
   clear c18
   by_cases c19 : x19_1 < (t107.length : Int)
   rotate_left
   · rw [if_neg c19] at H
     exact absurd H (by simp)
   rw [if_pos c19] at H
   have c19b0 : decide (x19_1 < (t107.length : Int)) = true:=decide_eq_true c19
   clear c19
   obtain ⟨bq20,hbq20⟩ : ∃ b_ : Bool,b_ = (rdOf false t107 x19_1):=⟨_,rfl⟩
   replace H : (if bq20 = true then ((z1x.f).bind fun bt111=>(if x19_1 < (x5_1.length : Int) then (zw.l0 k1 (x5_1.set (x19_1 : Int).toNat (⟨bt111.1,bt111.2⟩ : S51)) t107 (t107.length : Int) (wrap64 (x19_1 + 1))) else (none))) else (zw.l0 k1 x5_1 t107 (t107.length : Int) (wrap64 (x19_1 + 1)))) = some r:=by rw [← hbq20] at H;exact H
   have Nbq20:=z2.mk hbq20
   clear hbq20
   by_cases c21 : bq20 = true
   rotate_left
   · replace c21:=Bool.eq_false_iff.mpr c21
     subst c21
     have H1 : (zw.l0 k1 x5_1 t107 (t107.length : Int) (wrap64 (x19_1 + 1))) = some r:=by rw [if_neg (show ¬ (false = true) by decide)] at H;exact H
     clear H
     have H:=H1
     clear H1
     have H':=z2.mk H
     clear H
     have p110 : 0 ≤ (x19_1 : Int):=of_decide_eq_true (by first|(with_reducible assumption)|assumption)
     have q110 : x19_1 < (t107.length : Int):=of_decide_eq_true (by first|(with_reducible assumption)|assumption)
     obtain ⟨ad110,e110,hx110_0⟩:=Kd.z3z (Kd.zM HO_17.out).2.2 x19_1 p110 q110
     (try rw [← Nbq20.out] at hx110_0)
     cases e110
     replace p110:=eq_true p110
     replace q110:=eq_true q110
     go_wp2
     go_roundg k1
     case measure=>have:=HK1.out;omega
     case rel=>exact ⟨(x5_1),(wrap64 (x19_1 + 1)),(x102000_1),(x102001_1),(by first|rfl|(simp;done)|(simp [*];done)),H',⟨by have:=HK1.out;omega⟩,⟨by (with_reducible repeat (first|apply Kd.zi|apply Kd.zj|apply Kd.zo));exact HO_5.out⟩,⟨by (with_reducible repeat (first|apply Kd.zi|apply Kd.zj|apply Kd.zo));exact HO_17.out⟩,⟨by (with_reducible repeat (first|refine z4 ?_ _|refine z8 ?_|refine z3 ?_ _));exact BK101.out⟩,⟨by repeat (first|(with_reducible first|exact HB.out|apply z7|apply z1|apply z6|refine z5 ?_ GE101.out)|exact HB.out)⟩⟩
   subst c21
   have H1 : ((z1x.f).bind fun bt111=>(if x19_1 < (x5_1.length : Int) then (zw.l0 k1 (x5_1.set (x19_1 : Int).toNat (⟨bt111.1,bt111.2⟩ : S51)) t107 (t107.length : Int) (wrap64 (x19_1 + 1))) else (none))) = some r:=by rw [if_pos rfl] at H;exact H
   clear H
   have H:=H1
   clear H1
   replace H:=Option.bind_eq_some_iff.mp H
   obtain ⟨⟨t111,t112⟩,A220,H⟩:=H
   replace H : (if x19_1 < (x5_1.length : Int) then (zw.l0 k1 (x5_1.set (x19_1 : Int).toNat (⟨t111,t112⟩ : S51)) t107 (t107.length : Int) (wrap64 (x19_1 + 1))) else (none)) = some r:=H
   have A22:=z2.mk A220
   clear A220
   by_cases c23 : x19_1 < (x5_1.length : Int)
   rotate_left
   · rw [if_neg c23] at H
     exact absurd H (by simp)
   rw [if_pos c23] at H
   have c23b0 : decide (x19_1 < (x5_1.length : Int)) = true:=decide_eq_true c23
   clear c23
   obtain ⟨y113,hy113⟩ : ∃ y_ : List (S51),y_ = (x5_1.set (x19_1 : Int).toNat (⟨t111,t112⟩ : S51)):=⟨_,rfl⟩
   replace H : (zw.l0 k1 y113 t107 (t107.length : Int) (wrap64 (x19_1 + 1))) = some r:=by first|(rw [hy113];with_reducible exact H)|(have H2_:=(Option.bind_some _ _).symm.trans H;rw [hy113];with_reducible exact H2_)|(have H2_:=(Option.bind_some _ _).symm.trans H;with_reducible exact H2_)|with_reducible exact H|(rw [hy113];exact H)|exact H
   have Ny113:=z2.mk hy113
   clear hy113
   have H':=z2.mk H
   clear H
   have p110 : 0 ≤ (x19_1 : Int):=of_decide_eq_true (by first|(with_reducible assumption)|assumption)
   have q110 : x19_1 < (t107.length : Int):=of_decide_eq_true (by first|(with_reducible assumption)|assumption)
   obtain ⟨ad110,e110,hx110_0⟩:=Kd.z3z (Kd.zM HO_17.out).2.2 x19_1 p110 q110
   (try rw [← Nbq20.out] at hx110_0)
   cases e110
   replace p110:=eq_true p110
   replace q110:=eq_true q110
   go_wp2_with (first|((with_reducible refine zp (f:=66) rfl ?_);refine goesL_ (some 27) rfl rfl Try.func66 (by kernel_rfl) rfl #[] rfl (by (try simp only [List.map_toArray,List.map_cons,List.map_nil]);first|done|rfl|(simp only [List.length_drop,List.length_take];rfl)) ?_;(with_reducible refine (z1x.calls  t111 t112 _ A22.out).mono ?_);rintro e w25 ⟨rfl,hb⟩;refine ⟨_,rfl,?_⟩;have n0_:=z2.mk (Kd.zx (by (with_reducible repeat (first|apply Kd.zi|apply Kd.zj|apply Kd.zo));exact HO_5.out) hb);have n1_:=z2.mk (Kd.zx (by (with_reducible repeat (first|apply Kd.zi|apply Kd.zj|apply Kd.zo));exact HO_17.out) hb);have n2_:=z2.mk (z9 (g:=gb101) (o:=.cells #[.int .u64 x102000_1,.int .u64 x102001_1] 51 (0,0)) (by (with_reducible repeat (first|refine z4 ?_ _|refine z8 ?_|refine z3 ?_ _));exact BK101.out) hb);have n3_:=z2.mk (zd (by repeat (first|(with_reducible first|exact HB.out|apply z7|apply z1|apply z6|refine z5 ?_ GE101.out)|exact HB.out)) hb);clear HO_5;clear HO_17;clear BK101;clear HB;have HO_5:=n0_;have HO_17:=n1_;have BK101:=n2_;have HB:=n3_;clear n0_ n1_ n2_ n3_;(try clear hb);(try clear hb2);(try clear hk);(try clear hi);have p24 : 0 ≤ (x19_1 : Int):=of_decide_eq_true (by first|(with_reducible assumption)|assumption);have q24 : (x19_1 : Int) < ((x5_1.length : Int) : Int):=of_decide_eq_true (by first|(with_reducible assumption)|assumption);obtain ⟨go24,co24,eo24,gb24,gl24,cl24,HG24⟩:=Kd.z54 HO_5.out (by omega);(first|cases eo24|(injection eo24 with ea_ en_ ec_;(first|subst ea_|(injection ea_ with ea_;subst ea_));subst ec_;clear en_));have GB24:=z2.mk gb24;have GG24:=z2.mk HG24;clear gb24 gl24 HG24;obtain ⟨ce24,hcl24,hM24,hcc24,hfr24⟩:=Kd.z3n HO_5.out z51 (x19_1 : Int) p24 q24;obtain rfl:=z1S hM24;have hx24_0 : w25.cell? ⟨go24,(x19_1 : Int).toNat * 2,none⟩ = some (.int .u64 ((zt x5_1 x19_1).f0)):=hcc24 0 _ rfl;have hx24_1 : w25.cell? ⟨go24,(x19_1 : Int).toNat * 2 + 1,none⟩ = some (.int .u64 ((zt x5_1 x19_1).f1)):=hcc24 1 _ rfl;have hf24_0 : w25.frozen? ⟨go24,(x19_1 : Int).toNat * 2,none⟩ = false:=hfr24 0;have hf24_1 : w25.frozen? ⟨go24,(x19_1 : Int).toNat * 2 + 1,none⟩ = false:=hfr24 1;clear hcl24 hcc24 hfr24 hM24;replace p24:=eq_true p24;replace q24:=eq_true q24;have HX26:=z2.mk (show Kd.R k51 51 w25 w.heap.size (fun k_=>k_ ≠ gb101) (.slice (some ⟨go24,0,none⟩) x5_1.length co24) x5_1 from (by (with_reducible repeat (first|apply Kd.zi|apply Kd.zj|apply Kd.zo));exact HO_5.out));obtain ⟨ce26,hcl26,hM26,hcc26,hfr26⟩:=Kd.z3n HX26.out z51 (x19_1 : Int) (of_decide_eq_true (by first|(with_reducible assumption)|assumption)) (by have h_ : (x19_1 : Int) < ((x5_1.length : Int) : Int):=of_decide_eq_true (by first|(with_reducible assumption)|assumption);first|exact h_|(have e_:=(Kd.zM HO_5.out).1;omega)|simpa using h_);obtain rfl:=z1S hM26;have HP26:=Kd.R_seg HX26.out (x19_1 : Int) (of_decide_eq_true (by first|(with_reducible assumption)|assumption)) (by have h_ : (x19_1 : Int) < ((x5_1.length : Int) : Int):=of_decide_eq_true (by first|(with_reducible assumption)|assumption);first|exact h_|(have e_:=(Kd.zM HO_5.out).1;omega)|simpa using h_) (seg:=[.int .u64 t111,.int .u64 t112]) (j:=0) hcl26 hcc26 (show 2 ≤ 2 from by decide) (x':=(⟨t111,t112⟩ : S51)) (z2w _ _ _ (⟨t111,t112⟩ : S51) ) (fun _ hk=>hk);have hx26_0:=hcc26 0 _ rfl;(try simp only [show (k51).sz = 2 from rfl,Nat.mul_one,Nat.add_zero] at hx26_0);have hf26_0:=hfr26 0;(try simp only [show (k51).sz = 2 from rfl,Nat.mul_one,Nat.add_zero] at hf26_0);have hx26_1:=hcc26 1 _ rfl;(try simp only [show (k51).sz = 2 from rfl,Nat.mul_one,Nat.add_zero] at hx26_1);have hf26_1:=hfr26 1;(try simp only [show (k51).sz = 2 from rfl,Nat.mul_one,Nat.add_zero] at hf26_1);clear hcl26 hcc26 hfr26 hM26)|((with_reducible refine z3q (t:=51) (p:=28) rfl ?_);refine z3c (t:=51) (p:=28) (v:=?vo_w27) (w1:=((w25.setCell ⟨go24,(x19_1 : Int).toNat * 2,none⟩ (.int .u64 t111)).setCell ⟨go24,(x19_1 : Int).toNat * 2 + 1,none⟩ (.int .u64 t112))) ?hg ?ho ?hn ?hr ?_;(case ho=>rfl);(case hg=>rfl);(case hn=>rfl);(case hr=>first|(go_simp;done)|(go_simp;rfl));intro w27 hw;have hg : w25.grownBy w27 (some go24):=(by rw [hw];exact HP26.2);have hp_ : Kd.R k51 51 w27 w.heap.size (fun k_=>k_ ≠ gb101) (.slice (some ⟨go24,0,none⟩) x5_1.length co24) y113:=(by rw [hw,Ny113.out];exact HP26.1);clear HP26;have n0_:=z2.mk (hp_);have n1_:=z2.mk (Kd.R_over' (v:=(.slice (some ⟨go24,0,none⟩) x5_1.length co24)) (by (with_reducible repeat (first|apply Kd.zi|apply Kd.zj|apply Kd.zo));exact HO_17.out) (Kd.R_typed HO_5.out) (by decide) hg);have n2_:=z2.mk (z1D (g:=gb101) (o:=.cells #[.int .u64 x102000_1,.int .u64 x102001_1] 51 (0,0)) (by (with_reducible repeat (first|refine z4 ?_ _|refine z8 ?_|refine z3 ?_ _));exact BK101.out) hg (Kd.z1M HO_5.out (fun _ hk=>hk)));have n3_:=z2.mk ((by rw [hw];exact z5 (z5 (HB.out) GB24.out) GB24.out : Below w.heap.size w w27));clear HO_5;clear HO_17;clear BK101;clear HB;have HO_5:=n0_;have HO_17:=n1_;have BK101:=n2_;have HB:=n3_;clear n0_ n1_ n2_ n3_;clear hg hw hp_))
   go_roundg k1
   case measure=>have:=HK1.out;omega
   case rel=>exact ⟨(y113),(wrap64 (x19_1 + 1)),(x102000_1),(x102001_1),(by first|rfl|(simp;done)|(simp [*];done)),H',⟨by have:=HK1.out;omega⟩,⟨by (with_reducible repeat (first|apply Kd.zi|apply Kd.zj|apply Kd.zo));exact HO_5.out⟩,⟨by (with_reducible repeat (first|apply Kd.zi|apply Kd.zj|apply Kd.zo));exact HO_17.out⟩,⟨by (with_reducible repeat (first|refine z4 ?_ _|refine z8 ?_|refine z3 ?_ _));exact BK101.out⟩,⟨by repeat (first|(with_reducible first|exact HB.out|apply z7|apply z1|apply z6|refine z5 ?_ GE101.out)|exact HB.out)⟩⟩
end Go.Proofs.Ytngcaphdkgihmaa.P
namespace Go.Proofs.Ytngcaphdkgihmaa.P
open Go.RowKit Go.Proofs.YtngcaphdkgihmaaW.PrintWords Go.Proofs.YtngcaphdkgihmaaW.PrintLast Go.Proofs.YtngcaphdkgihmaaW.PrintMore
attribute [local go_sem] zX zZ z16 z17 zT zU zY z10   -- for this text's walks alone
set_option linter.unusedVariables false
set_option linter.unusedSimpArgs false
def zW.f (k : Nat) (a0 : Int) (a1_0 : Int) (a1_1 : Int) : Option ((List (S51))):=(zB.f k a0 a1_0 a1_1).bind fun t102=>(if t102 = true then ((zK.f k a0).bind fun t103=>(if 0 ≤ t103 then (if (t103 : Int).toNat ≤ 17592186044416 then ((some (List.replicate (t103 : Int).toNat z51 : List (S51))).bind fun y104=>(if 0 < (y104.length : Int) then (some (y104.set (0 : Int).toNat (⟨a1_0,a1_1⟩ : S51))) else (none))) else (none)) else (none))) else (some ([] : List (S51))))
theorem zW.mono : ∀ a0 a1 a2 k,LeO (zW.f k a0 a1 a2) (zW.f (k + 1) a0 a1 a2):=by
 intro a0 a1 a2 k
 unfold zW.f
 repeat' first
  | (with_reducible exact zB.mono _ _ _ _)
  | (with_reducible exact zK.mono _ _)
  | (with_reducible exact LeO.refl _)
  | (with_reducible exact LeO.none _)
  | (with_reducible refine LeO.ite ?_ ?_)
  | (with_reducible refine LeO.bind ?_ (fun _=>?_))
  | exact zB.mono _ _ _ _
  | exact zK.mono _ _
  | exact LeO.none _
  | refine LeO.ite ?_ ?_
  | refine LeO.bind ?_ (fun _=>?_)
set_option maxHeartbeats 8000000 in
set_option maxRecDepth 100000 in
theorem zW.calls (k : Nat) (a0 : Int) (a1_0 : Int) (a1_1 : Int) (r : List (S51)) (w : World) (h : zW.f k a0 a1_0 a1_1 = some r) :
 Calls Try.prog 60 #[.int .i64 a0,.agg #[.int .u64 a1_0,.int .u64 a1_1]] w fun e w'=>∃ v0_ : Value,e = .returned (v0_) ∧ Kd.R k51 51 w' w.heap.size (fun _=>True) v0_ r ∧ Below w.heap.size w w':=by
 have hu51:=Try.underlying51
 have HB:=z2.mk (Below.refl w.heap.size w)
 have H : ((zB.f k a0 a1_0 a1_1).bind fun t102=>(if t102 = true then ((zK.f k a0).bind fun t103=>(if 0 ≤ t103 then (if (t103 : Int).toNat ≤ 17592186044416 then ((some (List.replicate (t103 : Int).toNat z51 : List (S51))).bind fun y104=>(if 0 < (y104.length : Int) then (some (y104.set (0 : Int).toNat (⟨a1_0,a1_1⟩ : S51))) else (none))) else (none)) else (none))) else (some ([] : List (S51))))) = some r:=h
 clear h
 replace H:=Option.bind_eq_some_iff.mp H
 obtain ⟨t102,A30,H⟩:=H
 replace H : (if t102 = true then ((zK.f k a0).bind fun t103=>(if 0 ≤ t103 then (if (t103 : Int).toNat ≤ 17592186044416 then ((some (List.replicate (t103 : Int).toNat z51 : List (S51))).bind fun y104=>(if 0 < (y104.length : Int) then (some (y104.set (0 : Int).toNat (⟨a1_0,a1_1⟩ : S51))) else (none))) else (none)) else (none))) else (some ([] : List (S51)))) = some r:=H
 have A3:=z2.mk A30
 clear A30
 by_cases c4 : t102 = true
 rotate_left
 · replace c4:=Bool.eq_false_iff.mpr c4
   subst c4
   have H1 : (some ([] : List (S51))) = some r:=by rw [if_neg (show ¬ (false = true) by decide)] at H;exact H
   clear H
   have H:=H1
   clear H1
   obtain rfl:=Option.some.inj H
   go_enter Try.func60,Try.ntmps60
   go_wp2_with (first|((with_reducible refine zG (N:=3) rfl ?_);refine zC ?hg (N:=3) ?hd (cs:=#[.int .u64 a1_0,.int .u64 a1_1]) (t:=51) ?hr ?_;(case hd=>rfl);(case hg=>rfl);(case hr=>first|(go_simp;done)|(go_simp;rfl));intro gb101 hg w18 hbox hb;have n0_:=z2.mk (zd (by repeat (first|(with_reducible first|exact HB.out|apply z7|apply z1|apply z6)|exact HB.out)) hb);have n1_:=z2.mk (hbox);have n2_:=z2.mk ((by rw [hg];exact (ze (by repeat (first|(with_reducible first|exact HB.out|apply z7|apply z1|apply z6)|exact HB.out))) : w.heap.size ≤ gb101));have n3_:=z2.mk ((by rw [hg];exact (ze (by repeat (first|(with_reducible first|exact HB.out|apply z7|apply z1|apply z6)|exact HB.out))) : w.heap.size ≤ gb101));clear HB;have HB:=n0_;have BK101:=n1_;have GW101:=n2_;have GE101:=n3_;clear n0_ n1_ n2_ n3_;clear hb hbox hg;have hcz19_0 : w18.cell? ⟨gb101,0,none⟩ = some (.int .u64 a1_0):=(za BK101.out 0).trans rfl;have hcz19_1 : w18.cell? ⟨gb101,1,none⟩ = some (.int .u64 a1_1):=(za BK101.out 1).trans rfl;have hfz19_0:=zb BK101.out 0;have hfz19_1:=zb BK101.out 1)|((with_reducible refine zp (f:=67) rfl ?_);refine goesL_ (some 8) rfl rfl Try.func67 (by kernel_rfl) rfl #[.int .i64 a0,.agg #[.int .u64 a1_0,.int .u64 a1_1]] rfl (by (try simp only [List.map_toArray,List.map_cons,List.map_nil]);first|done|rfl|(simp only [List.length_drop,List.length_take];rfl)) ?_;(with_reducible refine (zB.calls k a0 a1_0 a1_1 false _ A3.out).mono ?_);rintro e w20 ⟨rfl,hb⟩;refine ⟨_,rfl,?_⟩;have n0_:=z2.mk (z9 (g:=gb101) (o:=.cells #[.int .u64 a1_0,.int .u64 a1_1] 51 (0,0)) (by (with_reducible repeat (first|refine z4 ?_ _|refine z8 ?_|refine z3 ?_ _));exact BK101.out) hb);have n1_:=z2.mk (zd (by repeat (first|(with_reducible first|exact HB.out|apply z7|apply z1|apply z6|refine z5 ?_ GE101.out)|exact HB.out)) hb);clear BK101;clear HB;have BK101:=n0_;have HB:=n1_;clear n0_ n1_;(try clear hb);(try clear hb2);(try clear hk);(try clear hi)))
   go_ret
   exact ⟨_,by first|rfl|(simp [zl,zm] <;> rfl)|(simp [*,zl,zm] <;> rfl),by first|exact Kd.z3g _ _ _ _ _|exact Kd.z47 _ _ _ _ _|exact Kd.z4d _ _ _ _ _|exact Kd.z49 _ _ _ _ _|exact Kd.z4b _ _ _ _ _,by repeat (first|(with_reducible first|exact HB.out|apply z7|apply z1|apply z6|refine z5 ?_ GE101.out)|exact HB.out)⟩
 subst c4
 have H1 : ((zK.f k a0).bind fun t103=>(if 0 ≤ t103 then (if (t103 : Int).toNat ≤ 17592186044416 then ((some (List.replicate (t103 : Int).toNat z51 : List (S51))).bind fun y104=>(if 0 < (y104.length : Int) then (some (y104.set (0 : Int).toNat (⟨a1_0,a1_1⟩ : S51))) else (none))) else (none)) else (none))) = some r:=by rw [if_pos rfl] at H;exact H
 clear H
 have H:=H1
 clear H1
 replace H:=Option.bind_eq_some_iff.mp H
 obtain ⟨t103,A50,H⟩:=H
 replace H : (if 0 ≤ t103 then (if (t103 : Int).toNat ≤ 17592186044416 then ((some (List.replicate (t103 : Int).toNat z51 : List (S51))).bind fun y104=>(if 0 < (y104.length : Int) then (some (y104.set (0 : Int).toNat (⟨a1_0,a1_1⟩ : S51))) else (none))) else (none)) else (none)) = some r:=H
 have A5:=z2.mk A50
 clear A50
 by_cases c6 : 0 ≤ t103
 rotate_left
 · rw [if_neg c6] at H
   exact absurd H (by simp)
 rw [if_pos c6] at H
 have c6b0:=eq_true c6
 have c6b1 : decide (0 ≤ t103) = true:=decide_eq_true c6
 clear c6
 by_cases c7 : (t103 : Int).toNat ≤ 17592186044416
 rotate_left
 · rw [if_neg c7] at H
   exact absurd H (by simp)
 rw [if_pos c7] at H
 have c7b0:=eq_true c7
 have c7b1 : decide ((t103 : Int).toNat ≤ 17592186044416) = true:=decide_eq_true c7
 clear c7
 obtain ⟨y104,hy104⟩ : ∃ y_ : List (S51),y_ = (List.replicate (t103 : Int).toNat z51):=⟨_,rfl⟩
 replace H : (if 0 < (y104.length : Int) then (some (y104.set (0 : Int).toNat (⟨a1_0,a1_1⟩ : S51))) else (none)) = some r:=by first|(rw [hy104];with_reducible exact H)|(have H2_:=(Option.bind_some _ _).symm.trans H;rw [hy104];with_reducible exact H2_)|(have H2_:=(Option.bind_some _ _).symm.trans H;with_reducible exact H2_)|with_reducible exact H|(rw [hy104];exact H)|exact H
 have Ny104:=z2.mk hy104
 clear hy104
 by_cases c8 : 0 < (y104.length : Int)
 rotate_left
 · rw [if_neg c8] at H
   exact absurd H (by simp)
 rw [if_pos c8] at H
 have c8b0 : decide (0 < (y104.length : Int)) = true:=decide_eq_true c8
 have c8b1 : decide (0 < y104.length) = true:=decide_eq_true (by omega)
 clear c8
 obtain ⟨y107,hy107⟩ : ∃ y_ : List (S51),y_ = (y104.set (0 : Int).toNat (⟨a1_0,a1_1⟩ : S51)):=⟨_,rfl⟩
 replace H : (some y107) = some r:=by first|(rw [hy107];with_reducible exact H)|(have H2_:=(Option.bind_some _ _).symm.trans H;rw [hy107];with_reducible exact H2_)|(have H2_:=(Option.bind_some _ _).symm.trans H;with_reducible exact H2_)|with_reducible exact H|(rw [hy107];exact H)|exact H
 have Ny107:=z2.mk hy107
 clear hy107
 obtain rfl:=Option.some.inj H
 go_enter Try.func60,Try.ntmps60
 go_wp2_with (first|((with_reducible refine zG (N:=3) rfl ?_);refine zC ?hg (N:=3) ?hd (cs:=#[.int .u64 a1_0,.int .u64 a1_1]) (t:=51) ?hr ?_;(case hd=>rfl);(case hg=>rfl);(case hr=>first|(go_simp;done)|(go_simp;rfl));intro gb101 hg w10 hbox hb;have n0_:=z2.mk (zd (by repeat (first|(with_reducible first|exact HB.out|apply z7|apply z1|apply z6)|exact HB.out)) hb);have n1_:=z2.mk (hbox);have n2_:=z2.mk ((by rw [hg];exact (ze (by repeat (first|(with_reducible first|exact HB.out|apply z7|apply z1|apply z6)|exact HB.out))) : w.heap.size ≤ gb101));have n3_:=z2.mk ((by rw [hg];exact (ze (by repeat (first|(with_reducible first|exact HB.out|apply z7|apply z1|apply z6)|exact HB.out))) : w.heap.size ≤ gb101));clear HB;have HB:=n0_;have BK101:=n1_;have GW101:=n2_;have GE101:=n3_;clear n0_ n1_ n2_ n3_;clear hb hbox hg;have hcz11_0 : w10.cell? ⟨gb101,0,none⟩ = some (.int .u64 a1_0):=(za BK101.out 0).trans rfl;have hcz11_1 : w10.cell? ⟨gb101,1,none⟩ = some (.int .u64 a1_1):=(za BK101.out 1).trans rfl;have hfz11_0:=zb BK101.out 0;have hfz11_1:=zb BK101.out 1)|((with_reducible refine zp (f:=67) rfl ?_);refine goesL_ (some 8) rfl rfl Try.func67 (by kernel_rfl) rfl #[.int .i64 a0,.agg #[.int .u64 a1_0,.int .u64 a1_1]] rfl (by (try simp only [List.map_toArray,List.map_cons,List.map_nil]);first|done|rfl|(simp only [List.length_drop,List.length_take];rfl)) ?_;(with_reducible refine (zB.calls k a0 a1_0 a1_1 true _ A3.out).mono ?_);rintro e w12 ⟨rfl,hb⟩;refine ⟨_,rfl,?_⟩;have n0_:=z2.mk (z9 (g:=gb101) (o:=.cells #[.int .u64 a1_0,.int .u64 a1_1] 51 (0,0)) (by (with_reducible repeat (first|refine z4 ?_ _|refine z8 ?_|refine z3 ?_ _));exact BK101.out) hb);have n1_:=z2.mk (zd (by repeat (first|(with_reducible first|exact HB.out|apply z7|apply z1|apply z6|refine z5 ?_ GE101.out)|exact HB.out)) hb);clear BK101;clear HB;have BK101:=n0_;have HB:=n1_;clear n0_ n1_;(try clear hb);(try clear hb2);(try clear hk);(try clear hi))|((with_reducible refine zp (f:=89) rfl ?_);refine goesL_ (some 11) rfl rfl Try.func89 (by kernel_rfl) rfl #[.int .i64 a0] rfl (by (try simp only [List.map_toArray,List.map_cons,List.map_nil]);first|done|rfl|(simp only [List.length_drop,List.length_take];rfl)) ?_;(with_reducible refine (zK.calls k a0 t103 _ A5.out).mono ?_);rintro e w' ⟨rfl,⟨nd,rfl⟩⟩;refine ⟨_,rfl,?_⟩;(try (rw [z3p w12];generalize hq_ : World.drewN w12 _ = w12;have n0_ : z2 (w12.heap[gb101]? = some (.cells #[.int .u64 a1_0,.int .u64 a1_1] 51 (0,0))):=⟨by rw [← hq_];exact (by (with_reducible repeat (first|refine z4 ?_ _|refine z8 ?_|refine z3 ?_ _));exact BK101.out)⟩;have n1_ : z2 (Below w.heap.size w w12):=⟨by rw [← hq_];exact (by repeat (first|(with_reducible first|exact HB.out|apply z7|apply z1|apply z6|refine z5 ?_ GE101.out)|exact HB.out))⟩;clear BK101 HB hq_;have BK101:=n0_;have HB:=n1_;clear n0_ n1_)))|((with_reducible refine zG (N:=12) rfl ?_);refine Kd.z55 k51 _ 51 rfl (N:=12) rfl 92 _ _ rfl t103 rfl rfl Try.underlying92 (.agg #[(.int .u64 0),(.int .u64 0)]) 16 info51 rfl (by decide) (by omega) z51 (ok:=fun _=>True) (okp:=fun _=>True) (z2w _ _ _ z51 ) (fun _ hk=>hk) trivial (of_decide_eq_true (by first|(with_reducible assumption)|assumption)) (Nat.le_trans (Nat.mul_le_mul_right _ (of_decide_eq_true (by first|(with_reducible assumption)|assumption) : t103.toNat ≤ 17592186044416)) (by omega)) (Below.refl _ _) (Nat.le_refl _) ?_;intro v105 w13 ho14 hb hg_ hnew_;clear hg_ hnew_;(first|rw [← Ny104.out] at ho14|(simp only [Int.reduceToNat] at ho14;rw [← Ny104.out] at ho14));have n0_:=z2.mk (Kd.z14 (Kd.z1n ho14 (g:=gb101) (o:=.cells #[.int .u64 a1_0,.int .u64 a1_1] 51 (0,0)) (by (with_reducible repeat (first|refine z4 ?_ _|refine z8 ?_|refine z3 ?_ _));exact BK101.out)) (ze (by repeat (first|(with_reducible first|exact HB.out|apply z7|apply z1|apply z6|refine z5 ?_ GE101.out)|exact HB.out))));have n1_:=z2.mk (z9 (g:=gb101) (o:=.cells #[.int .u64 a1_0,.int .u64 a1_1] 51 (0,0)) (by (with_reducible repeat (first|refine z4 ?_ _|refine z8 ?_|refine z3 ?_ _));exact BK101.out) hb);have n2_:=z2.mk (zd (by repeat (first|(with_reducible first|exact HB.out|apply z7|apply z1|apply z6|refine z5 ?_ GE101.out)|exact HB.out)) hb);clear BK101;clear HB;have HO106:=n0_;have BK101:=n1_;have HB:=n2_;clear n0_ n1_ n2_;clear hb ho14;have hcz15_0 : w13.cell? ⟨gb101,0,none⟩ = some (.int .u64 a1_0):=(za BK101.out 0).trans rfl;have hcz15_1 : w13.cell? ⟨gb101,1,none⟩ = some (.int .u64 a1_1):=(za BK101.out 1).trans rfl;have hfz15_0:=zb BK101.out 0;have hfz15_1:=zb BK101.out 1;have p9 : 0 ≤ (0 : Int):=(by omega);have q9 : (0 : Int) < ((y104.length : Int) : Int):=of_decide_eq_true (by first|(with_reducible assumption)|assumption);have qi9 : (0 < y104.length) = True:=eq_true (by omega);obtain ⟨go9,co9,eo9,gb9,gl9,cl9,HG9⟩:=Kd.z54 HO106.out (by omega);(first|cases eo9|(injection eo9 with ea_ en_ ec_;(first|subst ea_|(injection ea_ with ea_;subst ea_));subst ec_;clear en_));have GB9:=z2.mk gb9;have GG9:=z2.mk HG9;clear gb9 gl9 HG9;obtain ⟨ce9,hcl9,hM9,hcc9,hfr9⟩:=Kd.z3n HO106.out z51 (0 : Int) p9 q9;obtain rfl:=z1S hM9;have hx9_0 : w13.cell? ⟨go9,(0 : Int).toNat * 2,none⟩ = some (.int .u64 ((zt y104 0).f0)):=hcc9 0 _ rfl;have hx9_1 : w13.cell? ⟨go9,(0 : Int).toNat * 2 + 1,none⟩ = some (.int .u64 ((zt y104 0).f1)):=hcc9 1 _ rfl;have hf9_0 : w13.frozen? ⟨go9,(0 : Int).toNat * 2,none⟩ = false:=hfr9 0;have hf9_1 : w13.frozen? ⟨go9,(0 : Int).toNat * 2 + 1,none⟩ = false:=hfr9 1;clear hcl9 hcc9 hfr9 hM9;(try rw [show ((0 : Int)).toNat = 0 from rfl] at hx9_0);(try simp only [Nat.reduceMul,Nat.zero_mul,Nat.zero_add,Nat.reduceAdd] at hx9_0);(try rw [show ((0 : Int)).toNat = 0 from rfl] at hf9_0);(try simp only [Nat.reduceMul,Nat.zero_mul,Nat.zero_add,Nat.reduceAdd] at hf9_0);(try rw [show ((0 : Int)).toNat = 0 from rfl] at hx9_1);(try simp only [Nat.reduceMul,Nat.zero_mul,Nat.zero_add,Nat.reduceAdd] at hx9_1);(try rw [show ((0 : Int)).toNat = 0 from rfl] at hf9_1);(try simp only [Nat.reduceMul,Nat.zero_mul,Nat.zero_add,Nat.reduceAdd] at hf9_1);replace p9:=eq_true p9;replace q9:=eq_true q9;have n_:=z2.mk (Kd.z19 (ok':=(fun k_=>k_ ≠ gb101)) HO106.out (fun k_ hk=>hk.2));clear HO106;have HO106:=n_;clear n_;have HX16:=z2.mk (show Kd.R k51 51 w13 w.heap.size (fun k_=>k_ ≠ gb101) (.slice (some ⟨go9,0,none⟩) y104.length co9) y104 from (by (with_reducible repeat (first|apply Kd.zi|apply Kd.zj|apply Kd.zo));exact HO106.out));obtain ⟨ce16,hcl16,hM16,hcc16,hfr16⟩:=Kd.z3n HX16.out z51 (0 : Int) (by omega) (by have h_ : (0 : Int) < ((y104.length : Int) : Int):=of_decide_eq_true (by first|(with_reducible assumption)|assumption);first|exact h_|(have e_:=(Kd.zM HO106.out).1;omega)|simpa using h_);obtain rfl:=z1S hM16;have HP16:=Kd.R_seg HX16.out (0 : Int) (by omega) (by have h_ : (0 : Int) < ((y104.length : Int) : Int):=of_decide_eq_true (by first|(with_reducible assumption)|assumption);first|exact h_|(have e_:=(Kd.zM HO106.out).1;omega)|simpa using h_) (seg:=[.int .u64 a1_0,.int .u64 a1_1]) (j:=0) hcl16 hcc16 (show 2 ≤ 2 from by decide) (x':=(⟨a1_0,a1_1⟩ : S51)) (z2w _ _ _ (⟨a1_0,a1_1⟩ : S51) ) (fun _ hk=>hk);have hx16_0:=hcc16 0 _ rfl;(try simp only [show (k51).sz = 2 from rfl,Nat.mul_one,Nat.add_zero] at hx16_0);(try rw [show ((0 : Int)).toNat = 0 from rfl] at hx16_0);(try simp only [Nat.reduceMul,Nat.zero_mul,Nat.zero_add,Nat.reduceAdd] at hx16_0);have hf16_0:=hfr16 0;(try simp only [show (k51).sz = 2 from rfl,Nat.mul_one,Nat.add_zero] at hf16_0);(try rw [show ((0 : Int)).toNat = 0 from rfl] at hf16_0);(try simp only [Nat.reduceMul,Nat.zero_mul,Nat.zero_add,Nat.reduceAdd] at hf16_0);have hx16_1:=hcc16 1 _ rfl;(try simp only [show (k51).sz = 2 from rfl,Nat.mul_one,Nat.add_zero] at hx16_1);(try rw [show ((0 : Int)).toNat = 0 from rfl] at hx16_1);(try simp only [Nat.reduceMul,Nat.zero_mul,Nat.zero_add,Nat.reduceAdd] at hx16_1);have hf16_1:=hfr16 1;(try simp only [show (k51).sz = 2 from rfl,Nat.mul_one,Nat.add_zero] at hf16_1);(try rw [show ((0 : Int)).toNat = 0 from rfl] at hf16_1);(try simp only [Nat.reduceMul,Nat.zero_mul,Nat.zero_add,Nat.reduceAdd] at hf16_1);clear hcl16 hcc16 hfr16 hM16)|((with_reducible refine z3q (t:=51) (p:=15) rfl ?_);refine z3c (t:=51) (p:=15) (v:=?vo_w17) (w1:=((w13.setCell ⟨go9,0,none⟩ (.int .u64 a1_0)).setCell ⟨go9,1,none⟩ (.int .u64 a1_1))) ?hg ?ho ?hn ?hr ?_;(case ho=>rfl);(case hg=>rfl);(case hn=>rfl);(case hr=>first|(go_simp;done)|(go_simp;rfl));intro w17 hw;have hg : w13.grownBy w17 (some go9):=(by rw [hw];exact HP16.2);have hp_ : Kd.R k51 51 w17 w.heap.size (fun k_=>k_ ≠ gb101) (.slice (some ⟨go9,0,none⟩) y104.length co9) y107:=(by rw [hw,Ny107.out];exact HP16.1);clear HP16;have n0_:=z2.mk (z1D (g:=gb101) (o:=.cells #[.int .u64 a1_0,.int .u64 a1_1] 51 (0,0)) (by (with_reducible repeat (first|refine z4 ?_ _|refine z8 ?_|refine z3 ?_ _));exact BK101.out) hg (Kd.z1M HO106.out (fun _ hk=>hk)));have n1_:=z2.mk (hp_);have n2_:=z2.mk ((by rw [hw];exact z5 (z5 (HB.out) GB9.out) GB9.out : Below w.heap.size w w17));clear BK101;clear HO106;clear HB;have BK101:=n0_;have HO106:=n1_;have HB:=n2_;clear n0_ n1_ n2_;clear hg hw hp_))
 go_ret
 exact ⟨_,by first|rfl|(simp [zl,zm] <;> rfl)|(simp [*,zl,zm] <;> rfl),by (with_reducible repeat (first|apply Kd.zi|apply Kd.zj|apply Kd.zo));exact Kd.z19 HO106.out (fun _ hk=>trivial),by repeat (first|(with_reducible first|exact HB.out|apply z7|apply z1|apply z6|refine z5 ?_ GE101.out)|exact HB.out)⟩
end Go.Proofs.Ytngcaphdkgihmaa.P
namespace Go.Proofs.Ytngcaphdkgihmaa.P
open Go.RowKit Go.Proofs.YtngcaphdkgihmaaW.PrintWords Go.Proofs.YtngcaphdkgihmaaW.PrintLast Go.Proofs.YtngcaphdkgihmaaW.PrintMore
attribute [local go_sem] zX zZ z16 z17 zT zU zY z10   -- for this text's walks alone
set_option linter.unusedVariables false
set_option linter.unusedSimpArgs false
theorem eqA51 (d : Nat) (w : World) (x0 y0 : Int) (x1 y1 : Int) :
 (Op.equalIn (d + 2) 51 (.agg #[.int .u64 x0,.int .u64 x1]) (.agg #[.int .u64 y0,.int .u64 y1])).run Try.prog w = .ok (x0 == y0 && (x1 == y1)) w:=by
 refine eqA_of Try.underlying51 (by kernel_rfl) ?_
 refine z4r (by rfl) (by go_simp;rfl) (by go_simp;rfl) (by go_simp) ?_
 exact z4s (by rfl) (by go_simp;rfl) (by go_simp;rfl) (by go_simp)
end Go.Proofs.Ytngcaphdkgihmaa.P
namespace Go.Proofs.Ytngcaphdkgihmaa.P
open Go.RowKit Go.Proofs.YtngcaphdkgihmaaW.PrintWords Go.Proofs.YtngcaphdkgihmaaW.PrintLast Go.Proofs.YtngcaphdkgihmaaW.PrintMore
attribute [local go_sem] zX zZ z16 z17 zT zU zY z10   -- for this text's walks alone
set_option linter.unusedVariables false
set_option linter.unusedSimpArgs false
set_option maxHeartbeats 800000 in
set_option maxRecDepth 100000 in
theorem zv.clo (k : Nat) (a0 : Int) (x : S51) (g : Nat) (r : Bool) (w : World) (hg : w.heap[g]? = some (.cells #[.int .i64 a0] 3 (0,0))) (h : zB.f k a0 x.f0 x.f1 = some r) :
 Calls Try.prog 106 #[.agg #[.int .u64 x.f0,.int .u64 x.f1],.pointer (some ⟨g,0,none⟩)] w fun e w'=>e = .returned (.bool (!r)) ∧ Below w.heap.size w w':=by
 have hu51:=Try.underlying51
 have HB:=z2.mk (Below.refl w.heap.size w)
 have HG:=z2.mk hg
 have A8:=z2.mk h
 clear hg h
 go_enter Try.func106,Try.ntmps106
 go_wp2_with (first
  | ((with_reducible refine zG (N:=2) rfl ?_);refine zC ?hg (N:=2) ?hd (cs:=#[.int .u64 x.f0,.int .u64 x.f1]) (t:=51) ?hr ?_;(case hd=>rfl);(case hg=>rfl);(case hr=>first|(go_simp;done)|(go_simp;rfl));intro gb hgb w1_ hbox hb;have n0_:=z2.mk (zd HB.out hb);have hG1:=z9 (g:=g) (o:=.cells #[.int .i64 a0] 3 (0,0)) HG.out hb;have hc0 : w1_.cell? ⟨g,0,none⟩ = some (.int .i64 a0):=(za hG1 0).trans rfl;have hcx0 : w1_.cell? ⟨gb,0,none⟩ = some (.int .u64 x.f0):=(za hbox 0).trans rfl;have hcx1 : w1_.cell? ⟨gb,1,none⟩ = some (.int .u64 x.f1):=(za hbox 1).trans rfl;clear HB hG1 hbox hb hgb;have HB:=n0_;clear n0_)
  | ((with_reducible refine zp (f:=67) rfl ?_);refine goesL_ (some 6) rfl rfl Try.func67 (by kernel_rfl) rfl #[.int .i64 a0,.agg #[.int .u64 x.f0,.int .u64 x.f1]] rfl (by (try simp only [List.map_toArray,List.map_cons,List.map_nil]);first|done|rfl) ?_;(with_reducible refine (zB.calls k a0 x.f0 x.f1 r _ A8.out).mono ?_);rintro e w2_ ⟨rfl,hb2⟩;refine ⟨_,rfl,?_⟩;have n0_:=z2.mk (zd HB.out hb2);clear HB hb2;have HB:=n0_;clear n0_))
 go_ret
 exact ⟨rfl,HB.out⟩
def zv.all (k : Nat) (a0 : Int) : List S51 → Option Bool
 | []=>some true
 | x :: xs=>(zB.f k a0 x.f0 x.f1).bind fun b=>if b = true then zv.all k a0 xs else some false
theorem zv.z3y (a0 : Int) : ∀ (l : List S51) (k : Nat),LeO (zv.all k a0 l) (zv.all (k + 1) a0 l)
 | [],k=>LeO.refl _
 | x :: xs,k=>LeO.bind (zB.mono a0 x.f0 x.f1 k) (fun b=>LeO.ite (zv.z3y a0 xs k) (LeO.refl _))
theorem zv.z4o (k : Nat) (a0 : Int) (l : List S51) (i : Nat) (h : i < l.length) : zv.all k a0 (l.drop i) = (zB.f k a0 (zt l (i : Int)).f0 (zt l (i : Int)).f1).bind fun b=>if b = true then zv.all k a0 (l.drop (i + 1)) else some false:=by
 rw [List.drop_eq_getElem_cons h]
 have e : zt l (i : Int) = l[i]:=by unfold zt;rw [Int.toNat_natCast,List.getD_eq_getElem?_getD,List.getElem?_eq_getElem h];rfl
 rw [e];rfl
set_option maxHeartbeats 800000 in
set_option maxRecDepth 100000 in
theorem zv.idx_0 (k : Nat) (a0 : Int) (A_ : Option Addr) (c : Nat) (l : List S51) (g : Nat) (r : Bool) (w : World) (hr : Kd.C k51 w A_ l.length l) (hg : w.heap[g]? = some (.cells #[.int .i64 a0] 3 (0,0))) (h : zv.all k a0 l = some r) :
 Calls Try.prog 109 #[.slice A_ l.length c,.func (.func 106) #[] #[.pointer (some ⟨g,0,none⟩)]] w fun e w'=>(∃ i : Int,e = .returned (.int .i64 i) ∧ decide (i ≥ 0) = !r) ∧ Below w.heap.size w w':=by
 have hu51:=Try.underlying51
 have HB:=z2.mk (Below.refl w.heap.size w)
 have HG:=z2.mk hg
 have HR:=z2.mk hr
 have HA:=z2.mk h
 have HM:=z2.mk (Kd.C_max hr)
 clear hg h hr
 go_enter Try.func109,Try.ntmps109
 go_wp2
 go_loopg [8] l.length (fun kq v8 w'=>∃ (i : Nat),v8 = .int .i64 i ∧ z2 (i + kq = l.length) ∧ z2 (zv.all k a0 (l.drop i) = some r) ∧ z2 (w'.heap[g]? = some (.cells #[.int .i64 a0] 3 (0,0))) ∧ z2 (Below w.heap.size w w'))
 case atStart=>exact ⟨0,rfl,⟨by omega⟩,HA,HG,HB⟩
 case round =>
  obtain ⟨i,rfl,HK,HAi,HGi,HBi⟩:=hrel
  clear HG HB HA
  by_cases hlt : i < l.length
  rotate_left
  · have p0 : decide (i < l.length) = false:=decide_eq_false hlt
    have p1 : decide ((i : Int) < (l.length : Int)) = false:=decide_eq_false (by omega)
    have hr : r = true:=by
     have h1:=HAi.out
     rw [List.drop_eq_nil_of_le (by omega)] at h1
     exact (Option.some.inj h1).symm
    clear hlt HAi
    subst hr
    go_wp2
    go_ret
    exact ⟨⟨-1,rfl,by decide⟩,HBi.out⟩
  have hd:=zv.z4o k a0 l i hlt
  have e1:=HAi.out
  rw [hd] at e1
  obtain ⟨b,hb,e2⟩:=Option.bind_eq_some_iff.mp e1
  clear e1 hd
  have HE:=z2.mk e2
  have HF:=z2.mk hb
  clear e2 hb
  obtain ⟨ad,e205,hx0,hx1⟩:=z2b HR.out (i : Int) (by omega) (by omega)
  cases e205
  rw [Int.toNat_natCast] at hx0 hx1
  replace hx0:=(HBi.out.cell (World.block_lt_of_cell? w _ hx0)).trans hx0
  replace hx1:=(HBi.out.cell (World.block_lt_of_cell? w _ hx1)).trans hx1
  have p0 : decide (i < l.length) = true:=decide_eq_true hlt
  have p1 : decide ((i : Int) < (l.length : Int)) = true:=decide_eq_true (by omega)
  have p2 : (0 ≤ (i : Int)) = True:=eq_true (by omega)
  have p3 : ((i : Int) < (l.length : Int)) = True:=eq_true (by omega)
  clear hlt
  go_wp2_with fail
  refine (zv.clo k a0 (zt l (i : Int)) g b _ HGi.out HF.out).mono ?_
  rintro e w1 ⟨rfl,hb1⟩
  have n0_:=z2.mk (zd HBi.out hb1)
  have n1_:=z2.mk (z9 (g:=g) (o:=.cells #[.int .i64 a0] 3 (0,0)) HGi.out hb1)
  clear HBi HGi hb1 hx0 hx1
  cases b with
  | true =>
   rw [if_pos rfl] at HE
   simp only [Bool.not_true]
   go_wp2
   have hi : wrap64 ((i : Int) + 1) = ((i + 1 : Nat) : Int):=by
    have:=HM.out;have:=HK.out;have h9:=of_decide_eq_true p0;unfold wrap64;omega
   go_roundg (l.length - i - 1)
   case measure=>have:=HK.out;have h9:=of_decide_eq_true p0;omega
   case rel=>exact ⟨i + 1,congrArg (Value.int .i64) hi,⟨by have:=HK.out;have h9:=of_decide_eq_true p0;omega⟩,HE,n1_,n0_⟩
  | false =>
   have hr : r = false:=by
    have:=HE.out
    simp at this
    exact this
   subst hr
   simp only [Bool.not_false]
   go_wp2
   go_ret
   exact ⟨⟨(i : Int),rfl,by simp⟩,n0_.out⟩
set_option maxHeartbeats 800000 in
set_option maxRecDepth 100000 in
theorem zv.cont_0 (k : Nat) (a0 : Int) (A_ : Option Addr) (c : Nat) (l : List S51) (g : Nat) (r : Bool) (w : World) (hr : Kd.C k51 w A_ l.length l) (hg : w.heap[g]? = some (.cells #[.int .i64 a0] 3 (0,0))) (h : zv.all k a0 l = some r) :
 Calls Try.prog 107 #[.slice A_ l.length c,.func (.func 106) #[] #[.pointer (some ⟨g,0,none⟩)]] w fun e w'=>e = .returned (.bool (!r)) ∧ Below w.heap.size w w':=by
 have HB:=z2.mk (Below.refl w.heap.size w)
 have HG:=z2.mk hg
 have HR:=z2.mk hr
 have HA:=z2.mk h
 clear hg h hr
 go_enter Try.func107,Try.ntmps107
 go_wp2_with fail
 refine (zv.idx_0 k a0 A_ c l g r _ HR.out HG.out HA.out).mono ?_
 rintro e w1 ⟨⟨i,rfl,hi⟩,hb1⟩
 have hb:=z2.mk hb1
 have hj:=z2.mk hi
 clear hb1 hi
 go_wp2
 go_ret
 exact ⟨by rw [← hj.out];rfl,hb.out⟩
set_option maxHeartbeats 800000 in
set_option maxRecDepth 100000 in
theorem zv.idx_1 (k : Nat) (a0 : Int) (A_ : Option Addr) (c : Nat) (l : List S51) (g : Nat) (r : Bool) (w : World) (hr : Kd.C k51 w A_ l.length l) (hg : w.heap[g]? = some (.cells #[.int .i64 a0] 3 (0,0))) (h : zv.all k a0 l = some r) :
 Calls Try.prog 102 #[.slice A_ l.length c,.func (.func 106) #[] #[.pointer (some ⟨g,0,none⟩)]] w fun e w'=>(∃ i : Int,e = .returned (.int .i64 i) ∧ decide (i ≥ 0) = !r) ∧ Below w.heap.size w w':=by
 have hu51:=Try.underlying51
 have HB:=z2.mk (Below.refl w.heap.size w)
 have HG:=z2.mk hg
 have HR:=z2.mk hr
 have HA:=z2.mk h
 have HM:=z2.mk (Kd.C_max hr)
 clear hg h hr
 go_enter Try.func102,Try.ntmps102
 go_wp2
 go_loopg [8] l.length (fun kq v8 w'=>∃ (i : Nat),v8 = .int .i64 i ∧ z2 (i + kq = l.length) ∧ z2 (zv.all k a0 (l.drop i) = some r) ∧ z2 (w'.heap[g]? = some (.cells #[.int .i64 a0] 3 (0,0))) ∧ z2 (Below w.heap.size w w'))
 case atStart=>exact ⟨0,rfl,⟨by omega⟩,HA,HG,HB⟩
 case round =>
  obtain ⟨i,rfl,HK,HAi,HGi,HBi⟩:=hrel
  clear HG HB HA
  by_cases hlt : i < l.length
  rotate_left
  · have p0 : decide (i < l.length) = false:=decide_eq_false hlt
    have p1 : decide ((i : Int) < (l.length : Int)) = false:=decide_eq_false (by omega)
    have hr : r = true:=by
     have h1:=HAi.out
     rw [List.drop_eq_nil_of_le (by omega)] at h1
     exact (Option.some.inj h1).symm
    clear hlt HAi
    subst hr
    go_wp2
    go_ret
    exact ⟨⟨-1,rfl,by decide⟩,HBi.out⟩
  have hd:=zv.z4o k a0 l i hlt
  have e1:=HAi.out
  rw [hd] at e1
  obtain ⟨b,hb,e2⟩:=Option.bind_eq_some_iff.mp e1
  clear e1 hd
  have HE:=z2.mk e2
  have HF:=z2.mk hb
  clear e2 hb
  obtain ⟨ad,e205,hx0,hx1⟩:=z2b HR.out (i : Int) (by omega) (by omega)
  cases e205
  rw [Int.toNat_natCast] at hx0 hx1
  replace hx0:=(HBi.out.cell (World.block_lt_of_cell? w _ hx0)).trans hx0
  replace hx1:=(HBi.out.cell (World.block_lt_of_cell? w _ hx1)).trans hx1
  have p0 : decide (i < l.length) = true:=decide_eq_true hlt
  have p1 : decide ((i : Int) < (l.length : Int)) = true:=decide_eq_true (by omega)
  have p2 : (0 ≤ (i : Int)) = True:=eq_true (by omega)
  have p3 : ((i : Int) < (l.length : Int)) = True:=eq_true (by omega)
  clear hlt
  go_wp2_with fail
  refine (zv.clo k a0 (zt l (i : Int)) g b _ HGi.out HF.out).mono ?_
  rintro e w1 ⟨rfl,hb1⟩
  have n0_:=z2.mk (zd HBi.out hb1)
  have n1_:=z2.mk (z9 (g:=g) (o:=.cells #[.int .i64 a0] 3 (0,0)) HGi.out hb1)
  clear HBi HGi hb1 hx0 hx1
  cases b with
  | true =>
   rw [if_pos rfl] at HE
   simp only [Bool.not_true]
   go_wp2
   have hi : wrap64 ((i : Int) + 1) = ((i + 1 : Nat) : Int):=by
    have:=HM.out;have:=HK.out;have h9:=of_decide_eq_true p0;unfold wrap64;omega
   go_roundg (l.length - i - 1)
   case measure=>have:=HK.out;have h9:=of_decide_eq_true p0;omega
   case rel=>exact ⟨i + 1,congrArg (Value.int .i64) hi,⟨by have:=HK.out;have h9:=of_decide_eq_true p0;omega⟩,HE,n1_,n0_⟩
  | false =>
   have hr : r = false:=by
    have:=HE.out
    simp at this
    exact this
   subst hr
   simp only [Bool.not_false]
   go_wp2
   go_ret
   exact ⟨⟨(i : Int),rfl,by simp⟩,n0_.out⟩
set_option maxHeartbeats 800000 in
set_option maxRecDepth 100000 in
theorem zv.cont_1 (k : Nat) (a0 : Int) (A_ : Option Addr) (c : Nat) (l : List S51) (g : Nat) (r : Bool) (w : World) (hr : Kd.C k51 w A_ l.length l) (hg : w.heap[g]? = some (.cells #[.int .i64 a0] 3 (0,0))) (h : zv.all k a0 l = some r) :
 Calls Try.prog 93 #[.slice A_ l.length c,.func (.func 106) #[] #[.pointer (some ⟨g,0,none⟩)]] w fun e w'=>e = .returned (.bool (!r)) ∧ Below w.heap.size w w':=by
 have HB:=z2.mk (Below.refl w.heap.size w)
 have HG:=z2.mk hg
 have HR:=z2.mk hr
 have HA:=z2.mk h
 clear hg h hr
 go_enter Try.func93,Try.ntmps93
 go_wp2_with fail
 refine (zv.idx_1 k a0 A_ c l g r _ HR.out HG.out HA.out).mono ?_
 rintro e w1 ⟨⟨i,rfl,hi⟩,hb1⟩
 have hb:=z2.mk hb1
 have hj:=z2.mk hi
 clear hb1 hi
 go_wp2
 go_ret
 exact ⟨by rw [← hj.out];rfl,hb.out⟩
def zv.alls (k : Nat) (a0 : Int) : List (List S51) → Option Bool
 | []=>some true
 | x :: xs=>(zv.all k a0 x).bind fun b=>if b = true then zv.alls k a0 xs else some false
theorem zv.z3Q (a0 : Int) : ∀ (l : List (List S51)) (k : Nat),LeO (zv.alls k a0 l) (zv.alls (k + 1) a0 l)
 | [],k=>LeO.refl _
 | x :: xs,k=>LeO.bind (zv.z3y a0 x k) (fun b=>LeO.ite (zv.z3Q a0 xs k) (LeO.refl _))
theorem zv.z59 (k : Nat) (a0 : Int) (l : List (List S51)) (i : Nat) (h : i < l.length) : zv.alls k a0 (l.drop i) = (zv.all k a0 (z2k l (i : Int))).bind fun b=>if b = true then zv.alls k a0 (l.drop (i + 1)) else some false:=by
 rw [List.drop_eq_getElem_cons h]
 have e : z2k l (i : Int) = l[i]:=by unfold z2k;rw [Int.toNat_natCast,List.getD_eq_getElem?_getD,List.getElem?_eq_getElem h];rfl
 rw [e];rfl
def zv.lens (s : Int) (l : List (List S51)) : Bool:=l.all fun x=>(x.length : Int) == s
theorem zv.z5m (s : Int) (l : List (List S51)) (i : Nat) (h : i < l.length) : zv.lens s (l.drop i) = (((z2k l (i : Int)).length : Int) == s && zv.lens s (l.drop (i + 1))):=by
 unfold zv.lens
 rw [List.drop_eq_getElem_cons h]
 have e : z2k l (i : Int) = l[i]:=by unfold z2k;rw [Int.toNat_natCast,List.getD_eq_getElem?_getD,List.getElem?_eq_getElem h];rfl
 rw [e];rfl
def zv.f (k : Nat) (a0 : Int) (l1 : List (List S51)) (l2 : List S51) : Option Int :=
 (zK.f k a0).bind fun s=>if s = 0 then some 1 else if zv.lens s l1 = false then some 6 else (zv.alls k a0 l1).bind fun b=>if b = false then some 5 else (zv.all k a0 l2).bind fun b=>some (if b = true then 0 else 5)
theorem zv.mono : ∀ a0 a1 a2 k,LeO (zv.f k a0 a1 a2) (zv.f (k + 1) a0 a1 a2):=fun a0 l m k =>
 LeO.bind (zK.mono a0 k) (fun s=>LeO.ite (LeO.refl _) (LeO.ite (LeO.refl _) (LeO.bind (zv.z3Q a0 l k) (fun b=>LeO.ite (LeO.refl _) (LeO.bind (zv.z3y a0 m k) (fun b=>LeO.refl _))))))
set_option maxHeartbeats 800000 in
set_option maxRecDepth 100000 in
theorem zv.calls (k : Nat) (a0 : Int) (A1 : Option Addr) (c1 : Nat) (l1 : List (List S51)) (A2 : Option Addr) (c2 : Nat) (l2 : List S51) (r : Int) (w : World) (hr1 : Kd.C (Kd.slice 51 k51) w A1 l1.length l1) (hc1 : l1.length ≤ c1) (hr2 : Kd.C k51 w A2 l2.length l2) (hc2 : l2.length ≤ c2) (h : zv.f k a0 l1 l2 = some r) :
 Calls Try.prog 100 #[.int .i64 a0,.slice A1 l1.length c1,.slice A2 l2.length c2] w fun e w'=>e = .returned (.int .i64 r) ∧ Below w.heap.size w w':=by
 have hmf : ∀ (fn : Fn) (first cap : Array Value) (w : World),(Instr.makeFunc fn first cap).run Try.prog w = .ok (.func fn first cap) w:=fun _ _ _ _=>rfl
 obtain ⟨s,hs,h⟩:=Option.bind_eq_some_iff.mp h
 have HB:=z2.mk (Below.refl w.heap.size w)
 have HR1:=z2.mk hr1
 have HR2:=z2.mk hr2
 have HM:=z2.mk (Kd.C_max hr1)
 have HS:=z2.mk hs
 have HA:=z2.mk h
 clear h hr1 hr2 hs
 by_cases p0 : s = 0
 · have e1:=HA.out
   rw [if_pos p0] at e1
   have q0 : (s == 0) = true:=beq_iff_eq.mpr p0
   have q1 : decide (s = 0) = true:=decide_eq_true p0
   obtain rfl:=Option.some.inj e1
   clear p0 e1 HA
   go_enter Try.func100,Try.ntmps100
   go_wp2_with (first
    | ((with_reducible refine zG (N:=3) rfl ?_);refine zC ?hg (N:=3) ?hd (cs:=#[.int .i64 a0]) (t:=3) ?hr ?_;(case hd=>rfl);(case hg=>rfl);(case hr=>first|(go_simp;done)|(go_simp;rfl));intro gb hgb w1_ hbox hb;have n0_:=z2.mk (zd HB.out hb);have n1_:=z2.mk hbox;have hc0 : w1_.cell? ⟨gb,0,none⟩ = some (.int .i64 a0):=(za hbox 0).trans rfl;clear HB hbox hb hgb;have HB:=n0_;have HG:=n1_;clear n0_ n1_)
    | ((with_reducible refine zp (f:=89) rfl ?_);refine goesL_ (some 13) rfl rfl Try.func89 (by kernel_rfl) rfl #[.int .i64 a0] rfl (by (try simp only [List.map_toArray,List.map_cons,List.map_nil]);first|done|rfl) ?_;(with_reducible refine (zK.calls k a0 s _ HS.out).mono ?_);rintro e w2_ ⟨rfl,hd2⟩;refine ⟨_,rfl,?_⟩;have hb2:=hd2.below;(try clear hc0);have n0_:=z2.mk (zd HB.out hb2);have n1_:=z2.mk (z9 (g:=gb) (o:=(.cells #[.int .i64 a0] 3 (0,0))) HG.out hb2);have hc0 : w2_.cell? ⟨gb,0,none⟩ = some (.int .i64 a0):=(za n1_.out 0).trans rfl;clear HB HG hb2;have HB:=n0_;have HG:=n1_;clear n0_ n1_))
   go_ret
   exact ⟨rfl,HB.out⟩
 have e1:=HA.out
 rw [if_neg p0] at e1
 have q0 : (s == 0) = false:=beq_eq_false_iff_ne.mpr p0
 have q1 : decide (s = 0) = false:=decide_eq_false p0
 have H1:=z2.mk e1
 clear p0 e1 HA
 go_enter Try.func100,Try.ntmps100
 go_wp2_with (first
  | ((with_reducible refine zG (N:=3) rfl ?_);refine zC ?hg (N:=3) ?hd (cs:=#[.int .i64 a0]) (t:=3) ?hr ?_;(case hd=>rfl);(case hg=>rfl);(case hr=>first|(go_simp;done)|(go_simp;rfl));intro gb hgb w1_ hbox hb;have n0_:=z2.mk (zd HB.out hb);have n1_:=z2.mk hbox;have hc0 : w1_.cell? ⟨gb,0,none⟩ = some (.int .i64 a0):=(za hbox 0).trans rfl;clear HB hbox hb hgb;have HB:=n0_;have HG:=n1_;clear n0_ n1_)
  | ((with_reducible refine zp (f:=89) rfl ?_);refine goesL_ (some 13) rfl rfl Try.func89 (by kernel_rfl) rfl #[.int .i64 a0] rfl (by (try simp only [List.map_toArray,List.map_cons,List.map_nil]);first|done|rfl) ?_;(with_reducible refine (zK.calls k a0 s _ HS.out).mono ?_);rintro e w2_ ⟨rfl,hd2⟩;refine ⟨_,rfl,?_⟩;have hb2:=hd2.below;(try clear hc0);have n0_:=z2.mk (zd HB.out hb2);have n1_:=z2.mk (z9 (g:=gb) (o:=(.cells #[.int .i64 a0] 3 (0,0))) HG.out hb2);have hc0 : w2_.cell? ⟨gb,0,none⟩ = some (.int .i64 a0):=(za n1_.out 0).trans rfl;clear HB HG hb2;have HB:=n0_;have HG:=n1_;clear n0_ n1_))
 go_loopg [17] l1.length (fun kq v8 w'=>∃ (i : Nat),v8 = .int .i64 i ∧ z2 (i + kq = l1.length) ∧ z2 (zv.lens s (l1.drop i) = zv.lens s l1) ∧ z2 (w'.heap[gb]? = some (.cells #[.int .i64 a0] 3 (0,0))) ∧ z2 (Below w.heap.size w w'))
 case atStart=>exact ⟨0,rfl,⟨by omega⟩,⟨rfl⟩,HG,HB⟩
 case round =>
  obtain ⟨i,rfl,HK,HAi,HGi,HBi⟩:=hrel
  clear HG HB
  (try clear hc0)
  by_cases hlt : i < l1.length
  · have hd:=zv.z5m s l1 i hlt
    rw [HAi.out] at hd
    obtain ⟨ad,A0,c0,e205,hx0,hl0,g0⟩:=at_L6 (Kd.z2d HR1.out HBi.out) (i : Int) (by omega) (by omega)
    cases e205
    rw [Int.toNat_natCast] at hx0
    clear hl0 g0
    have hc0:=(za HGi.out 0).trans rfl
    have p0 : decide (i < l1.length) = true:=decide_eq_true hlt
    have p1 : decide ((i : Int) < (l1.length : Int)) = true:=decide_eq_true (by omega)
    have p2 : (0 ≤ (i : Int)) = True:=eq_true (by omega)
    have p3 : ((i : Int) < (l1.length : Int)) = True:=eq_true (by omega)
    clear hlt
    cases hq : (((z2k l1 (i : Int)).length : Int) == s) with
    | true =>
     have hq1 : (((z2k l1 (i : Int)).length : Int) != s) = false:=by unfold bne;rw [hq];rfl
     rw [hq,Bool.true_and] at hd
     have HD:=z2.mk hd.symm
     clear hd HAi
     go_wp2_with (first
      | ((with_reducible refine zp (f:=89) rfl ?_);refine goesL_ (some 24) rfl rfl Try.func89 (by kernel_rfl) rfl #[.int .i64 a0] rfl (by (try simp only [List.map_toArray,List.map_cons,List.map_nil]);first|done|rfl) ?_;(with_reducible refine (zK.calls k a0 s _ HS.out).mono ?_);rintro e w2_ ⟨rfl,hd2⟩;refine ⟨_,rfl,?_⟩;have hb2:=hd2.below;(try clear hc0);have n0_:=z2.mk (zd HBi.out hb2);have n1_:=z2.mk (z9 (g:=gb) (o:=(.cells #[.int .i64 a0] 3 (0,0))) HGi.out hb2);have hc0 : w2_.cell? ⟨gb,0,none⟩ = some (.int .i64 a0):=(za n1_.out 0).trans rfl;clear HBi HGi hb2;have HB:=n0_;have HG:=n1_;clear n0_ n1_))
     have hi : wrap64 ((i : Int) + 1) = ((i + 1 : Nat) : Int):=by
      have:=HM.out;have:=HK.out;have h9:=of_decide_eq_true p0;unfold wrap64;omega
     go_roundg (l1.length - i - 1)
     case measure=>have:=HK.out;have h9:=of_decide_eq_true p0;omega
     case rel=>exact ⟨i + 1,congrArg (Value.int .i64) hi,⟨by have:=HK.out;have h9:=of_decide_eq_true p0;omega⟩,HD,HG,HB⟩
    | false =>
     have hq1 : (((z2k l1 (i : Int)).length : Int) != s) = true:=by unfold bne;rw [hq];rfl
     rw [hq,Bool.false_and] at hd
     have e2:=H1.out
     rw [if_pos hd] at e2
     obtain rfl:=Option.some.inj e2
     clear hd HAi e2 H1
     go_wp2_with (first
      | ((with_reducible refine zp (f:=89) rfl ?_);refine goesL_ (some 24) rfl rfl Try.func89 (by kernel_rfl) rfl #[.int .i64 a0] rfl (by (try simp only [List.map_toArray,List.map_cons,List.map_nil]);first|done|rfl) ?_;(with_reducible refine (zK.calls k a0 s _ HS.out).mono ?_);rintro e w2_ ⟨rfl,hd2⟩;refine ⟨_,rfl,?_⟩;have hb2:=hd2.below;(try clear hc0);have n0_:=z2.mk (zd HBi.out hb2);have n1_:=z2.mk (z9 (g:=gb) (o:=(.cells #[.int .i64 a0] 3 (0,0))) HGi.out hb2);have hc0 : w2_.cell? ⟨gb,0,none⟩ = some (.int .i64 a0):=(za n1_.out 0).trans rfl;clear HBi HGi hb2;have HB:=n0_;have HG:=n1_;clear n0_ n1_))
     go_ret
     exact ⟨rfl,HB.out⟩
  have p0 : decide (i < l1.length) = false:=decide_eq_false hlt
  have p1 : decide ((i : Int) < (l1.length : Int)) = false:=decide_eq_false (by omega)
  have hd:=HAi.out
  rw [List.drop_eq_nil_of_le (by omega)] at hd
  have e2:=H1.out
  rw [if_neg (by rw [← hd];exact Bool.noConfusion)] at e2
  obtain ⟨bb,hb0,e3⟩:=Option.bind_eq_some_iff.mp e2
  have HC:=z2.mk hb0
  have H2:=z2.mk e3
  clear hlt HAi hd e2 e3 hb0 H1
  have HG:=HGi
  have HB:=HBi
  clear HGi HBi
  go_wp2
  go_loopg [30] l1.length (fun kq v8 w'=>∃ (i : Nat),v8 = .int .i64 i ∧ z2 (i + kq = l1.length) ∧ z2 (zv.alls k a0 (l1.drop i) = some bb) ∧ z2 (w'.heap[gb]? = some (.cells #[.int .i64 a0] 3 (0,0))) ∧ z2 (Below w.heap.size w w'))
  case atStart=>exact ⟨0,rfl,⟨by omega⟩,HC,HG,HB⟩
  case round =>
   obtain ⟨j,rfl,HKj,HAj,HGj,HBj⟩:=hrel
   clear HG HB
   clear p0 p1
   by_cases hlt : j < l1.length
   rotate_left
   · have p0 : decide (j < l1.length) = false:=decide_eq_false hlt
     have p1 : decide ((j : Int) < (l1.length : Int)) = false:=decide_eq_false (by omega)
     have h1:=HAj.out
     rw [List.drop_eq_nil_of_le (by omega)] at h1
     obtain rfl : true = bb:=Option.some.inj h1
     have e2:=H2.out
     rw [if_neg Bool.noConfusion] at e2
     obtain ⟨b,hb,e3⟩:=Option.bind_eq_some_iff.mp e2
     have HF:=z2.mk hb
     have hr : r = if b = true then 0 else 5:=(Option.some.inj e3).symm
     clear hlt HAj h1 e2 H2 hb e3
     cases b with
     | true =>
      subst hr
      go_wp2_with (first
       | ((with_reducible refine zp (f:=93) rfl ?_);refine goesL_ (some 40) rfl rfl Try.func93 (by kernel_rfl) rfl #[.slice A2 l2.length c2,.func (.func 106) #[] #[.pointer (some ⟨gb,0,none⟩)]] rfl (by (try simp only [List.map_toArray,List.map_cons,List.map_nil]);first|done|rfl) ?_;(with_reducible refine (zv.cont_1 k a0 _ _ l2 gb _ _ (Kd.z2d HR2.out HBj.out) HGj.out HF.out).mono ?_);rintro e w2_ ⟨rfl,hb2⟩;refine ⟨_,rfl,?_⟩;(try clear hc0);have n0_:=z2.mk (zd HBj.out hb2);have n1_:=z2.mk (z9 (g:=gb) (o:=(.cells #[.int .i64 a0] 3 (0,0))) HGj.out hb2);have hc0 : w2_.cell? ⟨gb,0,none⟩ = some (.int .i64 a0):=(za n1_.out 0).trans rfl;clear HBj HGj hb2;have HB:=n0_;have HG:=n1_;clear n0_ n1_))
      go_ret
      exact ⟨rfl,HB.out⟩
     | false =>
      subst hr
      go_wp2_with (first
       | ((with_reducible refine zp (f:=93) rfl ?_);refine goesL_ (some 40) rfl rfl Try.func93 (by kernel_rfl) rfl #[.slice A2 l2.length c2,.func (.func 106) #[] #[.pointer (some ⟨gb,0,none⟩)]] rfl (by (try simp only [List.map_toArray,List.map_cons,List.map_nil]);first|done|rfl) ?_;(with_reducible refine (zv.cont_1 k a0 _ _ l2 gb _ _ (Kd.z2d HR2.out HBj.out) HGj.out HF.out).mono ?_);rintro e w2_ ⟨rfl,hb2⟩;refine ⟨_,rfl,?_⟩;(try clear hc0);have n0_:=z2.mk (zd HBj.out hb2);have n1_:=z2.mk (z9 (g:=gb) (o:=(.cells #[.int .i64 a0] 3 (0,0))) HGj.out hb2);have hc0 : w2_.cell? ⟨gb,0,none⟩ = some (.int .i64 a0):=(za n1_.out 0).trans rfl;clear HBj HGj hb2;have HB:=n0_;have HG:=n1_;clear n0_ n1_))
      go_ret
      exact ⟨rfl,HB.out⟩
   have hd:=zv.z59 k a0 l1 j hlt
   have e1:=HAj.out
   rw [hd] at e1
   obtain ⟨b,hb,e2⟩:=Option.bind_eq_some_iff.mp e1
   clear e1 hd
   have HE:=z2.mk e2
   have HF:=z2.mk hb
   clear e2 hb
   obtain ⟨ad,A0,c0,e205,hx0,hl0,g0⟩:=at_L6 (Kd.z2d HR1.out HBj.out) (j : Int) (by omega) (by omega)
   cases e205
   rw [Int.toNat_natCast] at hx0
   have G0:=z2.mk g0
   clear hl0 g0
   have p0 : decide (j < l1.length) = true:=decide_eq_true hlt
   have p1 : decide ((j : Int) < (l1.length : Int)) = true:=decide_eq_true (by omega)
   have p2 : (0 ≤ (j : Int)) = True:=eq_true (by omega)
   have p3 : ((j : Int) < (l1.length : Int)) = True:=eq_true (by omega)
   clear hlt
   cases b with
   | true =>
    rw [if_pos rfl] at HE
    go_wp2_with (first
     | ((with_reducible refine zp (f:=107) rfl ?_);refine goesL_ (some 36) rfl rfl Try.func107 (by kernel_rfl) rfl #[.slice A0 (z2k l1 (j : Int)).length c0,.func (.func 106) #[] #[.pointer (some ⟨gb,0,none⟩)]] rfl (by (try simp only [List.map_toArray,List.map_cons,List.map_nil]);first|done|rfl) ?_;(with_reducible refine (zv.cont_0 k a0 _ _ (z2k l1 (j : Int)) gb _ _ G0.out HGj.out HF.out).mono ?_);rintro e w2_ ⟨rfl,hb2⟩;refine ⟨_,rfl,?_⟩;(try clear hc0);have n0_:=z2.mk (zd HBj.out hb2);have n1_:=z2.mk (z9 (g:=gb) (o:=(.cells #[.int .i64 a0] 3 (0,0))) HGj.out hb2);have hc0 : w2_.cell? ⟨gb,0,none⟩ = some (.int .i64 a0):=(za n1_.out 0).trans rfl;clear HBj HGj hb2;have HB:=n0_;have HG:=n1_;clear n0_ n1_))
    have hi : wrap64 ((j : Int) + 1) = ((j + 1 : Nat) : Int):=by
     have:=HM.out;have:=HKj.out;have h9:=of_decide_eq_true p0;unfold wrap64;omega
    go_roundg (l1.length - j - 1)
    case measure=>have:=HKj.out;have h9:=of_decide_eq_true p0;omega
    case rel=>exact ⟨j + 1,congrArg (Value.int .i64) hi,⟨by have:=HKj.out;have h9:=of_decide_eq_true p0;omega⟩,HE,HG,HB⟩
   | false =>
    have hr : bb = false:=by
     have:=HE.out
     simp at this
     exact this
    subst hr
    have e2:=H2.out
    rw [if_pos rfl] at e2
    obtain rfl:=Option.some.inj e2
    clear e2 H2
    go_wp2_with (first
     | ((with_reducible refine zp (f:=107) rfl ?_);refine goesL_ (some 36) rfl rfl Try.func107 (by kernel_rfl) rfl #[.slice A0 (z2k l1 (j : Int)).length c0,.func (.func 106) #[] #[.pointer (some ⟨gb,0,none⟩)]] rfl (by (try simp only [List.map_toArray,List.map_cons,List.map_nil]);first|done|rfl) ?_;(with_reducible refine (zv.cont_0 k a0 _ _ (z2k l1 (j : Int)) gb _ _ G0.out HGj.out HF.out).mono ?_);rintro e w2_ ⟨rfl,hb2⟩;refine ⟨_,rfl,?_⟩;(try clear hc0);have n0_:=z2.mk (zd HBj.out hb2);have n1_:=z2.mk (z9 (g:=gb) (o:=(.cells #[.int .i64 a0] 3 (0,0))) HGj.out hb2);have hc0 : w2_.cell? ⟨gb,0,none⟩ = some (.int .i64 a0):=(za n1_.out 0).trans rfl;clear HBj HGj hb2;have HB:=n0_;have HG:=n1_;clear n0_ n1_))
    go_ret
    exact ⟨rfl,HB.out⟩
end Go.Proofs.Ytngcaphdkgihmaa.P
namespace Go.Proofs.Ytngcaphdkgihmaa.P
open Go.RowKit Go.Proofs.YtngcaphdkgihmaaW.PrintWords Go.Proofs.YtngcaphdkgihmaaW.PrintLast Go.Proofs.YtngcaphdkgihmaaW.PrintMore
attribute [local go_sem] zX zZ z16 z17 zT zU zY z10   -- for this text's walks alone
set_option linter.unusedVariables false
set_option linter.unusedSimpArgs false
def z1N.f (a0_0 : Int) (a0_1 : Int) (a1_0 : Int) (a1_1 : Int) : Option (Int × Int):=some (Go.bits .xor .u64 a0_0 a1_0,Go.bits .xor .u64 a0_1 a1_1)
set_option maxHeartbeats 8000000 in
set_option maxRecDepth 100000 in
theorem z1N.calls (a0_0 : Int) (a0_1 : Int) (a1_0 : Int) (a1_1 : Int) (r1 : Int) (r2 : Int) (w : World) (h : z1N.f a0_0 a0_1 a1_0 a1_1 = some (r1,r2)) :
 Calls Try.prog 40 #[.agg #[.int .u64 a0_0,.int .u64 a0_1],.agg #[.int .u64 a1_0,.int .u64 a1_1]] w fun e w'=>e = .returned (.agg #[.int .u64 r1,.int .u64 r2]) ∧ Below w.heap.size w w':=by
 have hu51:=Try.underlying51
 have HB:=z2.mk (Below.refl w.heap.size w)
 have H : (some (Go.bits .xor .u64 a0_0 a1_0,Go.bits .xor .u64 a0_1 a1_1)) = some (r1,r2):=h
 clear h
 simp only [Option.some.injEq,Prod.mk.injEq] at H
 obtain ⟨rfl,rfl⟩:=H
 go_enter Try.func40,Try.ntmps40
 go_wp2_with (first|((with_reducible refine zG (N:=2) rfl ?_);refine zC ?hg (N:=2) ?hd (cs:=#[.int .u64 a0_0,.int .u64 a0_1]) (t:=51) ?hr ?_;(case hd=>rfl);(case hg=>rfl);(case hr=>first|(go_simp;done)|(go_simp;rfl));intro gb101 hg w3 hbox hb;have n0_:=z2.mk (zd (by repeat (first|(with_reducible first|exact HB.out|apply z7|apply z1|apply z6)|exact HB.out)) hb);have n1_:=z2.mk (hbox);have n2_:=z2.mk ((by rw [hg];exact (ze (by repeat (first|(with_reducible first|exact HB.out|apply z7|apply z1|apply z6)|exact HB.out))) : w.heap.size ≤ gb101));have n3_:=z2.mk ((by rw [hg];exact (ze (by repeat (first|(with_reducible first|exact HB.out|apply z7|apply z1|apply z6)|exact HB.out))) : w.heap.size ≤ gb101));clear HB;have HB:=n0_;have BK101:=n1_;have GW101:=n2_;have GE101:=n3_;clear n0_ n1_ n2_ n3_;clear hb hbox hg)|((with_reducible refine zG (N:=3) rfl ?_);refine zC ?hg (N:=3) ?hd (cs:=#[.int .u64 a1_0,.int .u64 a1_1]) (t:=51) ?hr ?_;(case hd=>rfl);(case hg=>rfl);(case hr=>first|(go_simp;done)|(go_simp;rfl));intro gb102 hg w4 hbox hb;have n0_:=z2.mk (z9 (g:=gb101) (o:=.cells #[.int .u64 a0_0,.int .u64 a0_1] 51 (0,0)) (by (with_reducible repeat (first|refine z4 ?_ _|refine z8 ?_|refine z3 ?_ _));exact BK101.out) hb);have n1_:=z2.mk (zd (by repeat (first|(with_reducible first|exact HB.out|apply z7|apply z1|apply z6|refine z5 ?_ GE101.out)|exact HB.out)) hb);have n2_:=z2.mk (hbox);have n3_:=z2.mk ((by rw [hg];exact (ze (by repeat (first|(with_reducible first|exact HB.out|apply z7|apply z1|apply z6|refine z5 ?_ GE101.out)|exact HB.out))) : w.heap.size ≤ gb102));have n4_:=z2.mk ((by rw [hg];exact (ze (by repeat (first|(with_reducible first|exact HB.out|apply z7|apply z1|apply z6|refine z5 ?_ GE101.out)|exact HB.out))) : w.heap.size ≤ gb102));have n5_:=z2.mk ((by rw [hg];exact Nat.ne_of_lt (zI (g:=gb101) (o:=.cells #[.int .u64 a0_0,.int .u64 a0_1] 51 (0,0)) (by (with_reducible repeat (first|refine z4 ?_ _|refine z8 ?_|refine z3 ?_ _));exact BK101.out)) : gb101 ≠ gb102));have n6_:=z2.mk ((by rw [hg];exact Nat.ne_of_gt (zI (g:=gb101) (o:=.cells #[.int .u64 a0_0,.int .u64 a0_1] 51 (0,0)) (by (with_reducible repeat (first|refine z4 ?_ _|refine z8 ?_|refine z3 ?_ _));exact BK101.out)) : gb102 ≠ gb101));clear BK101;clear HB;have BK101:=n0_;have HB:=n1_;have BK102:=n2_;have GW102:=n3_;have GE102:=n4_;have NB101_102:=n5_;have NB102_101:=n6_;clear n0_ n1_ n2_ n3_ n4_ n5_ n6_;clear hb hbox hg)|((with_reducible refine zG (N:=4) rfl ?_);refine zC ?hg (N:=4) ?hd (cs:=#[.int .u64 0,.int .u64 0]) (t:=51) ?hr ?_;(case hd=>rfl);(case hg=>rfl);(case hr=>first|(go_simp;done)|(go_simp;rfl));intro gb103 hg w5 hbox hb;have n0_:=z2.mk (z9 (g:=gb101) (o:=.cells #[.int .u64 a0_0,.int .u64 a0_1] 51 (0,0)) (by (with_reducible repeat (first|refine z4 ?_ _|refine z8 ?_|refine z3 ?_ _));exact BK101.out) hb);have n1_:=z2.mk (z9 (g:=gb102) (o:=.cells #[.int .u64 a1_0,.int .u64 a1_1] 51 (0,0)) (by (with_reducible repeat (first|refine z4 ?_ _|refine z8 ?_|refine z3 ?_ _));exact BK102.out) hb);have n2_:=z2.mk (zd (by repeat (first|(with_reducible first|exact HB.out|apply z7|apply z1|apply z6|refine z5 ?_ GE101.out|refine z5 ?_ GE102.out)|exact HB.out)) hb);have n3_:=z2.mk (hbox);have n4_:=z2.mk ((by rw [hg];exact (ze (by repeat (first|(with_reducible first|exact HB.out|apply z7|apply z1|apply z6|refine z5 ?_ GE101.out|refine z5 ?_ GE102.out)|exact HB.out))) : w.heap.size ≤ gb103));have n5_:=z2.mk ((by rw [hg];exact (ze (by repeat (first|(with_reducible first|exact HB.out|apply z7|apply z1|apply z6|refine z5 ?_ GE101.out|refine z5 ?_ GE102.out)|exact HB.out))) : w.heap.size ≤ gb103));have n6_:=z2.mk ((by rw [hg];exact Nat.ne_of_lt (zI (g:=gb101) (o:=.cells #[.int .u64 a0_0,.int .u64 a0_1] 51 (0,0)) (by (with_reducible repeat (first|refine z4 ?_ _|refine z8 ?_|refine z3 ?_ _));exact BK101.out)) : gb101 ≠ gb103));have n7_:=z2.mk ((by rw [hg];exact Nat.ne_of_gt (zI (g:=gb101) (o:=.cells #[.int .u64 a0_0,.int .u64 a0_1] 51 (0,0)) (by (with_reducible repeat (first|refine z4 ?_ _|refine z8 ?_|refine z3 ?_ _));exact BK101.out)) : gb103 ≠ gb101));have n8_:=z2.mk ((by rw [hg];exact Nat.ne_of_lt (zI (g:=gb102) (o:=.cells #[.int .u64 a1_0,.int .u64 a1_1] 51 (0,0)) (by (with_reducible repeat (first|refine z4 ?_ _|refine z8 ?_|refine z3 ?_ _));exact BK102.out)) : gb102 ≠ gb103));have n9_:=z2.mk ((by rw [hg];exact Nat.ne_of_gt (zI (g:=gb102) (o:=.cells #[.int .u64 a1_0,.int .u64 a1_1] 51 (0,0)) (by (with_reducible repeat (first|refine z4 ?_ _|refine z8 ?_|refine z3 ?_ _));exact BK102.out)) : gb103 ≠ gb102));clear BK101;clear BK102;clear HB;have BK101:=n0_;have BK102:=n1_;have HB:=n2_;have BK103:=n3_;have GW103:=n4_;have GE103:=n5_;have NB101_103:=n6_;have NB103_101:=n7_;have NB102_103:=n8_;have NB103_102:=n9_;clear n0_ n1_ n2_ n3_ n4_ n5_ n6_ n7_ n8_ n9_;clear hb hbox hg;have hnb6:=NB101_102.out;have hnc6:=NB102_101.out;have hnb7:=NB101_103.out;have hnc7:=NB103_101.out;have hcz8_0 : w5.cell? ⟨gb101,0,none⟩ = some (.int .u64 a0_0):=(za BK101.out 0).trans rfl;have hcz8_1 : w5.cell? ⟨gb101,1,none⟩ = some (.int .u64 a0_1):=(za BK101.out 1).trans rfl;have hfz8_0:=zb BK101.out 0;have hfz8_1:=zb BK101.out 1;have hnb9:=NB102_103.out;have hnc9:=NB103_102.out;have hcz10_0 : w5.cell? ⟨gb102,0,none⟩ = some (.int .u64 a1_0):=(za BK102.out 0).trans rfl;have hcz10_1 : w5.cell? ⟨gb102,1,none⟩ = some (.int .u64 a1_1):=(za BK102.out 1).trans rfl;have hfz10_0:=zb BK102.out 0;have hfz10_1:=zb BK102.out 1;have hcz11_0 : w5.cell? ⟨gb103,0,none⟩ = some (.int .u64 0):=(za BK103.out 0).trans rfl;have hcz11_1 : w5.cell? ⟨gb103,1,none⟩ = some (.int .u64 0):=(za BK103.out 1).trans rfl;have hfz11_0:=zb BK103.out 0;have hfz11_1:=zb BK103.out 1))
 refine bodyPost_ret (results_cell_row rfl _ _ gb103 51 #[.int .u64 (Go.bits .xor .u64 a0_0 a1_0),.int .u64 (Go.bits .xor .u64 a0_1 a1_1)] (0,0) _ rfl (by (with_reducible repeat (first|refine z4 ?_ _|refine z8 ?_|refine z3 ?_ _));refine zQ (cs:=#[.int .u64 (Go.bits .xor .u64 a0_0 a1_0),.int .u64 0]) ?_ 1 _ rfl;(with_reducible repeat (first|refine z4 ?_ _|refine z8 ?_|refine z3 ?_ _));refine zQ (cs:=#[.int .u64 0,.int .u64 0]) ?_ 0 _ rfl;(with_reducible repeat (first|refine z4 ?_ _|refine z8 ?_|refine z3 ?_ _));exact BK103.out) Try.underlying51 rfl (by kernel_rfl)) rfl ?_
 exact ⟨by first|rfl|(simp [zl,zm] <;> rfl)|(simp [*,zl,zm] <;> rfl),by repeat (first|(with_reducible first|exact HB.out|apply z7|apply z1|apply z6|refine z5 ?_ GE101.out|refine z5 ?_ GE102.out|refine z5 ?_ GE103.out)|exact HB.out)⟩
end Go.Proofs.Ytngcaphdkgihmaa.P
namespace Go.Proofs.Ytngcaphdkgihmaa.P
open Go.RowKit Go.Proofs.YtngcaphdkgihmaaW.PrintWords Go.Proofs.YtngcaphdkgihmaaW.PrintLast Go.Proofs.YtngcaphdkgihmaaW.PrintMore
attribute [local go_sem] zX zZ z16 z17 zT zU zY z10   -- for this text's walks alone
set_option linter.unusedVariables false
set_option linter.unusedSimpArgs false
def z1b.f (a0 : Int) (a1 : Int) : Option (Int × Int):=if 0 ≤ (wrap64 (a0 - 1)) then (if 0 ≤ (shl .i64 1 (wrap64 (a0 - 1))) then (some (shr .u64 a1 (shl .i64 1 (wrap64 (a0 - 1))),Go.bits .and .u64 a1 (IntKind.u64.wrap ((shl .u64 1 (shl .i64 1 (wrap64 (a0 - 1)))) - 1)))) else (none)) else (none)
set_option maxHeartbeats 8000000 in
set_option maxRecDepth 100000 in
theorem z1b.calls (a0 : Int) (a1 : Int) (r1 : Int) (r2 : Int) (w : World) (h : z1b.f a0 a1 = some (r1,r2)) :
 Calls Try.prog 96 #[.int .i64 a0,.int .u64 a1] w fun e w'=>e = .returned (.tuple #[.int .u64 r1,.int .u64 r2]) ∧ Drawn0 w w':=by
 have H : (if 0 ≤ (wrap64 (a0 - 1)) then (if 0 ≤ (shl .i64 1 (wrap64 (a0 - 1))) then (some (shr .u64 a1 (shl .i64 1 (wrap64 (a0 - 1))),Go.bits .and .u64 a1 (IntKind.u64.wrap ((shl .u64 1 (shl .i64 1 (wrap64 (a0 - 1)))) - 1)))) else (none)) else (none)) = some (r1,r2):=h
 clear h
 obtain ⟨ji3,hji3⟩ : ∃ j_ : Int,(wrap64 (a0 - 1)) = j_:=⟨_,rfl⟩
 replace H : (if 0 ≤ (ji3) then (if 0 ≤ (shl .i64 1 (ji3)) then (some (shr .u64 a1 (shl .i64 1 (ji3)),Go.bits .and .u64 a1 (IntKind.u64.wrap ((shl .u64 1 (shl .i64 1 (ji3))) - 1)))) else (none)) else (none)) = some (r1,r2):=by first|(rw [hji3] at H;exact H)|(simp only [hji3] at H ⊢;exact H)
 have hji3w : (IntKind.i64.wrap (a0 - 1)) = ji3:=(zR _).trans hji3
 by_cases c4 : 0 ≤ (ji3)
 rotate_left
 · rw [if_neg c4] at H
   exact absurd H (by simp)
 rw [if_pos c4] at H
 have c4b0:=eq_true c4
 have c4b1 : decide (0 ≤ (ji3)) = true:=decide_eq_true c4
 clear c4
 obtain ⟨ji5,hji5⟩ : ∃ j_ : Int,(shl .i64 1 (ji3)) = j_:=⟨_,rfl⟩
 replace H : (if 0 ≤ (ji5) then (some (shr .u64 a1 (ji5),Go.bits .and .u64 a1 (IntKind.u64.wrap ((shl .u64 1 (ji5)) - 1)))) else (none)) = some (r1,r2):=by first|(rw [hji5] at H;exact H)|(simp only [hji5] at H ⊢;exact H)
 have hji5_ : (IntKind.i64.wrap (1 * 2 ^ min (ji3).toNat 64)) = ji5:=hji5
 have hji5z : (ji3) ≤ 64 → (IntKind.i64.wrap (1 * 2 ^ (ji3).toNat)) = ji5:=z1p hji5
 have hji5u : (IntKind.i64.wrap (2 ^ min (ji3).toNat 64)) = ji5:=by have h_:=hji5_;rw [Int.one_mul] at h_;exact h_
 have hji5v : (ji3) ≤ 64 → (IntKind.i64.wrap (2 ^ (ji3).toNat)) = ji5:=fun hle_=>by have h_:=hji5z hle_;rw [Int.one_mul] at h_;exact h_
 have hji5y : (wrap64 (1 * 2 ^ min (ji3).toNat 64)) = ji5:=(zR _).symm.trans hji5_
 have hji5x : (ji3) ≤ 64 → (wrap64 (1 * 2 ^ (ji3).toNat)) = ji5:=fun h_=>(zR _).symm.trans (hji5z h_)
 by_cases c6 : 0 ≤ (ji5)
 rotate_left
 · rw [if_neg c6] at H
   exact absurd H (by simp)
 rw [if_pos c6] at H
 have c6b0:=eq_true c6
 have c6b1 : decide (0 ≤ (ji5)) = true:=decide_eq_true c6
 clear c6
 obtain ⟨ji7,hji7⟩ : ∃ j_ : Int,(shr .u64 a1 (ji5)) = j_:=⟨_,rfl⟩
 replace H : (some (ji7,Go.bits .and .u64 a1 (IntKind.u64.wrap ((shl .u64 1 (ji5)) - 1)))) = some (r1,r2):=by first|(rw [hji7] at H;exact H)|(simp only [hji7] at H ⊢;exact H)
 have hji7_ : (a1 / 2 ^ min (ji5).toNat 64) = ji7:=hji7
 have hji7z : (ji5) ≤ 64 → (a1 / 2 ^ (ji5).toNat) = ji7:=z24 hji7
 have c8b0:=eq_true (of_decide_eq_true (by first|(with_reducible assumption)|assumption) : 0 ≤ (ji5))
 obtain ⟨ji9,hji9⟩ : ∃ j_ : Int,(shl .u64 1 (ji5)) = j_:=⟨_,rfl⟩
 replace H : (some (ji7,Go.bits .and .u64 a1 (IntKind.u64.wrap ((ji9) - 1)))) = some (r1,r2):=by first|(rw [hji9] at H;exact H)|(simp only [hji9] at H ⊢;exact H)
 have hji9_ : (IntKind.u64.wrap (1 * 2 ^ min (ji5).toNat 64)) = ji9:=hji9
 have hji9z : (ji5) ≤ 64 → (IntKind.u64.wrap (1 * 2 ^ (ji5).toNat)) = ji9:=z1p hji9
 have hji9n0 : 0 ≤ ji9:=by rw [← hji9];exact Int.emod_nonneg _ (by decide)
 have hji9n1 : decide (0 ≤ ji9) = true:=decide_eq_true hji9n0
 replace hji9n0:=eq_true hji9n0
 have hji9u : (IntKind.u64.wrap (2 ^ min (ji5).toNat 64)) = ji9:=by have h_:=hji9_;rw [Int.one_mul] at h_;exact h_
 have hji9v : (ji5) ≤ 64 → (IntKind.u64.wrap (2 ^ (ji5).toNat)) = ji9:=fun hle_=>by have h_:=hji9z hle_;rw [Int.one_mul] at h_;exact h_
 simp only [Option.some.injEq,Prod.mk.injEq] at H
 obtain ⟨rfl,rfl⟩:=H
 go_enter Try.func96,Try.ntmps96
 go_wp2
 repeat (go_quiet (fail);try go_wp2)
 go_ret2
 exact ⟨by first|rfl|(simp;done)|(simp only [← hji3,← hji5,← hji7,← hji9] <;> (first|rfl|simp))|(simp [*];done),by repeat (first|exact Drawn0.refl _|apply Drawn0.step)⟩
end Go.Proofs.Ytngcaphdkgihmaa.P
namespace Go.Proofs.Ytngcaphdkgihmaa.P
open Go.RowKit Go.Proofs.YtngcaphdkgihmaaW.PrintWords Go.Proofs.YtngcaphdkgihmaaW.PrintLast Go.Proofs.YtngcaphdkgihmaaW.PrintMore
attribute [local go_sem] zX zZ z16 z17 zT zU zY z10   -- for this text's walks alone
set_option linter.unusedVariables false
set_option linter.unusedSimpArgs false
def z1c.f (a0 : Int) (a1 : Int) (a2 : Int) : Option (Int):=if 0 ≤ (wrap64 (a0 - 1)) then (some (Go.bits .or .u64 (shl .u64 a1 (shl .u64 1 (wrap64 (a0 - 1)))) a2)) else (none)
set_option maxHeartbeats 8000000 in
set_option maxRecDepth 100000 in
theorem z1c.calls (a0 : Int) (a1 : Int) (a2 : Int) (r : Int) (w : World) (h : z1c.f a0 a1 a2 = some r) :
 Calls Try.prog 97 #[.int .i64 a0,.int .u64 a1,.int .u64 a2] w fun e w'=>e = .returned (.int .u64 r) ∧ Drawn0 w w':=by
 have H : (if 0 ≤ (wrap64 (a0 - 1)) then (some (Go.bits .or .u64 (shl .u64 a1 (shl .u64 1 (wrap64 (a0 - 1)))) a2)) else (none)) = some r:=h
 clear h
 obtain ⟨ji4,hji4⟩ : ∃ j_ : Int,(wrap64 (a0 - 1)) = j_:=⟨_,rfl⟩
 replace H : (if 0 ≤ (ji4) then (some (Go.bits .or .u64 (shl .u64 a1 (shl .u64 1 (ji4))) a2)) else (none)) = some r:=by first|(rw [hji4] at H;exact H)|(simp only [hji4] at H ⊢;exact H)
 have hji4w : (IntKind.i64.wrap (a0 - 1)) = ji4:=(zR _).trans hji4
 by_cases c5 : 0 ≤ (ji4)
 rotate_left
 · rw [if_neg c5] at H
   exact absurd H (by simp)
 rw [if_pos c5] at H
 have c5b0:=eq_true c5
 have c5b1 : decide (0 ≤ (ji4)) = true:=decide_eq_true c5
 clear c5
 obtain ⟨ji6,hji6⟩ : ∃ j_ : Int,(shl .u64 1 (ji4)) = j_:=⟨_,rfl⟩
 replace H : (some (Go.bits .or .u64 (shl .u64 a1 (ji6)) a2)) = some r:=by first|(rw [hji6] at H;exact H)|(simp only [hji6] at H ⊢;exact H)
 have hji6_ : (IntKind.u64.wrap (1 * 2 ^ min (ji4).toNat 64)) = ji6:=hji6
 have hji6z : (ji4) ≤ 64 → (IntKind.u64.wrap (1 * 2 ^ (ji4).toNat)) = ji6:=z1p hji6
 have hji6n0 : 0 ≤ ji6:=by rw [← hji6];exact Int.emod_nonneg _ (by decide)
 have hji6n1 : decide (0 ≤ ji6) = true:=decide_eq_true hji6n0
 replace hji6n0:=eq_true hji6n0
 have hji6u : (IntKind.u64.wrap (2 ^ min (ji4).toNat 64)) = ji6:=by have h_:=hji6_;rw [Int.one_mul] at h_;exact h_
 have hji6v : (ji4) ≤ 64 → (IntKind.u64.wrap (2 ^ (ji4).toNat)) = ji6:=fun hle_=>by have h_:=hji6z hle_;rw [Int.one_mul] at h_;exact h_
 obtain ⟨ji7,hji7⟩ : ∃ j_ : Int,(shl .u64 a1 (ji6)) = j_:=⟨_,rfl⟩
 replace H : (some (Go.bits .or .u64 (ji7) a2)) = some r:=by first|(rw [hji7] at H;exact H)|(simp only [hji7] at H ⊢;exact H)
 have hji7_ : (IntKind.u64.wrap (a1 * 2 ^ min (ji6).toNat 64)) = ji7:=hji7
 have hji7z : (ji6) ≤ 64 → (IntKind.u64.wrap (a1 * 2 ^ (ji6).toNat)) = ji7:=z1p hji7
 have hji7n0 : 0 ≤ ji7:=by rw [← hji7];exact Int.emod_nonneg _ (by decide)
 have hji7n1 : decide (0 ≤ ji7) = true:=decide_eq_true hji7n0
 replace hji7n0:=eq_true hji7n0
 obtain rfl:=Option.some.inj H
 go_enter Try.func97,Try.ntmps97
 go_wp2
 go_ret
 exact ⟨by first|rfl|(simp;done)|(simp only [← hji4,← hji6,← hji7] <;> (first|rfl|simp))|(simp [*];done),by repeat (first|exact Drawn0.refl _|apply Drawn0.step)⟩
end Go.Proofs.Ytngcaphdkgihmaa.P
namespace Go.Proofs.Ytngcaphdkgihmaa.P
open Go.RowKit Go.Proofs.YtngcaphdkgihmaaW.PrintWords Go.Proofs.YtngcaphdkgihmaaW.PrintLast Go.Proofs.YtngcaphdkgihmaaW.PrintMore
attribute [local go_sem] zX zZ z16 z17 zT zU zY z10   -- for this text's walks alone
set_option linter.unusedVariables false
set_option linter.unusedSimpArgs false
def zH.f : Nat → Int → Int → Option (Int)
 | 0,_,_=>none
 | k + 1,a0,a1=>if a0 = 0 then (some a1) else ((z1b.f a0 a1).bind fun bt101=>((zH.f k (wrap64 (a0 - 1)) bt101.1).bind fun t103=>((z1c.f a0 (Go.bits .xor .u64 bt101.2 t103) bt101.1).bind fun t104=>(some t104))))
theorem zH.z12 : ∀ k,(∀ y0 y1,LeO (zH.f k y0 y1) (zH.f (k + 1) y0 y1))
 | 0=>fun _ _ r h=>by simp [zH.f] at h
 | k + 1=>by
  have ih0:=zH.z12 k
  · intro y0 y1
    unfold zH.f
    repeat' first
    | (with_reducible exact ih0 _ _)
    | (with_reducible exact LeO.refl _)
    | (with_reducible exact LeO.none _)
    | (with_reducible refine LeO.ite ?_ ?_)
    | (with_reducible refine LeO.bind ?_ (fun _=>?_))
    | exact ih0 _ _
    | exact LeO.none _
    | refine LeO.ite ?_ ?_
    | refine LeO.bind ?_ (fun _=>?_)
theorem zH.mono : ∀ a0 a1 k,LeO (zH.f k a0 a1) (zH.f (k + 1) a0 a1):=by
 intro a0 a1 k
 have ih0:=zH.z12 k
 exact ih0 a0 a1
set_option maxHeartbeats 8000000 in
set_option maxRecDepth 100000 in
theorem zH.calls (k : Nat) : ∀ (a0 : Int) (a1 : Int) (r : Int) (w : World) (h : zH.f k a0 a1 = some r),
 Calls Try.prog 83 #[.int .i64 a0,.int .u64 a1] w fun e w'=>e = .returned (.int .u64 r) ∧ Drawn0 w w':=by
 induction k using Nat.strongRecOn with
 | _ k ih =>
 intro a0 a1 r w h
 cases k with
 | zero=>exact absurd h (by simp [zH.f])
 | succ k =>
 simp only [zH.f] at h
 have H : (if a0 = 0 then (some a1) else ((z1b.f a0 a1).bind fun bt101=>((zH.f k (wrap64 (a0 - 1)) bt101.1).bind fun t103=>((z1c.f a0 (Go.bits .xor .u64 bt101.2 t103) bt101.1).bind fun t104=>(some t104))))) = some r:=h
 clear h
 by_cases c3 : a0 = 0
 · rw [if_pos c3] at H
   have c3b0 : (a0 == 0) = true:=beq_iff_eq.mpr c3
   have c3b1 : (a0 != 0) = false:=bne_eq_false_iff_eq.mpr c3
   clear c3
   obtain rfl:=Option.some.inj H
   go_enter Try.func83,Try.ntmps83
   go_wp2
   go_ret
   exact ⟨by first|rfl|(simp;done)|(simp [*];done),by repeat (first|exact Drawn0.refl _|apply Drawn0.step)⟩
 rw [if_neg c3] at H
 have c3b0 : (a0 == 0) = false:=beq_eq_false_iff_ne.mpr c3
 have c3b1 : (a0 != 0) = true:=bne_iff_ne.mpr c3
 replace H:=Option.bind_eq_some_iff.mp H
 obtain ⟨⟨t101,t102⟩,A40,H⟩:=H
 replace H : ((zH.f k (wrap64 (a0 - 1)) t101).bind fun t103=>((z1c.f a0 (Go.bits .xor .u64 t102 t103) t101).bind fun t104=>(some t104))) = some r:=H
 have A4:=z2.mk A40
 clear A40
 replace H:=Option.bind_eq_some_iff.mp H
 obtain ⟨t103,A50,H⟩:=H
 replace H : ((z1c.f a0 (Go.bits .xor .u64 t102 t103) t101).bind fun t104=>(some t104)) = some r:=H
 have A5:=z2.mk A50
 clear A50
 replace H:=Option.bind_eq_some_iff.mp H
 obtain ⟨t104,A60,H⟩:=H
 replace H : (some t104) = some r:=H
 have A6:=z2.mk A60
 clear A60
 obtain rfl:=Option.some.inj H
 go_enter Try.func83,Try.ntmps83
 go_wp2_with (first|((with_reducible refine zp (f:=96) rfl ?_);refine goesL_ (some 13) rfl rfl Try.func96 (by kernel_rfl) rfl #[.int .i64 a0,.int .u64 a1] rfl (by (try simp only [List.map_toArray,List.map_cons,List.map_nil]);first|done|rfl|(simp only [List.length_drop,List.length_take];rfl)) ?_;(with_reducible refine (z1b.calls a0 a1 t101 t102 _ A4.out).mono ?_);rintro e w' ⟨rfl,⟨nd,rfl⟩⟩;refine ⟨_,rfl,?_⟩)|((with_reducible refine zp (f:=83) rfl ?_);refine goesL_ (some 21) rfl rfl Try.func83 (by kernel_rfl) rfl #[.int .i64 (wrap64 (a0 - 1)),.int .u64 t101] rfl (by (try simp only [List.map_toArray,List.map_cons,List.map_nil]);first|done|rfl|(simp only [List.length_drop,List.length_take];rfl)) ?_;(with_reducible refine (ih k (by omega) (wrap64 (a0 - 1)) t101 t103 _ A5.out).mono ?_);rintro e w' ⟨rfl,⟨nd,rfl⟩⟩;refine ⟨_,rfl,?_⟩)|((with_reducible refine zp (f:=97) rfl ?_);refine goesL_ (some 24) rfl rfl Try.func97 (by kernel_rfl) rfl #[.int .i64 a0,.int .u64 (Go.bits .xor .u64 t102 t103),.int .u64 t101] rfl (by (try simp only [List.map_toArray,List.map_cons,List.map_nil]);first|done|rfl|(simp only [List.length_drop,List.length_take];rfl)) ?_;(with_reducible refine (z1c.calls a0 (Go.bits .xor .u64 t102 t103) t101 t104 _ A6.out).mono ?_);rintro e w' ⟨rfl,⟨nd,rfl⟩⟩;refine ⟨_,rfl,?_⟩))
 go_ret
 exact ⟨by first|rfl|(simp;done)|(simp [*];done),by repeat (first|exact Drawn0.refl _|apply Drawn0.step)⟩
end Go.Proofs.Ytngcaphdkgihmaa.P
namespace Go.Proofs.Ytngcaphdkgihmaa.P
open Go.RowKit Go.Proofs.YtngcaphdkgihmaaW.PrintWords Go.Proofs.YtngcaphdkgihmaaW.PrintLast Go.Proofs.YtngcaphdkgihmaaW.PrintMore
attribute [local go_sem] zX zZ z16 z17 zT zU zY z10   -- for this text's walks alone
set_option linter.unusedVariables false
set_option linter.unusedSimpArgs false
mutual
def zu.j0 : Nat → Int → Int → Int → Bool → Option (Int)
 | 0,_,_,_,_=>none
 | k + 1,x0,x1,x2,x23=>if x23 = true then (some (Go.bits .and .u64 (Go.bits .and .u64 x1 x2) 1)) else ((z1b.f x0 x1).bind fun bt101=>((z1b.f x0 x2).bind fun bt103=>((zu.f k (wrap64 (x0 - 1)) bt101.1 bt103.1).bind fun t105=>((zu.f k (wrap64 (x0 - 1)) bt101.2 bt103.2).bind fun t106=>((zu.f k (wrap64 (x0 - 1)) (Go.bits .xor .u64 bt101.1 bt101.2) (Go.bits .xor .u64 bt103.1 bt103.2)).bind fun t107=>((zH.f k (wrap64 (x0 - 1)) t105).bind fun t108=>((z1c.f x0 (Go.bits .xor .u64 (Go.bits .xor .u64 (Go.bits .xor .u64 t107 t105) t106) t108) (Go.bits .xor .u64 t106 t105)).bind fun t109=>(some t109))))))))
def zu.f : Nat → Int → Int → Int → Option (Int)
 | 0,_,_,_=>none
 | k + 1,a0,a1,a2=>if a0 = 0 then (zu.j0 k a0 a1 a2 true) else (if a1 = 0 then (zu.j0 k a0 a1 a2 true) else (zu.j0 k a0 a1 a2 (a2 == 0)))
end
theorem zu.z12 : ∀ k,(∀ y0 y1 y2,LeO (zu.f k y0 y1 y2) (zu.f (k + 1) y0 y1 y2)) ∧ (∀ y0 y1 y2 y3,LeO (zu.j0 k y0 y1 y2 y3) (zu.j0 (k + 1) y0 y1 y2 y3))
 | 0=>⟨fun _ _ _ r h=>by simp [zu.f] at h,fun _ _ _ _ r h=>by simp [zu.j0] at h⟩
 | k + 1=>by
  obtain ⟨ih0,ih1⟩:=zu.z12 k
  refine ⟨?_,?_⟩
  · intro y0 y1 y2
    unfold zu.f
    repeat' first
    | (with_reducible exact ih0 _ _ _)
    | (with_reducible exact ih1 _ _ _ _)
    | (with_reducible exact zH.mono _ _ _)
    | (with_reducible exact LeO.refl _)
    | (with_reducible exact LeO.none _)
    | (with_reducible refine LeO.ite ?_ ?_)
    | (with_reducible refine LeO.bind ?_ (fun _=>?_))
    | exact ih0 _ _ _
    | exact ih1 _ _ _ _
    | exact zH.mono _ _ _
    | exact LeO.none _
    | refine LeO.ite ?_ ?_
    | refine LeO.bind ?_ (fun _=>?_)
  · intro y0 y1 y2 y3
    unfold zu.j0
    repeat' first
    | (with_reducible exact ih0 _ _ _)
    | (with_reducible exact ih1 _ _ _ _)
    | (with_reducible exact zH.mono _ _ _)
    | (with_reducible exact LeO.refl _)
    | (with_reducible exact LeO.none _)
    | (with_reducible refine LeO.ite ?_ ?_)
    | (with_reducible refine LeO.bind ?_ (fun _=>?_))
    | exact ih0 _ _ _
    | exact ih1 _ _ _ _
    | exact zH.mono _ _ _
    | exact LeO.none _
    | refine LeO.ite ?_ ?_
    | refine LeO.bind ?_ (fun _=>?_)
theorem zu.mono : ∀ a0 a1 a2 k,LeO (zu.f k a0 a1 a2) (zu.f (k + 1) a0 a1 a2):=by
 intro a0 a1 a2 k
 obtain ⟨ih0,ih1⟩:=zu.z12 k
 exact ih0 a0 a1 a2
set_option maxHeartbeats 8000000 in
set_option maxRecDepth 100000 in
theorem zu.calls (k : Nat) : ∀ (a0 : Int) (a1 : Int) (a2 : Int) (r : Int) (w : World) (h : zu.f k a0 a1 a2 = some r),
 Calls Try.prog 82 #[.int .i64 a0,.int .u64 a1,.int .u64 a2] w fun e w'=>e = .returned (.int .u64 r) ∧ Drawn0 w w':=by
 induction k using Nat.strongRecOn with
 | _ k ih =>
 intro a0 a1 a2 r w h
 cases k with
 | zero=>exact absurd h (by simp [zu.f])
 | succ k =>
 simp only [zu.f] at h
 have H : (if a0 = 0 then (zu.j0 k a0 a1 a2 true) else (if a1 = 0 then (zu.j0 k a0 a1 a2 true) else (zu.j0 k a0 a1 a2 (a2 == 0)))) = some r:=h
 clear h
 have HC4:=z2.mk H
 clear H
 go_enter Try.func82,Try.ntmps82
 go_upto_region 1 with (fail)
 go_cut [23] (fun v23 wc=>∃ (kq : Nat) (x23_3 : Bool),v23 = .bool x23_3 ∧ z2 (zu.j0 kq a0 a1 a2 x23_3 = some r) ∧ z2 (kq ≤ k) ∧ Drawn0 w wc)
 case first =>
  have H:=HC4.out
  clear HC4
  by_cases c5 : a0 = 0
  · rw [if_pos c5] at H
    have c5b0 : (a0 == 0) = true:=beq_iff_eq.mpr c5
    have c5b1 : (a0 != 0) = false:=bne_eq_false_iff_eq.mpr c5
    clear c5
    (first|rw [c5b0]|(simp only [zR,zV];rw [c5b0])|skip)
    have H':=z2.mk H
    clear H
    go_wp2
    go_meet
    case rel=>exact ⟨_,(true),(by first|rfl|(simp;done)|(simp [*];done)),H',⟨by first|omega|exact Nat.le_refl _⟩,by repeat (first|exact Drawn0.refl _|apply Drawn0.step)⟩
  rw [if_neg c5] at H
  have c5b0 : (a0 == 0) = false:=beq_eq_false_iff_ne.mpr c5
  have c5b1 : (a0 != 0) = true:=bne_iff_ne.mpr c5
  (first|rw [c5b0]|(simp only [zR,zV];rw [c5b0])|skip)
  by_cases c6 : a1 = 0
  rotate_left
  · rw [if_neg c6] at H
    have c6b0 : (a1 == 0) = false:=beq_eq_false_iff_ne.mpr c6
    have c6b1 : (a1 != 0) = true:=bne_iff_ne.mpr c6
    have H':=z2.mk H
    clear H
    go_wp2
    go_meet
    case rel=>exact ⟨_,((a2 == 0)),(by first|rfl|(simp;done)|(simp [*];done)),H',⟨by first|omega|exact Nat.le_refl _⟩,by repeat (first|exact Drawn0.refl _|apply Drawn0.step)⟩
  rw [if_pos c6] at H
  have c6b0 : (a1 == 0) = true:=beq_iff_eq.mpr c6
  have c6b1 : (a1 != 0) = false:=bne_eq_false_iff_eq.mpr c6
  clear c6
  have H':=z2.mk H
  clear H
  go_wp2
  go_meet
  case rel=>exact ⟨_,(true),(by first|rfl|(simp;done)|(simp [*];done)),H',⟨by first|omega|exact Nat.le_refl _⟩,by repeat (first|exact Drawn0.refl _|apply Drawn0.step)⟩
 case rest =>
  clear HC4
  (try clear p2);(try clear c5);(try clear c5b0);(try clear c5b1);(try clear c6);(try clear c6b0);(try clear c6b1)
  obtain ⟨kq,x23_3,rfl,HA,HJ3,⟨mc3,rfl⟩⟩:=hcut
  cases kq with
  | zero=>exact absurd HA.out (by simp [zu.j0])
  | succ kj3 =>
   have H:=HA.out
   clear HA
   simp only [zu.j0] at H
   by_cases c7 : x23_3 = true
   · subst c7
     have H1 : (some (Go.bits .and .u64 (Go.bits .and .u64 a1 a2) 1)) = some r:=by rw [if_pos rfl] at H;exact H
     clear H
     have H:=H1
     clear H1
     obtain rfl:=Option.some.inj H
     go_wp2
     go_ret
     exact ⟨by first|rfl|(simp;done)|(simp [*];done),by repeat (first|exact Drawn0.refl _|apply Drawn0.step)⟩
   replace c7:=Bool.eq_false_iff.mpr c7
   subst c7
   have H1 : ((z1b.f a0 a1).bind fun bt101=>((z1b.f a0 a2).bind fun bt103=>((zu.f kj3 (wrap64 (a0 - 1)) bt101.1 bt103.1).bind fun t105=>((zu.f kj3 (wrap64 (a0 - 1)) bt101.2 bt103.2).bind fun t106=>((zu.f kj3 (wrap64 (a0 - 1)) (Go.bits .xor .u64 bt101.1 bt101.2) (Go.bits .xor .u64 bt103.1 bt103.2)).bind fun t107=>((zH.f kj3 (wrap64 (a0 - 1)) t105).bind fun t108=>((z1c.f a0 (Go.bits .xor .u64 (Go.bits .xor .u64 (Go.bits .xor .u64 t107 t105) t106) t108) (Go.bits .xor .u64 t106 t105)).bind fun t109=>(some t109)))))))) = some r:=by rw [if_neg (show ¬ (false = true) by decide)] at H;exact H
   clear H
   have H:=H1
   clear H1
   replace H:=Option.bind_eq_some_iff.mp H
   obtain ⟨⟨t101,t102⟩,A80,H⟩:=H
   replace H : ((z1b.f a0 a2).bind fun bt103=>((zu.f kj3 (wrap64 (a0 - 1)) t101 bt103.1).bind fun t105=>((zu.f kj3 (wrap64 (a0 - 1)) t102 bt103.2).bind fun t106=>((zu.f kj3 (wrap64 (a0 - 1)) (Go.bits .xor .u64 t101 t102) (Go.bits .xor .u64 bt103.1 bt103.2)).bind fun t107=>((zH.f kj3 (wrap64 (a0 - 1)) t105).bind fun t108=>((z1c.f a0 (Go.bits .xor .u64 (Go.bits .xor .u64 (Go.bits .xor .u64 t107 t105) t106) t108) (Go.bits .xor .u64 t106 t105)).bind fun t109=>(some t109))))))) = some r:=H
   have A8:=z2.mk A80
   clear A80
   replace H:=Option.bind_eq_some_iff.mp H
   obtain ⟨⟨t103,t104⟩,A90,H⟩:=H
   replace H : ((zu.f kj3 (wrap64 (a0 - 1)) t101 t103).bind fun t105=>((zu.f kj3 (wrap64 (a0 - 1)) t102 t104).bind fun t106=>((zu.f kj3 (wrap64 (a0 - 1)) (Go.bits .xor .u64 t101 t102) (Go.bits .xor .u64 t103 t104)).bind fun t107=>((zH.f kj3 (wrap64 (a0 - 1)) t105).bind fun t108=>((z1c.f a0 (Go.bits .xor .u64 (Go.bits .xor .u64 (Go.bits .xor .u64 t107 t105) t106) t108) (Go.bits .xor .u64 t106 t105)).bind fun t109=>(some t109)))))) = some r:=H
   have A9:=z2.mk A90
   clear A90
   replace H:=Option.bind_eq_some_iff.mp H
   obtain ⟨t105,A100,H⟩:=H
   replace H : ((zu.f kj3 (wrap64 (a0 - 1)) t102 t104).bind fun t106=>((zu.f kj3 (wrap64 (a0 - 1)) (Go.bits .xor .u64 t101 t102) (Go.bits .xor .u64 t103 t104)).bind fun t107=>((zH.f kj3 (wrap64 (a0 - 1)) t105).bind fun t108=>((z1c.f a0 (Go.bits .xor .u64 (Go.bits .xor .u64 (Go.bits .xor .u64 t107 t105) t106) t108) (Go.bits .xor .u64 t106 t105)).bind fun t109=>(some t109))))) = some r:=H
   have A10:=z2.mk A100
   clear A100
   replace H:=Option.bind_eq_some_iff.mp H
   obtain ⟨t106,A110,H⟩:=H
   replace H : ((zu.f kj3 (wrap64 (a0 - 1)) (Go.bits .xor .u64 t101 t102) (Go.bits .xor .u64 t103 t104)).bind fun t107=>((zH.f kj3 (wrap64 (a0 - 1)) t105).bind fun t108=>((z1c.f a0 (Go.bits .xor .u64 (Go.bits .xor .u64 (Go.bits .xor .u64 t107 t105) t106) t108) (Go.bits .xor .u64 t106 t105)).bind fun t109=>(some t109)))) = some r:=H
   have A11:=z2.mk A110
   clear A110
   replace H:=Option.bind_eq_some_iff.mp H
   obtain ⟨t107,A120,H⟩:=H
   replace H : ((zH.f kj3 (wrap64 (a0 - 1)) t105).bind fun t108=>((z1c.f a0 (Go.bits .xor .u64 (Go.bits .xor .u64 (Go.bits .xor .u64 t107 t105) t106) t108) (Go.bits .xor .u64 t106 t105)).bind fun t109=>(some t109))) = some r:=H
   have A12:=z2.mk A120
   clear A120
   replace H:=Option.bind_eq_some_iff.mp H
   obtain ⟨t108,A130,H⟩:=H
   replace H : ((z1c.f a0 (Go.bits .xor .u64 (Go.bits .xor .u64 (Go.bits .xor .u64 t107 t105) t106) t108) (Go.bits .xor .u64 t106 t105)).bind fun t109=>(some t109)) = some r:=H
   have A13:=z2.mk A130
   clear A130
   replace H:=Option.bind_eq_some_iff.mp H
   obtain ⟨t109,A140,H⟩:=H
   replace H : (some t109) = some r:=H
   have A14:=z2.mk A140
   clear A140
   obtain rfl:=Option.some.inj H
   go_wp2_with (first|((with_reducible refine zp (f:=96) rfl ?_);refine goesL_ (some 31) rfl rfl Try.func96 (by kernel_rfl) rfl #[.int .i64 a0,.int .u64 a1] rfl (by (try simp only [List.map_toArray,List.map_cons,List.map_nil]);first|done|rfl|(simp only [List.length_drop,List.length_take];rfl)) ?_;(with_reducible refine (z1b.calls a0 a1 t101 t102 _ A8.out).mono ?_);rintro e w' ⟨rfl,⟨nd,rfl⟩⟩;refine ⟨_,rfl,?_⟩)|((with_reducible refine zp (f:=96) rfl ?_);refine goesL_ (some 37) rfl rfl Try.func96 (by kernel_rfl) rfl #[.int .i64 a0,.int .u64 a2] rfl (by (try simp only [List.map_toArray,List.map_cons,List.map_nil]);first|done|rfl|(simp only [List.length_drop,List.length_take];rfl)) ?_;(with_reducible refine (z1b.calls a0 a2 t103 t104 _ A9.out).mono ?_);rintro e w' ⟨rfl,⟨nd,rfl⟩⟩;refine ⟨_,rfl,?_⟩)|((with_reducible refine zp (f:=82) rfl ?_);refine goesL_ (some 44) rfl rfl Try.func82 (by kernel_rfl) rfl #[.int .i64 (wrap64 (a0 - 1)),.int .u64 t101,.int .u64 t103] rfl (by (try simp only [List.map_toArray,List.map_cons,List.map_nil]);first|done|rfl|(simp only [List.length_drop,List.length_take];rfl)) ?_;(with_reducible refine (ih kj3 (by have:=HJ3.out;omega) (wrap64 (a0 - 1)) t101 t103 t105 _ A10.out).mono ?_);rintro e w' ⟨rfl,⟨nd,rfl⟩⟩;refine ⟨_,rfl,?_⟩)|((with_reducible refine zp (f:=82) rfl ?_);refine goesL_ (some 49) rfl rfl Try.func82 (by kernel_rfl) rfl #[.int .i64 (wrap64 (a0 - 1)),.int .u64 t102,.int .u64 t104] rfl (by (try simp only [List.map_toArray,List.map_cons,List.map_nil]);first|done|rfl|(simp only [List.length_drop,List.length_take];rfl)) ?_;(with_reducible refine (ih kj3 (by have:=HJ3.out;omega) (wrap64 (a0 - 1)) t102 t104 t106 _ A11.out).mono ?_);rintro e w' ⟨rfl,⟨nd,rfl⟩⟩;refine ⟨_,rfl,?_⟩)|((with_reducible refine zp (f:=82) rfl ?_);refine goesL_ (some 58) rfl rfl Try.func82 (by kernel_rfl) rfl #[.int .i64 (wrap64 (a0 - 1)),.int .u64 (Go.bits .xor .u64 t101 t102),.int .u64 (Go.bits .xor .u64 t103 t104)] rfl (by (try simp only [List.map_toArray,List.map_cons,List.map_nil]);first|done|rfl|(simp only [List.length_drop,List.length_take];rfl)) ?_;(with_reducible refine (ih kj3 (by have:=HJ3.out;omega) (wrap64 (a0 - 1)) (Go.bits .xor .u64 t101 t102) (Go.bits .xor .u64 t103 t104) t107 _ A12.out).mono ?_);rintro e w' ⟨rfl,⟨nd,rfl⟩⟩;refine ⟨_,rfl,?_⟩)|((with_reducible refine zp (f:=83) rfl ?_);refine goesL_ (some 68) rfl rfl Try.func83 (by kernel_rfl) rfl #[.int .i64 (wrap64 (a0 - 1)),.int .u64 t105] rfl (by (try simp only [List.map_toArray,List.map_cons,List.map_nil]);first|done|rfl|(simp only [List.length_drop,List.length_take];rfl)) ?_;(with_reducible refine (zH.calls kj3 (wrap64 (a0 - 1)) t105 t108 _ A13.out).mono ?_);rintro e w' ⟨rfl,⟨nd,rfl⟩⟩;refine ⟨_,rfl,?_⟩)|((with_reducible refine zp (f:=97) rfl ?_);refine goesL_ (some 73) rfl rfl Try.func97 (by kernel_rfl) rfl #[.int .i64 a0,.int .u64 (Go.bits .xor .u64 (Go.bits .xor .u64 (Go.bits .xor .u64 t107 t105) t106) t108),.int .u64 (Go.bits .xor .u64 t106 t105)] rfl (by (try simp only [List.map_toArray,List.map_cons,List.map_nil]);first|done|rfl|(simp only [List.length_drop,List.length_take];rfl)) ?_;(with_reducible refine (z1c.calls a0 (Go.bits .xor .u64 (Go.bits .xor .u64 (Go.bits .xor .u64 t107 t105) t106) t108) (Go.bits .xor .u64 t106 t105) t109 _ A14.out).mono ?_);rintro e w' ⟨rfl,⟨nd,rfl⟩⟩;refine ⟨_,rfl,?_⟩))
   go_ret
   exact ⟨by first|rfl|(simp;done)|(simp [*];done),by repeat (first|exact Drawn0.refl _|apply Drawn0.step)⟩
end Go.Proofs.Ytngcaphdkgihmaa.P

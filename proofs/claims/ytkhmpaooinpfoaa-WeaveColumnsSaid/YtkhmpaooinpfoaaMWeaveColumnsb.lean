/- Own text: merged by wip/tools/pack.py out of what the law WeaveColumns reaches. -/
import Derived.Test.YtkhmpaooinpfoaaProg
import Derived.Below
import Derived.Deep.Draws
import Derived.Deep.AppendLies
import Derived.Maps.AppendAt
import Derived.OwnWalk
import Derived.Laws.BytesArg
import Derived.Laws.MakeOwn
import Derived.Laws.OwnMore
import Derived.Deep.OwnRows
import Derived.Tactics
import Derived.Lib.ConvBytes
import Derived.Laws.Slices
import Derived.WalkKit
import Derived.KernelRfl
import Derived.RowKit3
import Derived.Deep.LoopGhost
import Derived.Deep.QuietTactic
import Derived.BigQuiet
import Derived.WideLaws
import Derived.Deep.DeepCutAuto
import Derived.Deep.CutBlock
import Derived.Deep.RegionHeld3
import Derived.Laws.Rows
import Derived.Lib.AppendStr
import Derived.ArgAppend
import Derived.Laws.IdiomCopy
import Derived.OrdersHeld
import Derived.Laws.BitsLemmas
import Derived.RowKit
import Derived.Test.YtkhmpaooinpfoaaMWeaveColumnsa
namespace Go.Proofs.Ytkhmpaooinpfoaa.P
open Go.RowKit Go.Proofs.YtkhmpaooinpfoaaW.PrintWords Go.Proofs.YtkhmpaooinpfoaaW.PrintLast Go.Proofs.YtkhmpaooinpfoaaW.PrintMore
attribute [local go_sem] z17 z19 z1j z1k zZ z10 z18 z1a   -- for this text's walks alone
set_option linter.unusedVariables false
set_option linter.unusedSimpArgs false
def errW : Option Int → Value
 | none=>.nilIface
 | some c=>.iface 0 (.int .i64 c)
theorem zh : errW none = .nilIface:=rfl
theorem zi (c : Int) : errW (some c) = .iface 0 (.int .i64 c):=rfl
theorem info3 : (Try.prog.info? 3).map (fun i=>(i.zero,i.size,i.bytes)) = some (some (.int .i64 0),1,8):=by kernel_rfl
theorem info4 : (Try.prog.info? 4).map (fun i=>(i.zero,i.size,i.bytes)) = some (some (.bool false),1,1):=by kernel_rfl
theorem info24 : (Try.prog.info? 24).map (fun i=>(i.zero,i.size,i.bytes)) = some (some (.slice none 0 0),1,24):=by kernel_rfl
theorem info28 : (Try.prog.info? 28).map (fun i=>(i.zero,i.size,i.bytes)) = some (some (.int .u64 0),1,8):=by kernel_rfl
theorem info30 : (Try.prog.info? 30).map (fun i=>(i.zero,i.size,i.bytes)) = some (some (.agg #[(.int .u64 0),(.int .u64 0)]),2,16):=by kernel_rfl
theorem info36 : (Try.prog.info? 36).map (fun i=>(i.zero,i.size,i.bytes)) = some (some (.slice none 0 0),1,24):=by kernel_rfl
theorem info40 : (Try.prog.info? 40).map (fun i=>(i.zero,i.size,i.bytes)) = some (some (.agg #[(.int .u64 0),(.int .u64 0)]),2,16):=by kernel_rfl
theorem info80 : (Try.prog.info? 80).map (fun i=>(i.zero,i.size,i.bytes)) = some (some (.slice none 0 0),1,24):=by kernel_rfl
theorem info127 : (Try.prog.info? 127).map (fun i=>(i.zero,i.size,i.bytes)) = some (some (.agg #[(.int .i64 0),(.int .i64 0),(.int .i64 0),(.int .u64 0),(.int .u64 0)]),5,40):=by kernel_rfl
-- the values' own types
structure S30 where
 f0 : Int
 f1 : Int
def z30 : S30:=⟨(0 : Int),(0 : Int)⟩
def k30 : Kd S30:=Kd.iso (Kd.pair (Kd.int .u64) (Kd.int .u64)) (fun x : S30=>(x.f0,x.f1))
theorem z3j : Kd.Heap k30:=Kd.z2E _ (Kd.z20 (Kd.z27 .u64) (Kd.z27 .u64))
theorem z68 {w : World} {x : S30} {cs : List Value} (h : k30.K w x cs) : cs = [.int .u64 x.f0,.int .u64 x.f1]:=by
 obtain ⟨_,_,rfl,rfl,rfl⟩:=h
 exact rfl
theorem z22 {w : World} {base : Nat} {ok : Nat → Prop} {x : S30} {cs : List Value} (h : k30.M w base ok x cs) : cs = [.int .u64 x.f0,.int .u64 x.f1]:=by
 obtain ⟨_,_,rfl,rfl,rfl⟩:=h
 exact rfl
theorem k30_mk (w : World) (x : S30)  : k30.K w x [.int .u64 x.f0,.int .u64 x.f1]:=⟨[.int .u64 x.f0],[.int .u64 x.f1],rfl,rfl,rfl⟩
theorem z1E (w : World) (base : Nat) (ok : Nat → Prop) (x : S30)  : k30.M w base ok x [.int .u64 x.f0,.int .u64 x.f1]:=⟨[.int .u64 x.f0],[.int .u64 x.f1],rfl,rfl,rfl⟩
theorem k30_mkF (W : World) (ok : Nat → Prop) (x : S30) : Kd.FK k30 W ok x [.int .u64 x.f0,.int .u64 x.f1]:=fun W2 _=>k30_mk W2 x
def zq (xs : List S30) (i : Int) : S30:=xs.getD i.toNat z30
theorem z2o {w : World} {A : Option Addr} {n : Nat} {xs : List S30} (h : Kd.C k30 w A n xs) (i : Int) (h0 : 0 ≤ i) (h1 : i < n) : ∃ ad , A = some ad ∧ w.cell? (ad.add (i.toNat * 2)) = some (.int .u64 (zq xs i).f0) ∧ w.cell? ⟨(ad.add (i.toNat * 2)).block,(ad.add (i.toNat * 2)).off + 1,none⟩ = some (.int .u64 (zq xs i).f1):=by
 obtain ⟨ad,c,e,_,hK,hc0⟩:=Kd.z3K h z30 i h0 h1
 have hc : ∀ j u,c[j]? = some u → w.cell? (ad.add (i.toNat * 2 + j)) = some u:=hc0
 obtain rfl:=z68 hK
 exact ⟨ad,e,hc 0 _ rfl,by rw [← z1U _ _ 1 (by omega)];exact hc 1 _ rfl⟩
def z1g (xs : List (List S30)) (i : Int) : (List S30):=xs.getD i.toNat ([] : List S30)
theorem z3s {w : World} {A : Option Addr} {n : Nat} {xs : List (List S30)} (h : Kd.C (Kd.slice 30 k30) w A n xs) (i : Int) (h0 : 0 ≤ i) (h1 : i < n) : ∃ ad A0 c0,A = some ad ∧ w.cell? (ad.add i.toNat) = some (.slice A0 (z1g xs i).length c0) ∧ (z1g xs i).length ≤ c0 ∧ k30.C w A0 (z1g xs i).length (z1g xs i):=by
 obtain ⟨ad,c,e,_,hK,hc0⟩:=Kd.z3K h ([] : List S30) i h0 h1
 have hc : ∀ j u,c[j]? = some u → w.cell? (ad.add (i.toNat * 1 + j)) = some u:=hc0
 obtain ⟨A0,c0,rfl,l0,g0⟩:=hK
 exact ⟨ad,A0,c0,e,by have hq:=hc 0 _ rfl;rwa [Nat.mul_one,Nat.add_zero] at hq,l0,g0⟩
structure S40 where
 f0 : Int
 f1 : Int
def z40 : S40:=⟨(0 : Int),(0 : Int)⟩
def k40 : Kd S40:=Kd.iso (Kd.pair (Kd.int .u64) (Kd.int .u64)) (fun x : S40=>(x.f0,x.f1))
theorem k40_heap : Kd.Heap k40:=Kd.z2E _ (Kd.z20 (Kd.z27 .u64) (Kd.z27 .u64))
theorem z69 {w : World} {x : S40} {cs : List Value} (h : k40.K w x cs) : cs = [.int .u64 x.f0,.int .u64 x.f1]:=by
 obtain ⟨_,_,rfl,rfl,rfl⟩:=h
 exact rfl
theorem z7l {w : World} {base : Nat} {ok : Nat → Prop} {x : S40} {cs : List Value} (h : k40.M w base ok x cs) : cs = [.int .u64 x.f0,.int .u64 x.f1]:=by
 obtain ⟨_,_,rfl,rfl,rfl⟩:=h
 exact rfl
theorem k40_mk (w : World) (x : S40)  : k40.K w x [.int .u64 x.f0,.int .u64 x.f1]:=⟨[.int .u64 x.f0],[.int .u64 x.f1],rfl,rfl,rfl⟩
theorem z3C (w : World) (base : Nat) (ok : Nat → Prop) (x : S40)  : k40.M w base ok x [.int .u64 x.f0,.int .u64 x.f1]:=⟨[.int .u64 x.f0],[.int .u64 x.f1],rfl,rfl,rfl⟩
theorem k40_mkF (W : World) (ok : Nat → Prop) (x : S40) : Kd.FK k40 W ok x [.int .u64 x.f0,.int .u64 x.f1]:=fun W2 _=>k40_mk W2 x
def z1n (xs : List S40) (i : Int) : S40:=xs.getD i.toNat z40
theorem z3m {w : World} {A : Option Addr} {n : Nat} {xs : List S40} (h : Kd.C k40 w A n xs) (i : Int) (h0 : 0 ≤ i) (h1 : i < n) : ∃ ad , A = some ad ∧ w.cell? (ad.add (i.toNat * 2)) = some (.int .u64 (z1n xs i).f0) ∧ w.cell? ⟨(ad.add (i.toNat * 2)).block,(ad.add (i.toNat * 2)).off + 1,none⟩ = some (.int .u64 (z1n xs i).f1):=by
 obtain ⟨ad,c,e,_,hK,hc0⟩:=Kd.z3K h z40 i h0 h1
 have hc : ∀ j u,c[j]? = some u → w.cell? (ad.add (i.toNat * 2 + j)) = some u:=hc0
 obtain rfl:=z69 hK
 exact ⟨ad,e,hc 0 _ rfl,by rw [← z1U _ _ 1 (by omega)];exact hc 1 _ rfl⟩
def z1W (xs : List (List S40)) (i : Int) : (List S40):=xs.getD i.toNat ([] : List S40)
theorem z4T {w : World} {A : Option Addr} {n : Nat} {xs : List (List S40)} (h : Kd.C (Kd.slice 40 k40) w A n xs) (i : Int) (h0 : 0 ≤ i) (h1 : i < n) : ∃ ad A0 c0,A = some ad ∧ w.cell? (ad.add i.toNat) = some (.slice A0 (z1W xs i).length c0) ∧ (z1W xs i).length ≤ c0 ∧ k40.C w A0 (z1W xs i).length (z1W xs i):=by
 obtain ⟨ad,c,e,_,hK,hc0⟩:=Kd.z3K h ([] : List S40) i h0 h1
 have hc : ∀ j u,c[j]? = some u → w.cell? (ad.add (i.toNat * 1 + j)) = some u:=hc0
 obtain ⟨A0,c0,rfl,l0,g0⟩:=hK
 exact ⟨ad,A0,c0,e,by have hq:=hc 0 _ rfl;rwa [Nat.mul_one,Nat.add_zero] at hq,l0,g0⟩
def rd_L7 (xs : List (List (List S30))) (i : Int) : (List (List S30)):=xs.getD i.toNat ([] : List (List S30))
theorem at_L7 {w : World} {A : Option Addr} {n : Nat} {xs : List (List (List S30))} (h : Kd.C (Kd.slice 24 (Kd.slice 30 k30)) w A n xs) (i : Int) (h0 : 0 ≤ i) (h1 : i < n) : ∃ ad A0 c0,A = some ad ∧ w.cell? (ad.add i.toNat) = some (.slice A0 (rd_L7 xs i).length c0) ∧ (rd_L7 xs i).length ≤ c0 ∧ (Kd.slice 30 k30).C w A0 (rd_L7 xs i).length (rd_L7 xs i):=by
 obtain ⟨ad,c,e,_,hK,hc0⟩:=Kd.z3K h ([] : List (List S30)) i h0 h1
 have hc : ∀ j u,c[j]? = some u → w.cell? (ad.add (i.toNat * 1 + j)) = some u:=hc0
 obtain ⟨A0,c0,rfl,l0,g0⟩:=hK
 exact ⟨ad,A0,c0,e,by have hq:=hc 0 _ rfl;rwa [Nat.mul_one,Nat.add_zero] at hq,l0,g0⟩
structure S46 where
 f0 : (List S30)
 f1 : Int
def z46 : S46:=⟨([] : List S30),(0 : Int)⟩
def k46 : Kd S46:=Kd.iso (Kd.pair (Kd.slice 30 k30) (Kd.int .i64)) (fun x : S46=>(x.f0,x.f1))
theorem k46_heap : Kd.Heap k46:=Kd.z2E _ (Kd.z20 (Kd.z2A 30 z3j) (Kd.z27 .i64))
theorem z3O {w : World} {x : S46} {cs : List Value} (h : k46.K w x cs) : ∃ A0 c0,cs = [.slice A0 x.f0.length c0,.int .i64 x.f1] ∧ x.f0.length ≤ c0 ∧ k30.C w A0 x.f0.length x.f0:=by
 obtain ⟨_,_,rfl,⟨A0,c0,rfl,l0,g0⟩,rfl⟩:=h
 exact ⟨A0,c0,rfl,l0,g0⟩
theorem k46_openM {w : World} {base : Nat} {ok : Nat → Prop} {x : S46} {cs : List Value} (h : k46.M w base ok x cs) : ∃ v0,cs = [v0,.int .i64 x.f1] ∧ k30.R 30 w base ok v0 x.f0:=by
 obtain ⟨_,_,rfl,⟨v0,rfl,g0⟩,rfl⟩:=h
 exact ⟨v0,rfl,g0⟩
theorem k46_mk (w : World) (x : S46) {A0 : Option Addr} {c0 : Nat} (l0 : x.f0.length ≤ c0) (g0 : k30.C w A0 x.f0.length x.f0) : k46.K w x [.slice A0 x.f0.length c0,.int .i64 x.f1]:=⟨[.slice A0 x.f0.length c0],[.int .i64 x.f1],rfl,⟨A0,c0,rfl,l0,g0⟩,rfl⟩
theorem k46_mkM (w : World) (base : Nat) (ok : Nat → Prop) (x : S46) {v0 : Value} (g0 : k30.R 30 w base ok v0 x.f0) : k46.M w base ok x [v0,.int .i64 x.f1]:=⟨[v0],[.int .i64 x.f1],rfl,⟨v0,rfl,g0⟩,rfl⟩
theorem k46_openF {W : World} {ok : Nat → Prop} {x : S46} {cs : List Value} (h : Kd.FK k46 W ok x cs) : ∃ A0 c0,cs = [.slice A0 x.f0.length c0,.int .i64 x.f1] ∧ x.f0.length ≤ c0 ∧ Kd.F k30 W ok A0 x.f0.length x.f0:=by
 obtain ⟨A0,c0,rfl,l0,_⟩:=z3O (Kd.z5h h)
 exact ⟨A0,c0,rfl,l0,(fun W' hW=>by obtain ⟨A0_,c0_,he,l0_,g0_⟩:=z3O (h W' hW);injection (Option.some.inj (show some (Value.slice A0 x.f0.length c0) = some (Value.slice A0_ x.f0.length c0_) from congrArg (fun l=>l[0]?) he)) with ha_ _ _;rw [ha_];exact g0_)⟩
theorem k46_mkF (W : World) (ok : Nat → Prop) (x : S46) {A0 : Option Addr} {c0 : Nat} (l0 : x.f0.length ≤ c0) (g0 : Kd.F k30 W ok A0 x.f0.length x.f0) : Kd.FK k46 W ok x [.slice A0 x.f0.length c0,.int .i64 x.f1]:=fun W2 hW=>k46_mk W2 x l0 (g0 W2 hW)
def z5E (xs : List S46) (i : Int) : S46:=xs.getD i.toNat z46
theorem at_T46 {w : World} {A : Option Addr} {n : Nat} {xs : List S46} (h : Kd.C k46 w A n xs) (i : Int) (h0 : 0 ≤ i) (h1 : i < n) : ∃ ad A0 c0,A = some ad ∧ w.cell? (ad.add (i.toNat * 2)) = some (.slice A0 (z5E xs i).f0.length c0) ∧ w.cell? ⟨(ad.add (i.toNat * 2)).block,(ad.add (i.toNat * 2)).off + 1,none⟩ = some (.int .i64 (z5E xs i).f1) ∧ (z5E xs i).f0.length ≤ c0 ∧ k30.C w A0 (z5E xs i).f0.length (z5E xs i).f0:=by
 obtain ⟨ad,c,e,_,hK,hc0⟩:=Kd.z3K h z46 i h0 h1
 have hc : ∀ j u,c[j]? = some u → w.cell? (ad.add (i.toNat * 2 + j)) = some u:=hc0
 obtain ⟨A0,c0,rfl,l0,g0⟩:=z3O hK
 exact ⟨ad,A0,c0,e,hc 0 _ rfl,by rw [← z1U _ _ 1 (by omega)];exact hc 1 _ rfl,l0,g0⟩
structure S119 where
 f0 : Int
 f1 : Int
 f2 : Int
 f3 : S30
def z119 : S119:=⟨(0 : Int),(0 : Int),(0 : Int),z30⟩
def k119 : Kd S119:=Kd.iso (Kd.pair (Kd.int .i64) (Kd.pair (Kd.int .i64) (Kd.pair (Kd.int .i64) k30))) (fun x : S119=>(x.f0,x.f1,x.f2,x.f3))
theorem k119_heap : Kd.Heap k119:=Kd.z2E _ (Kd.z20 (Kd.z27 .i64) (Kd.z20 (Kd.z27 .i64) (Kd.z20 (Kd.z27 .i64) z3j)))
theorem z7j {w : World} {x : S119} {cs : List Value} (h : k119.K w x cs) : cs = [.int .i64 x.f0,.int .i64 x.f1,.int .i64 x.f2,.int .u64 x.f3.f0,.int .u64 x.f3.f1]:=by
 obtain ⟨_,_,rfl,rfl,⟨_,_,rfl,rfl,⟨_,_,rfl,rfl,s3⟩⟩⟩:=h
 obtain rfl:=z68 s3
 exact rfl
theorem k119_openM {w : World} {base : Nat} {ok : Nat → Prop} {x : S119} {cs : List Value} (h : k119.M w base ok x cs) : cs = [.int .i64 x.f0,.int .i64 x.f1,.int .i64 x.f2,.int .u64 x.f3.f0,.int .u64 x.f3.f1]:=by
 obtain ⟨_,_,rfl,rfl,⟨_,_,rfl,rfl,⟨_,_,rfl,rfl,s3⟩⟩⟩:=h
 obtain rfl:=z22 s3
 exact rfl
theorem k119_mk (w : World) (x : S119)  : k119.K w x [.int .i64 x.f0,.int .i64 x.f1,.int .i64 x.f2,.int .u64 x.f3.f0,.int .u64 x.f3.f1]:=⟨[.int .i64 x.f0],[.int .i64 x.f1,.int .i64 x.f2,.int .u64 x.f3.f0,.int .u64 x.f3.f1],rfl,rfl,⟨[.int .i64 x.f1],[.int .i64 x.f2,.int .u64 x.f3.f0,.int .u64 x.f3.f1],rfl,rfl,⟨[.int .i64 x.f2],[.int .u64 x.f3.f0,.int .u64 x.f3.f1],rfl,rfl,(k30_mk w x.f3 )⟩⟩⟩
theorem k119_mkM (w : World) (base : Nat) (ok : Nat → Prop) (x : S119)  : k119.M w base ok x [.int .i64 x.f0,.int .i64 x.f1,.int .i64 x.f2,.int .u64 x.f3.f0,.int .u64 x.f3.f1]:=⟨[.int .i64 x.f0],[.int .i64 x.f1,.int .i64 x.f2,.int .u64 x.f3.f0,.int .u64 x.f3.f1],rfl,rfl,⟨[.int .i64 x.f1],[.int .i64 x.f2,.int .u64 x.f3.f0,.int .u64 x.f3.f1],rfl,rfl,⟨[.int .i64 x.f2],[.int .u64 x.f3.f0,.int .u64 x.f3.f1],rfl,rfl,(z1E w base ok x.f3 )⟩⟩⟩
theorem k119_mkF (W : World) (ok : Nat → Prop) (x : S119) : Kd.FK k119 W ok x [.int .i64 x.f0,.int .i64 x.f1,.int .i64 x.f2,.int .u64 x.f3.f0,.int .u64 x.f3.f1]:=fun W2 _=>k119_mk W2 x
def z49 (xs : List S119) (i : Int) : S119:=xs.getD i.toNat z119
theorem at_T119 {w : World} {A : Option Addr} {n : Nat} {xs : List S119} (h : Kd.C k119 w A n xs) (i : Int) (h0 : 0 ≤ i) (h1 : i < n) : ∃ ad , A = some ad ∧ w.cell? (ad.add (i.toNat * 5)) = some (.int .i64 (z49 xs i).f0) ∧ w.cell? ⟨(ad.add (i.toNat * 5)).block,(ad.add (i.toNat * 5)).off + 1,none⟩ = some (.int .i64 (z49 xs i).f1) ∧ w.cell? ⟨(ad.add (i.toNat * 5)).block,(ad.add (i.toNat * 5)).off + 2,none⟩ = some (.int .i64 (z49 xs i).f2) ∧ w.cell? ⟨(ad.add (i.toNat * 5)).block,(ad.add (i.toNat * 5)).off + 3,none⟩ = some (.int .u64 (z49 xs i).f3.f0) ∧ w.cell? ⟨(ad.add (i.toNat * 5)).block,(ad.add (i.toNat * 5)).off + 4,none⟩ = some (.int .u64 (z49 xs i).f3.f1):=by
 obtain ⟨ad,c,e,_,hK,hc0⟩:=Kd.z3K h z119 i h0 h1
 have hc : ∀ j u,c[j]? = some u → w.cell? (ad.add (i.toNat * 5 + j)) = some u:=hc0
 obtain rfl:=z7j hK
 exact ⟨ad,e,hc 0 _ rfl,by rw [← z1U _ _ 1 (by omega)];exact hc 1 _ rfl,by rw [← z1U _ _ 2 (by omega)];exact hc 2 _ rfl,by rw [← z1U _ _ 3 (by omega)];exact hc 3 _ rfl,by rw [← z1U _ _ 4 (by omega)];exact hc 4 _ rfl⟩
structure S127 where
 f0 : Int
 f1 : Int
 f2 : Int
 f3 : S40
def z127 : S127:=⟨(0 : Int),(0 : Int),(0 : Int),z40⟩
def k127 : Kd S127:=Kd.iso (Kd.pair (Kd.int .i64) (Kd.pair (Kd.int .i64) (Kd.pair (Kd.int .i64) k40))) (fun x : S127=>(x.f0,x.f1,x.f2,x.f3))
theorem k127_heap : Kd.Heap k127:=Kd.z2E _ (Kd.z20 (Kd.z27 .i64) (Kd.z20 (Kd.z27 .i64) (Kd.z20 (Kd.z27 .i64) k40_heap)))
theorem z7k {w : World} {x : S127} {cs : List Value} (h : k127.K w x cs) : cs = [.int .i64 x.f0,.int .i64 x.f1,.int .i64 x.f2,.int .u64 x.f3.f0,.int .u64 x.f3.f1]:=by
 obtain ⟨_,_,rfl,rfl,⟨_,_,rfl,rfl,⟨_,_,rfl,rfl,s3⟩⟩⟩:=h
 obtain rfl:=z69 s3
 exact rfl
theorem k127_openM {w : World} {base : Nat} {ok : Nat → Prop} {x : S127} {cs : List Value} (h : k127.M w base ok x cs) : cs = [.int .i64 x.f0,.int .i64 x.f1,.int .i64 x.f2,.int .u64 x.f3.f0,.int .u64 x.f3.f1]:=by
 obtain ⟨_,_,rfl,rfl,⟨_,_,rfl,rfl,⟨_,_,rfl,rfl,s3⟩⟩⟩:=h
 obtain rfl:=z7l s3
 exact rfl
theorem k127_mk (w : World) (x : S127)  : k127.K w x [.int .i64 x.f0,.int .i64 x.f1,.int .i64 x.f2,.int .u64 x.f3.f0,.int .u64 x.f3.f1]:=⟨[.int .i64 x.f0],[.int .i64 x.f1,.int .i64 x.f2,.int .u64 x.f3.f0,.int .u64 x.f3.f1],rfl,rfl,⟨[.int .i64 x.f1],[.int .i64 x.f2,.int .u64 x.f3.f0,.int .u64 x.f3.f1],rfl,rfl,⟨[.int .i64 x.f2],[.int .u64 x.f3.f0,.int .u64 x.f3.f1],rfl,rfl,(k40_mk w x.f3 )⟩⟩⟩
theorem k127_mkM (w : World) (base : Nat) (ok : Nat → Prop) (x : S127)  : k127.M w base ok x [.int .i64 x.f0,.int .i64 x.f1,.int .i64 x.f2,.int .u64 x.f3.f0,.int .u64 x.f3.f1]:=⟨[.int .i64 x.f0],[.int .i64 x.f1,.int .i64 x.f2,.int .u64 x.f3.f0,.int .u64 x.f3.f1],rfl,rfl,⟨[.int .i64 x.f1],[.int .i64 x.f2,.int .u64 x.f3.f0,.int .u64 x.f3.f1],rfl,rfl,⟨[.int .i64 x.f2],[.int .u64 x.f3.f0,.int .u64 x.f3.f1],rfl,rfl,(z3C w base ok x.f3 )⟩⟩⟩
theorem k127_mkF (W : World) (ok : Nat → Prop) (x : S127) : Kd.FK k127 W ok x [.int .i64 x.f0,.int .i64 x.f1,.int .i64 x.f2,.int .u64 x.f3.f0,.int .u64 x.f3.f1]:=fun W2 _=>k127_mk W2 x
def z4a (xs : List S127) (i : Int) : S127:=xs.getD i.toNat z127
theorem at_T127 {w : World} {A : Option Addr} {n : Nat} {xs : List S127} (h : Kd.C k127 w A n xs) (i : Int) (h0 : 0 ≤ i) (h1 : i < n) : ∃ ad , A = some ad ∧ w.cell? (ad.add (i.toNat * 5)) = some (.int .i64 (z4a xs i).f0) ∧ w.cell? ⟨(ad.add (i.toNat * 5)).block,(ad.add (i.toNat * 5)).off + 1,none⟩ = some (.int .i64 (z4a xs i).f1) ∧ w.cell? ⟨(ad.add (i.toNat * 5)).block,(ad.add (i.toNat * 5)).off + 2,none⟩ = some (.int .i64 (z4a xs i).f2) ∧ w.cell? ⟨(ad.add (i.toNat * 5)).block,(ad.add (i.toNat * 5)).off + 3,none⟩ = some (.int .u64 (z4a xs i).f3.f0) ∧ w.cell? ⟨(ad.add (i.toNat * 5)).block,(ad.add (i.toNat * 5)).off + 4,none⟩ = some (.int .u64 (z4a xs i).f3.f1):=by
 obtain ⟨ad,c,e,_,hK,hc0⟩:=Kd.z3K h z127 i h0 h1
 have hc : ∀ j u,c[j]? = some u → w.cell? (ad.add (i.toNat * 5 + j)) = some u:=hc0
 obtain rfl:=z7k hK
 exact ⟨ad,e,hc 0 _ rfl,by rw [← z1U _ _ 1 (by omega)];exact hc 1 _ rfl,by rw [← z1U _ _ 2 (by omega)];exact hc 2 _ rfl,by rw [← z1U _ _ 3 (by omega)];exact hc 3 _ rfl,by rw [← z1U _ _ 4 (by omega)];exact hc 4 _ rfl⟩
structure S23 where
 f0 : Int
 f1 : Int
 f2 : Int
def z23 : S23:=⟨(0 : Int),(0 : Int),(0 : Int)⟩
def k23 : Kd S23:=Kd.iso (Kd.pair (Kd.int .i64) (Kd.pair (Kd.int .i64) (Kd.int .i64))) (fun x : S23=>(x.f0,x.f1,x.f2))
theorem k23_heap : Kd.Heap k23:=Kd.z2E _ (Kd.z20 (Kd.z27 .i64) (Kd.z20 (Kd.z27 .i64) (Kd.z27 .i64)))
theorem k23_open {w : World} {x : S23} {cs : List Value} (h : k23.K w x cs) : cs = [.int .i64 x.f0,.int .i64 x.f1,.int .i64 x.f2]:=by
 obtain ⟨_,_,rfl,rfl,⟨_,_,rfl,rfl,rfl⟩⟩:=h
 exact rfl
theorem k23_openM {w : World} {base : Nat} {ok : Nat → Prop} {x : S23} {cs : List Value} (h : k23.M w base ok x cs) : cs = [.int .i64 x.f0,.int .i64 x.f1,.int .i64 x.f2]:=by
 obtain ⟨_,_,rfl,rfl,⟨_,_,rfl,rfl,rfl⟩⟩:=h
 exact rfl
theorem k23_mk (w : World) (x : S23)  : k23.K w x [.int .i64 x.f0,.int .i64 x.f1,.int .i64 x.f2]:=⟨[.int .i64 x.f0],[.int .i64 x.f1,.int .i64 x.f2],rfl,rfl,⟨[.int .i64 x.f1],[.int .i64 x.f2],rfl,rfl,rfl⟩⟩
theorem k23_mkM (w : World) (base : Nat) (ok : Nat → Prop) (x : S23)  : k23.M w base ok x [.int .i64 x.f0,.int .i64 x.f1,.int .i64 x.f2]:=⟨[.int .i64 x.f0],[.int .i64 x.f1,.int .i64 x.f2],rfl,rfl,⟨[.int .i64 x.f1],[.int .i64 x.f2],rfl,rfl,rfl⟩⟩
theorem k23_mkF (W : World) (ok : Nat → Prop) (x : S23) : Kd.FK k23 W ok x [.int .i64 x.f0,.int .i64 x.f1,.int .i64 x.f2]:=fun W2 _=>k23_mk W2 x
def z7C (xs : List S23) (i : Int) : S23:=xs.getD i.toNat z23
theorem at_T23 {w : World} {A : Option Addr} {n : Nat} {xs : List S23} (h : Kd.C k23 w A n xs) (i : Int) (h0 : 0 ≤ i) (h1 : i < n) : ∃ ad , A = some ad ∧ w.cell? (ad.add (i.toNat * 3)) = some (.int .i64 (z7C xs i).f0) ∧ w.cell? ⟨(ad.add (i.toNat * 3)).block,(ad.add (i.toNat * 3)).off + 1,none⟩ = some (.int .i64 (z7C xs i).f1) ∧ w.cell? ⟨(ad.add (i.toNat * 3)).block,(ad.add (i.toNat * 3)).off + 2,none⟩ = some (.int .i64 (z7C xs i).f2):=by
 obtain ⟨ad,c,e,_,hK,hc0⟩:=Kd.z3K h z23 i h0 h1
 have hc : ∀ j u,c[j]? = some u → w.cell? (ad.add (i.toNat * 3 + j)) = some u:=hc0
 obtain rfl:=k23_open hK
 exact ⟨ad,e,hc 0 _ rfl,by rw [← z1U _ _ 1 (by omega)];exact hc 1 _ rfl,by rw [← z1U _ _ 2 (by omega)];exact hc 2 _ rfl⟩
def z6g (xs : List (List Bool)) (i : Int) : (List Bool):=xs.getD i.toNat ([] : List Bool)
theorem at_L12 {w : World} {A : Option Addr} {n : Nat} {xs : List (List Bool)} (h : Kd.C (Kd.slice 4 Kd.bool) w A n xs) (i : Int) (h0 : 0 ≤ i) (h1 : i < n) : ∃ ad A0 c0,A = some ad ∧ w.cell? (ad.add i.toNat) = some (.slice A0 (z6g xs i).length c0) ∧ (z6g xs i).length ≤ c0 ∧ Kd.bool.C w A0 (z6g xs i).length (z6g xs i):=by
 obtain ⟨ad,c,e,_,hK,hc0⟩:=Kd.z3K h ([] : List Bool) i h0 h1
 have hc : ∀ j u,c[j]? = some u → w.cell? (ad.add (i.toNat * 1 + j)) = some u:=hc0
 obtain ⟨A0,c0,rfl,l0,g0⟩:=hK
 exact ⟨ad,A0,c0,e,by have hq:=hc 0 _ rfl;rwa [Nat.mul_one,Nat.add_zero] at hq,l0,g0⟩
structure S71 where
 f0 : (List Bool)
 f1 : (List S30)
def z71 : S71:=⟨([] : List Bool),([] : List S30)⟩
def k71 : Kd S71:=Kd.iso (Kd.pair (Kd.slice 4 Kd.bool) (Kd.slice 30 k30)) (fun x : S71=>(x.f0,x.f1))
theorem k71_heap : Kd.Heap k71:=Kd.z2E _ (Kd.z20 (Kd.z2A 4 Kd.z7f) (Kd.z2A 30 z3j))
theorem z3P {w : World} {x : S71} {cs : List Value} (h : k71.K w x cs) : ∃ A0 c0 A1 c1,cs = [.slice A0 x.f0.length c0,.slice A1 x.f1.length c1] ∧ x.f0.length ≤ c0 ∧ Kd.bool.C w A0 x.f0.length x.f0 ∧ x.f1.length ≤ c1 ∧ k30.C w A1 x.f1.length x.f1:=by
 obtain ⟨_,_,rfl,⟨A0,c0,rfl,l0,g0⟩,⟨A1,c1,rfl,l1,g1⟩⟩:=h
 exact ⟨A0,c0,A1,c1,rfl,l0,g0,l1,g1⟩
theorem k71_openM {w : World} {base : Nat} {ok : Nat → Prop} {x : S71} {cs : List Value} (h : k71.M w base ok x cs) : ∃ v0 v1,cs = [v0,v1] ∧ Kd.bool.R 4 w base ok v0 x.f0 ∧ k30.R 30 w base ok v1 x.f1:=by
 obtain ⟨_,_,rfl,⟨v0,rfl,g0⟩,⟨v1,rfl,g1⟩⟩:=h
 exact ⟨v0,v1,rfl,g0,g1⟩
theorem k71_mk (w : World) (x : S71) {A0 : Option Addr} {c0 : Nat} (l0 : x.f0.length ≤ c0) (g0 : Kd.bool.C w A0 x.f0.length x.f0) {A1 : Option Addr} {c1 : Nat} (l1 : x.f1.length ≤ c1) (g1 : k30.C w A1 x.f1.length x.f1) : k71.K w x [.slice A0 x.f0.length c0,.slice A1 x.f1.length c1]:=⟨[.slice A0 x.f0.length c0],[.slice A1 x.f1.length c1],rfl,⟨A0,c0,rfl,l0,g0⟩,⟨A1,c1,rfl,l1,g1⟩⟩
theorem k71_mkM (w : World) (base : Nat) (ok : Nat → Prop) (x : S71) {v0 : Value} (g0 : Kd.bool.R 4 w base ok v0 x.f0) {v1 : Value} (g1 : k30.R 30 w base ok v1 x.f1) : k71.M w base ok x [v0,v1]:=⟨[v0],[v1],rfl,⟨v0,rfl,g0⟩,⟨v1,rfl,g1⟩⟩
theorem k71_openF {W : World} {ok : Nat → Prop} {x : S71} {cs : List Value} (h : Kd.FK k71 W ok x cs) : ∃ A0 c0 A1 c1,cs = [.slice A0 x.f0.length c0,.slice A1 x.f1.length c1] ∧ x.f0.length ≤ c0 ∧ Kd.F Kd.bool W ok A0 x.f0.length x.f0 ∧ x.f1.length ≤ c1 ∧ Kd.F k30 W ok A1 x.f1.length x.f1:=by
 obtain ⟨A0,c0,A1,c1,rfl,l0,_,l1,_⟩:=z3P (Kd.z5h h)
 exact ⟨A0,c0,A1,c1,rfl,l0,(fun W' hW=>by obtain ⟨A0_,c0_,A1_,c1_,he,l0_,g0_,l1_,g1_⟩:=z3P (h W' hW);injection (Option.some.inj (show some (Value.slice A0 x.f0.length c0) = some (Value.slice A0_ x.f0.length c0_) from congrArg (fun l=>l[0]?) he)) with ha_ _ _;rw [ha_];exact g0_),l1,(fun W' hW=>by obtain ⟨A0_,c0_,A1_,c1_,he,l0_,g0_,l1_,g1_⟩:=z3P (h W' hW);injection (Option.some.inj (show some (Value.slice A1 x.f1.length c1) = some (Value.slice A1_ x.f1.length c1_) from congrArg (fun l=>l[1]?) he)) with ha_ _ _;rw [ha_];exact g1_)⟩
theorem k71_mkF (W : World) (ok : Nat → Prop) (x : S71) {A0 : Option Addr} {c0 : Nat} (l0 : x.f0.length ≤ c0) (g0 : Kd.F Kd.bool W ok A0 x.f0.length x.f0) {A1 : Option Addr} {c1 : Nat} (l1 : x.f1.length ≤ c1) (g1 : Kd.F k30 W ok A1 x.f1.length x.f1) : Kd.FK k71 W ok x [.slice A0 x.f0.length c0,.slice A1 x.f1.length c1]:=fun W2 hW=>k71_mk W2 x l0 (g0 W2 hW) l1 (g1 W2 hW)
def z3F (xs : List S71) (i : Int) : S71:=xs.getD i.toNat z71
theorem at_T71 {w : World} {A : Option Addr} {n : Nat} {xs : List S71} (h : Kd.C k71 w A n xs) (i : Int) (h0 : 0 ≤ i) (h1 : i < n) : ∃ ad A0 c0 A1 c1,A = some ad ∧ w.cell? (ad.add (i.toNat * 2)) = some (.slice A0 (z3F xs i).f0.length c0) ∧ w.cell? ⟨(ad.add (i.toNat * 2)).block,(ad.add (i.toNat * 2)).off + 1,none⟩ = some (.slice A1 (z3F xs i).f1.length c1) ∧ (z3F xs i).f0.length ≤ c0 ∧ Kd.bool.C w A0 (z3F xs i).f0.length (z3F xs i).f0 ∧ (z3F xs i).f1.length ≤ c1 ∧ k30.C w A1 (z3F xs i).f1.length (z3F xs i).f1:=by
 obtain ⟨ad,c,e,_,hK,hc0⟩:=Kd.z3K h z71 i h0 h1
 have hc : ∀ j u,c[j]? = some u → w.cell? (ad.add (i.toNat * 2 + j)) = some u:=hc0
 obtain ⟨A0,c0,A1,c1,rfl,l0,g0,l1,g1⟩:=z3P hK
 exact ⟨ad,A0,c0,A1,c1,e,hc 0 _ rfl,by rw [← z1U _ _ 1 (by omega)];exact hc 1 _ rfl,l0,g0,l1,g1⟩
structure S89 where
 f0 : (List S30)
 f1 : (List S30)
 f2 : (List S30)
def z89 : S89:=⟨([] : List S30),([] : List S30),([] : List S30)⟩
def k89 : Kd S89:=Kd.iso (Kd.pair (Kd.slice 30 k30) (Kd.pair (Kd.slice 30 k30) (Kd.slice 30 k30))) (fun x : S89=>(x.f0,x.f1,x.f2))
theorem k89_heap : Kd.Heap k89:=Kd.z2E _ (Kd.z20 (Kd.z2A 30 z3j) (Kd.z20 (Kd.z2A 30 z3j) (Kd.z2A 30 z3j)))
theorem z3u {w : World} {x : S89} {cs : List Value} (h : k89.K w x cs) : ∃ A0 c0 A1 c1 A2 c2,cs = [.slice A0 x.f0.length c0,.slice A1 x.f1.length c1,.slice A2 x.f2.length c2] ∧ x.f0.length ≤ c0 ∧ k30.C w A0 x.f0.length x.f0 ∧ x.f1.length ≤ c1 ∧ k30.C w A1 x.f1.length x.f1 ∧ x.f2.length ≤ c2 ∧ k30.C w A2 x.f2.length x.f2:=by
 obtain ⟨_,_,rfl,⟨A0,c0,rfl,l0,g0⟩,⟨_,_,rfl,⟨A1,c1,rfl,l1,g1⟩,⟨A2,c2,rfl,l2,g2⟩⟩⟩:=h
 exact ⟨A0,c0,A1,c1,A2,c2,rfl,l0,g0,l1,g1,l2,g2⟩
theorem k89_openM {w : World} {base : Nat} {ok : Nat → Prop} {x : S89} {cs : List Value} (h : k89.M w base ok x cs) : ∃ v0 v1 v2,cs = [v0,v1,v2] ∧ k30.R 30 w base ok v0 x.f0 ∧ k30.R 30 w base ok v1 x.f1 ∧ k30.R 30 w base ok v2 x.f2:=by
 obtain ⟨_,_,rfl,⟨v0,rfl,g0⟩,⟨_,_,rfl,⟨v1,rfl,g1⟩,⟨v2,rfl,g2⟩⟩⟩:=h
 exact ⟨v0,v1,v2,rfl,g0,g1,g2⟩
theorem k89_mk (w : World) (x : S89) {A0 : Option Addr} {c0 : Nat} (l0 : x.f0.length ≤ c0) (g0 : k30.C w A0 x.f0.length x.f0) {A1 : Option Addr} {c1 : Nat} (l1 : x.f1.length ≤ c1) (g1 : k30.C w A1 x.f1.length x.f1) {A2 : Option Addr} {c2 : Nat} (l2 : x.f2.length ≤ c2) (g2 : k30.C w A2 x.f2.length x.f2) : k89.K w x [.slice A0 x.f0.length c0,.slice A1 x.f1.length c1,.slice A2 x.f2.length c2]:=⟨[.slice A0 x.f0.length c0],[.slice A1 x.f1.length c1,.slice A2 x.f2.length c2],rfl,⟨A0,c0,rfl,l0,g0⟩,⟨[.slice A1 x.f1.length c1],[.slice A2 x.f2.length c2],rfl,⟨A1,c1,rfl,l1,g1⟩,⟨A2,c2,rfl,l2,g2⟩⟩⟩
theorem k89_mkM (w : World) (base : Nat) (ok : Nat → Prop) (x : S89) {v0 : Value} (g0 : k30.R 30 w base ok v0 x.f0) {v1 : Value} (g1 : k30.R 30 w base ok v1 x.f1) {v2 : Value} (g2 : k30.R 30 w base ok v2 x.f2) : k89.M w base ok x [v0,v1,v2]:=⟨[v0],[v1,v2],rfl,⟨v0,rfl,g0⟩,⟨[v1],[v2],rfl,⟨v1,rfl,g1⟩,⟨v2,rfl,g2⟩⟩⟩
theorem k89_openF {W : World} {ok : Nat → Prop} {x : S89} {cs : List Value} (h : Kd.FK k89 W ok x cs) : ∃ A0 c0 A1 c1 A2 c2,cs = [.slice A0 x.f0.length c0,.slice A1 x.f1.length c1,.slice A2 x.f2.length c2] ∧ x.f0.length ≤ c0 ∧ Kd.F k30 W ok A0 x.f0.length x.f0 ∧ x.f1.length ≤ c1 ∧ Kd.F k30 W ok A1 x.f1.length x.f1 ∧ x.f2.length ≤ c2 ∧ Kd.F k30 W ok A2 x.f2.length x.f2:=by
 obtain ⟨A0,c0,A1,c1,A2,c2,rfl,l0,_,l1,_,l2,_⟩:=z3u (Kd.z5h h)
 exact ⟨A0,c0,A1,c1,A2,c2,rfl,l0,(fun W' hW=>by obtain ⟨A0_,c0_,A1_,c1_,A2_,c2_,he,l0_,g0_,l1_,g1_,l2_,g2_⟩:=z3u (h W' hW);injection (Option.some.inj (show some (Value.slice A0 x.f0.length c0) = some (Value.slice A0_ x.f0.length c0_) from congrArg (fun l=>l[0]?) he)) with ha_ _ _;rw [ha_];exact g0_),l1,(fun W' hW=>by obtain ⟨A0_,c0_,A1_,c1_,A2_,c2_,he,l0_,g0_,l1_,g1_,l2_,g2_⟩:=z3u (h W' hW);injection (Option.some.inj (show some (Value.slice A1 x.f1.length c1) = some (Value.slice A1_ x.f1.length c1_) from congrArg (fun l=>l[1]?) he)) with ha_ _ _;rw [ha_];exact g1_),l2,(fun W' hW=>by obtain ⟨A0_,c0_,A1_,c1_,A2_,c2_,he,l0_,g0_,l1_,g1_,l2_,g2_⟩:=z3u (h W' hW);injection (Option.some.inj (show some (Value.slice A2 x.f2.length c2) = some (Value.slice A2_ x.f2.length c2_) from congrArg (fun l=>l[2]?) he)) with ha_ _ _;rw [ha_];exact g2_)⟩
theorem k89_mkF (W : World) (ok : Nat → Prop) (x : S89) {A0 : Option Addr} {c0 : Nat} (l0 : x.f0.length ≤ c0) (g0 : Kd.F k30 W ok A0 x.f0.length x.f0) {A1 : Option Addr} {c1 : Nat} (l1 : x.f1.length ≤ c1) (g1 : Kd.F k30 W ok A1 x.f1.length x.f1) {A2 : Option Addr} {c2 : Nat} (l2 : x.f2.length ≤ c2) (g2 : Kd.F k30 W ok A2 x.f2.length x.f2) : Kd.FK k89 W ok x [.slice A0 x.f0.length c0,.slice A1 x.f1.length c1,.slice A2 x.f2.length c2]:=fun W2 hW=>k89_mk W2 x l0 (g0 W2 hW) l1 (g1 W2 hW) l2 (g2 W2 hW)
def z32 (xs : List S89) (i : Int) : S89:=xs.getD i.toNat z89
theorem at_T89 {w : World} {A : Option Addr} {n : Nat} {xs : List S89} (h : Kd.C k89 w A n xs) (i : Int) (h0 : 0 ≤ i) (h1 : i < n) : ∃ ad A0 c0 A1 c1 A2 c2,A = some ad ∧ w.cell? (ad.add (i.toNat * 3)) = some (.slice A0 (z32 xs i).f0.length c0) ∧ w.cell? ⟨(ad.add (i.toNat * 3)).block,(ad.add (i.toNat * 3)).off + 1,none⟩ = some (.slice A1 (z32 xs i).f1.length c1) ∧ w.cell? ⟨(ad.add (i.toNat * 3)).block,(ad.add (i.toNat * 3)).off + 2,none⟩ = some (.slice A2 (z32 xs i).f2.length c2) ∧ (z32 xs i).f0.length ≤ c0 ∧ k30.C w A0 (z32 xs i).f0.length (z32 xs i).f0 ∧ (z32 xs i).f1.length ≤ c1 ∧ k30.C w A1 (z32 xs i).f1.length (z32 xs i).f1 ∧ (z32 xs i).f2.length ≤ c2 ∧ k30.C w A2 (z32 xs i).f2.length (z32 xs i).f2:=by
 obtain ⟨ad,c,e,_,hK,hc0⟩:=Kd.z3K h z89 i h0 h1
 have hc : ∀ j u,c[j]? = some u → w.cell? (ad.add (i.toNat * 3 + j)) = some u:=hc0
 obtain ⟨A0,c0,A1,c1,A2,c2,rfl,l0,g0,l1,g1,l2,g2⟩:=z3u hK
 exact ⟨ad,A0,c0,A1,c1,A2,c2,e,hc 0 _ rfl,by rw [← z1U _ _ 1 (by omega)];exact hc 1 _ rfl,by rw [← z1U _ _ 2 (by omega)];exact hc 2 _ rfl,l0,g0,l1,g1,l2,g2⟩
end Go.Proofs.Ytkhmpaooinpfoaa.P
namespace Go.Proofs.Ytkhmpaooinpfoaa.P
open Go.RowKit Go.Proofs.YtkhmpaooinpfoaaW.PrintWords Go.Proofs.YtkhmpaooinpfoaaW.PrintLast Go.Proofs.YtkhmpaooinpfoaaW.PrintMore
attribute [local go_sem] z17 z19 z1j z1k zZ z10 z18 z1a   -- for this text's walks alone
set_option linter.unusedVariables false
set_option linter.unusedSimpArgs false
def zy.l0 : Nat → List (S30) → List (S40) → Int → Option ((List (S40)))
 | 0,_,_,_=>none
 | k + 1,x0,x3,x4=>if x4 < (x0.length : Int) then (if 0 ≤ x4 then (if x3.length < 8796093022208 then (zy.l0 k x0 (x3 ++ [(⟨(zq x0 x4).f0,(zq x0 x4).f1⟩ : S40)]) (wrap64 (x4 + 1))) else (none)) else (none)) else (some x3)
def zy.f (k : Nat) (l0 : List (S30)) : Option ((List (S40))):=zy.l0 k l0 ([] : List (S40)) 0
theorem zy.z1b : ∀ k,(∀ y0 y1 y2,LeO (zy.l0 k y0 y1 y2) (zy.l0 (k + 1) y0 y1 y2))
 | 0=>fun _ _ _ r h=>by simp [zy.l0] at h
 | k + 1=>by
  have ih0:=zy.z1b k
  · intro y0 y1 y2
    unfold zy.l0
    repeat' first
    | (with_reducible exact ih0 _ _ _)
    | (with_reducible exact LeO.refl _)
    | (with_reducible exact LeO.none _)
    | (with_reducible refine LeO.ite ?_ ?_)
    | (with_reducible refine LeO.bind ?_ (fun _=>?_))
    | exact ih0 _ _ _
    | exact LeO.none _
    | refine LeO.ite ?_ ?_
    | refine LeO.bind ?_ (fun _=>?_)
theorem zy.mono : ∀ a0 k,LeO (zy.f k a0) (zy.f (k + 1) a0):=by
 intro a0 k
 have ih0:=zy.z1b k
 unfold zy.f
 repeat' first
  | (with_reducible exact ih0 _ _ _)
  | (with_reducible exact LeO.refl _)
  | (with_reducible exact LeO.none _)
  | (with_reducible refine LeO.ite ?_ ?_)
  | (with_reducible refine LeO.bind ?_ (fun _=>?_))
  | exact ih0 _ _ _
  | exact LeO.none _
  | refine LeO.ite ?_ ?_
  | refine LeO.bind ?_ (fun _=>?_)
set_option maxHeartbeats 8000000 in
set_option maxRecDepth 100000 in
theorem zy.calls (k : Nat) (A0 : Option Addr) (c0 : Nat) (l0 : List (S30)) (r : List (S40)) (w : World) (hr0 : Kd.C k30 w A0 l0.length l0) (hc0 : l0.length ≤ c0) (h : zy.f k l0 = some r) :
 Calls Try.prog 14 #[.slice A0 l0.length c0] w fun e w'=>∃ v0_ : Value,e = .returned (v0_) ∧ Kd.R k40 40 w' w.heap.size (fun _=>True) v0_ r ∧ Below w.heap.size w w':=by
 have hu30:=Try.underlying30
 have HR0:=z2.mk hr0
 have HC0:=z2.mk hc0
 clear hr0 hc0
 have HB:=z2.mk (Below.refl w.heap.size w)
 have H : (zy.l0 k l0 ([] : List (S40)) 0) = some r:=h
 clear h
 have H':=z2.mk H
 clear H
 go_enter Try.func14,Try.ntmps14
 go_wp2
 go_loopg [3,4] k (fun kq v3 v4 w'=>∃ (x3_1 : List (S40)) (x4_1 : Int),v4 = .int .i64 x4_1 ∧ z2 (zy.l0 kq l0 x3_1 x4_1 = some r) ∧ z2 (kq ≤ k) ∧ z2 (Kd.R k40 40 w' w.heap.size (fun _=>True) v3 x3_1) ∧ z2 (Below w.heap.size w w'))
 case atStart=>exact ⟨(([] : List (S40))),(0),(by first|rfl|(simp;done)|(simp [*];done)),H',⟨Nat.le_refl _⟩,⟨by first|exact Kd.z25 _ _ _ _ _|exact Kd.z2i _ _ _ _ _|exact Kd.z2l _ _ _ _ _|exact Kd.z2j _ _ _ _ _|exact Kd.z2k _ _ _ _ _⟩,⟨by repeat (first|(with_reducible first|exact HB.out|apply z4|apply z1|apply z3)|exact HB.out)⟩⟩
 case round =>
  clear H'
  (try clear c1)
  obtain ⟨x3_1,x4_1,rfl,HA,HK1,HO_3,HB⟩:=hrel
  cases gk with
  | zero=>exact absurd HA.out (by simp [zy.l0])
  | succ k1 =>
   have H:=HA.out
   clear HA
   simp only [zy.l0] at H
   by_cases c2 : x4_1 < (l0.length : Int)
   rotate_left
   · rw [if_neg c2] at H
     have c2b0 : decide (x4_1 < (l0.length : Int)) = false:=decide_eq_false c2
     clear c2
     obtain rfl:=Option.some.inj H
     go_wp2
     go_ret
     exact ⟨_,by first|rfl|(simp [zh,zi] <;> rfl)|(simp [*,zh,zi] <;> rfl),by (with_reducible repeat (first|apply Kd.zj|apply Kd.zk|apply Kd.zo));exact HO_3.out,by repeat (first|(with_reducible first|exact HB.out|apply z4|apply z1|apply z3)|exact HB.out)⟩
   rw [if_pos c2] at H
   have c2b0 : decide (x4_1 < (l0.length : Int)) = true:=decide_eq_true c2
   clear c2
   by_cases c3 : 0 ≤ x4_1
   rotate_left
   · rw [if_neg c3] at H
     exact absurd H (by simp)
   rw [if_pos c3] at H
   have c3b0 : decide (0 ≤ x4_1) = true:=decide_eq_true c3
   clear c3
   by_cases c4 : x3_1.length < 8796093022208
   rotate_left
   · rw [if_neg c4] at H
     exact absurd H (by simp)
   rw [if_pos c4] at H
   have LMc4:=z2.mk c4
   clear c4
   obtain ⟨y102,hy102⟩ : ∃ y_ : List (S40),y_ = (x3_1 ++ [(⟨(zq l0 x4_1).f0,(zq l0 x4_1).f1⟩ : S40)]):=⟨_,rfl⟩
   replace H : (zy.l0 k1 l0 y102 (wrap64 (x4_1 + 1))) = some r:=by first|(rw [hy102];with_reducible exact H)|(have H2_:=(Option.bind_some _ _).symm.trans H;rw [hy102];with_reducible exact H2_)|(have H2_:=(Option.bind_some _ _).symm.trans H;with_reducible exact H2_)|with_reducible exact H|(rw [hy102];exact H)|exact H
   have Ny102:=z2.mk hy102
   clear hy102
   have H':=z2.mk H
   clear H
   have p101 : 0 ≤ (x4_1 : Int):=of_decide_eq_true (by first|(with_reducible assumption)|assumption)
   have q101 : x4_1 < (l0.length : Int):=of_decide_eq_true (by first|(with_reducible assumption)|assumption)
   obtain ⟨ad101,e101,hx101_0,hx101_1⟩:=z2o HR0.out x4_1 p101 q101
   cases e101
   replace hx101_0:=(HB.out.cell (World.block_lt_of_cell? w _ hx101_0)).trans hx101_0
   replace hx101_1:=(HB.out.cell (World.block_lt_of_cell? w _ hx101_1)).trans hx101_1
   replace p101:=eq_true p101
   replace q101:=eq_true q101
   go_wp2_with (first|((with_reducible refine z1I (b:=.append) (xs:=#[.tmp 11,.tmp 16]) rfl ?_);at_builtin;refine Kd.z2w k40 (w0:=w) w.heap.size rfl (.tmp 11) (.tmp 16) 36 40 (.agg #[(.int .u64 0),(.int .u64 0)]) 16 rfl Try.underlying36 info40 rfl (by decide) (by omega) u3 x3_1 (⟨(zq l0 x4_1).f0,(zq l0 x4_1).f1⟩ : S40) [.int .u64 ((zq l0 x4_1).f0),.int .u64 ((zq l0 x4_1).f1)] (fun _=>True) (fun _=>False) rfl rfl ?aP (fun _ hk=>hk.elim) ?aF ?aO ?aB ?aS ?aL ?_;(case aP=>exact z3C _ _ _ (⟨(zq l0 x4_1).f0,(zq l0 x4_1).f1⟩ : S40));(case aB=>exact (by repeat (first|(with_reducible first|exact HB.out|apply z4|apply z1|apply z3)|exact HB.out)));(case aF=>exact (fun _ _=>trivial));(case aO=>exact (by (with_reducible repeat (first|apply Kd.zj|apply Kd.zk|apply Kd.zo));exact HO_3.out));(case aS=>exact (zc (by repeat (first|(with_reducible first|exact HB.out|apply z4|apply z1|apply z3)|exact HB.out))));(case aL=>have:=LMc4.out;omega);intro v103 w5 ho hb hg hat;rw [← Ny102.out] at ho;have n0_:=z2.mk (hb);have n1_:=z2.mk (ho);clear HB;clear HO_3;have HB:=n0_;have HO104:=n1_;clear n0_ n1_;clear ho hb hg hat))
   go_roundg k1
   case measure=>have:=HK1.out;omega
   case rel=>exact ⟨(y102),(wrap64 (x4_1 + 1)),(by first|rfl|(simp;done)|(simp [*];done)),H',⟨by have:=HK1.out;omega⟩,⟨by (with_reducible repeat (first|apply Kd.zj|apply Kd.zk|apply Kd.zo));exact HO104.out⟩,⟨by repeat (first|(with_reducible first|exact HB.out|apply z4|apply z1|apply z3)|exact HB.out)⟩⟩
end Go.Proofs.Ytkhmpaooinpfoaa.P
namespace Go.Proofs.Ytkhmpaooinpfoaa.P
open Go.RowKit Go.Proofs.YtkhmpaooinpfoaaW.PrintWords Go.Proofs.YtkhmpaooinpfoaaW.PrintLast Go.Proofs.YtkhmpaooinpfoaaW.PrintMore
attribute [local go_sem] z17 z19 z1j z1k zZ z10 z18 z1a   -- for this text's walks alone
set_option linter.unusedVariables false
set_option linter.unusedSimpArgs false
def zK.l0 : Nat → List (List (S30)) → Int → Int → Option (Bool)
 | 0,_,_,_=>none
 | k + 1,x0,x2,x7=>if x7 < (x0.length : Int) then (if 0 ≤ x7 then (if ((z1g x0 x7).length : Int) > x2 then (some false) else (zK.l0 k x0 x2 (wrap64 (x7 + 1)))) else (none)) else (some true)
def zK.f (k : Nat) (l0 : List (List (S30))) (a1 : Int) (a2 : Int) : Option (Bool):=if (l0.length : Int) > a1 then (some false) else (zK.l0 k l0 a2 0)
theorem zK.z1b : ∀ k,(∀ y0 y1 y2,LeO (zK.l0 k y0 y1 y2) (zK.l0 (k + 1) y0 y1 y2))
 | 0=>fun _ _ _ r h=>by simp [zK.l0] at h
 | k + 1=>by
  have ih0:=zK.z1b k
  · intro y0 y1 y2
    unfold zK.l0
    repeat' first
    | (with_reducible exact ih0 _ _ _)
    | (with_reducible exact LeO.refl _)
    | (with_reducible exact LeO.none _)
    | (with_reducible refine LeO.ite ?_ ?_)
    | (with_reducible refine LeO.bind ?_ (fun _=>?_))
    | exact ih0 _ _ _
    | exact LeO.none _
    | refine LeO.ite ?_ ?_
    | refine LeO.bind ?_ (fun _=>?_)
theorem zK.mono : ∀ a0 a1 a2 k,LeO (zK.f k a0 a1 a2) (zK.f (k + 1) a0 a1 a2):=by
 intro a0 a1 a2 k
 have ih0:=zK.z1b k
 unfold zK.f
 repeat' first
  | (with_reducible exact ih0 _ _ _)
  | (with_reducible exact LeO.refl _)
  | (with_reducible exact LeO.none _)
  | (with_reducible refine LeO.ite ?_ ?_)
  | (with_reducible refine LeO.bind ?_ (fun _=>?_))
  | exact ih0 _ _ _
  | exact LeO.none _
  | refine LeO.ite ?_ ?_
  | refine LeO.bind ?_ (fun _=>?_)
set_option maxHeartbeats 8000000 in
set_option maxRecDepth 100000 in
theorem zK.calls (k : Nat) (A0 : Option Addr) (c0 : Nat) (l0 : List (List (S30))) (a1 : Int) (a2 : Int) (r : Bool) (w : World) (hr0 : Kd.C (Kd.slice 30 k30) w A0 l0.length l0) (hc0 : l0.length ≤ c0) (h : zK.f k l0 a1 a2 = some r) :
 Calls Try.prog 18 #[.slice A0 l0.length c0,.int .i64 a1,.int .i64 a2] w fun e w'=>e = .returned (.bool r) ∧ Drawn0 w w':=by
 have HR0:=z2.mk hr0
 have HC0:=z2.mk hc0
 clear hr0 hc0
 have H : (if (l0.length : Int) > a1 then (some false) else (zK.l0 k l0 a2 0)) = some r:=h
 clear h
 by_cases c4 : (l0.length : Int) > a1
 · rw [if_pos c4] at H
   have c4b0 : decide (a1 < (l0.length : Int)) = true:=decide_eq_true c4
   clear c4
   obtain rfl:=Option.some.inj H
   go_enter Try.func18,Try.ntmps18
   go_wp2
   go_ret
   exact ⟨by first|rfl|(simp;done)|(simp [*];done),by repeat (first|exact Drawn0.refl _|apply Drawn0.step)⟩
 rw [if_neg c4] at H
 have c4b0 : decide (a1 < (l0.length : Int)) = false:=decide_eq_false c4
 clear c4
 have H':=z2.mk H
 clear H
 go_enter Try.func18,Try.ntmps18
 go_wp2
 go_loopg [7] k (fun kq v7 w'=>∃ (x7_1 : Int),v7 = .int .i64 x7_1 ∧ z2 (zK.l0 kq l0 a2 x7_1 = some r) ∧ z2 (kq ≤ k) ∧ Drawn0 w w')
 case atStart=>exact ⟨(0),(by first|rfl|(simp;done)|(simp [*];done)),H',⟨Nat.le_refl _⟩,by repeat (first|exact Drawn0.refl _|apply Drawn0.step)⟩
 case round =>
  clear H'
  (try clear c1);(try clear p2);(try clear c4);(try clear c4b0)
  obtain ⟨x7_1,rfl,HA,HK1,⟨m1,rfl⟩⟩:=hrel
  cases gk with
  | zero=>exact absurd HA.out (by simp [zK.l0])
  | succ k1 =>
   have H:=HA.out
   clear HA
   simp only [zK.l0] at H
   by_cases c5 : x7_1 < (l0.length : Int)
   rotate_left
   · rw [if_neg c5] at H
     have c5b0 : decide (x7_1 < (l0.length : Int)) = false:=decide_eq_false c5
     clear c5
     obtain rfl:=Option.some.inj H
     go_wp2
     go_ret
     exact ⟨by first|rfl|(simp;done)|(simp [*];done),by repeat (first|exact Drawn0.refl _|apply Drawn0.step)⟩
   rw [if_pos c5] at H
   have c5b0 : decide (x7_1 < (l0.length : Int)) = true:=decide_eq_true c5
   clear c5
   by_cases c6 : 0 ≤ x7_1
   rotate_left
   · rw [if_neg c6] at H
     exact absurd H (by simp)
   rw [if_pos c6] at H
   have c6b0 : decide (0 ≤ x7_1) = true:=decide_eq_true c6
   clear c6
   by_cases c7 : ((z1g l0 x7_1).length : Int) > a2
   · rw [if_pos c7] at H
     have c7b0 : decide (a2 < ((z1g l0 x7_1).length : Int)) = true:=decide_eq_true c7
     clear c7
     obtain rfl:=Option.some.inj H
     have p101 : 0 ≤ (x7_1 : Int):=of_decide_eq_true (by first|(with_reducible assumption)|assumption)
     have q101 : x7_1 < (l0.length : Int):=of_decide_eq_true (by first|(with_reducible assumption)|assumption)
     obtain ⟨ad101,A101_0,c101_0,e101,hx101_0,hl101_0,hi101_0⟩:=z3s HR0.out x7_1 p101 q101
     cases e101
     have HR101_0:=z2.mk hi101_0
     have HC101_0:=z2.mk hl101_0
     clear hi101_0 hl101_0
     replace p101:=eq_true p101
     replace q101:=eq_true q101
     go_wp2
     go_ret
     exact ⟨by first|rfl|(simp;done)|(simp [*];done),by repeat (first|exact Drawn0.refl _|apply Drawn0.step)⟩
   rw [if_neg c7] at H
   have c7b0 : decide (a2 < ((z1g l0 x7_1).length : Int)) = false:=decide_eq_false c7
   clear c7
   have H':=z2.mk H
   clear H
   have p101 : 0 ≤ (x7_1 : Int):=of_decide_eq_true (by first|(with_reducible assumption)|assumption)
   have q101 : x7_1 < (l0.length : Int):=of_decide_eq_true (by first|(with_reducible assumption)|assumption)
   obtain ⟨ad101,A101_0,c101_0,e101,hx101_0,hl101_0,hi101_0⟩:=z3s HR0.out x7_1 p101 q101
   cases e101
   have HR101_0:=z2.mk hi101_0
   have HC101_0:=z2.mk hl101_0
   clear hi101_0 hl101_0
   replace p101:=eq_true p101
   replace q101:=eq_true q101
   go_wp2
   go_roundg k1
   case measure=>have:=HK1.out;omega
   case rel=>exact ⟨(wrap64 (x7_1 + 1)),(by first|rfl|(simp;done)|(simp [*];done)),H',⟨by have:=HK1.out;omega⟩,by repeat (first|exact Drawn0.refl _|apply Drawn0.step)⟩
end Go.Proofs.Ytkhmpaooinpfoaa.P
namespace Go.Proofs.Ytkhmpaooinpfoaa.P
open Go.RowKit Go.Proofs.YtkhmpaooinpfoaaW.PrintWords Go.Proofs.YtkhmpaooinpfoaaW.PrintLast Go.Proofs.YtkhmpaooinpfoaaW.PrintMore
attribute [local go_sem] z17 z19 z1j z1k zZ z10 z18 z1a   -- for this text's walks alone
set_option linter.unusedVariables false
set_option linter.unusedSimpArgs false
theorem eqA30 (d : Nat) (w : World) (x0 y0 : Int) (x1 y1 : Int) :
 (Op.equalIn (d + 2) 30 (.agg #[.int .u64 x0,.int .u64 x1]) (.agg #[.int .u64 y0,.int .u64 y1])).run Try.prog w = .ok (x0 == y0 && (x1 == y1)) w:=by
 refine eqA_of Try.underlying30 (by kernel_rfl) ?_
 refine z64 (by rfl) (by go_simp;rfl) (by go_simp;rfl) (by go_simp) ?_
 exact z65 (by rfl) (by go_simp;rfl) (by go_simp;rfl) (by go_simp)
end Go.Proofs.Ytkhmpaooinpfoaa.P
namespace Go.Proofs.Ytkhmpaooinpfoaa.P
open Go.RowKit Go.Proofs.YtkhmpaooinpfoaaW.PrintWords Go.Proofs.YtkhmpaooinpfoaaW.PrintLast Go.Proofs.YtkhmpaooinpfoaaW.PrintMore
attribute [local go_sem] z17 z19 z1j z1k zZ z10 z18 z1a   -- for this text's walks alone
set_option linter.unusedVariables false
set_option linter.unusedSimpArgs false
def z1D.f (a0_0 : Int) (a0_1 : Int) (a1_0 : Int) (a1_1 : Int) : Option (Int × Int):=some (Go.bits .xor .u64 a0_0 a1_0,Go.bits .xor .u64 a0_1 a1_1)
set_option maxHeartbeats 8000000 in
set_option maxRecDepth 100000 in
theorem z1D.calls (a0_0 : Int) (a0_1 : Int) (a1_0 : Int) (a1_1 : Int) (r1 : Int) (r2 : Int) (w : World) (h : z1D.f a0_0 a0_1 a1_0 a1_1 = some (r1,r2)) :
 Calls Try.prog 64 #[.agg #[.int .u64 a0_0,.int .u64 a0_1],.agg #[.int .u64 a1_0,.int .u64 a1_1]] w fun e w'=>e = .returned (.agg #[.int .u64 r1,.int .u64 r2]) ∧ Below w.heap.size w w':=by
 have hu30:=Try.underlying30
 have HB:=z2.mk (Below.refl w.heap.size w)
 have H : (some (Go.bits .xor .u64 a0_0 a1_0,Go.bits .xor .u64 a0_1 a1_1)) = some (r1,r2):=h
 clear h
 simp only [Option.some.injEq,Prod.mk.injEq] at H
 obtain ⟨rfl,rfl⟩:=H
 go_enter Try.func64,Try.ntmps64
 go_wp2_with (first|((with_reducible refine zO (N:=2) rfl ?_);refine zM ?hg (N:=2) ?hd (cs:=#[.int .u64 a0_0,.int .u64 a0_1]) (t:=30) ?hr ?_;(case hd=>rfl);(case hg=>rfl);(case hr=>first|(go_simp;done)|(go_simp;rfl));intro gb101 hg w3 hbox hb;have n0_:=z2.mk (za (by repeat (first|(with_reducible first|exact HB.out|apply z4|apply z1|apply z3)|exact HB.out)) hb);have n1_:=z2.mk (hbox);have n2_:=z2.mk ((by rw [hg];exact (zc (by repeat (first|(with_reducible first|exact HB.out|apply z4|apply z1|apply z3)|exact HB.out))) : w.heap.size ≤ gb101));have n3_:=z2.mk ((by rw [hg];exact (zc (by repeat (first|(with_reducible first|exact HB.out|apply z4|apply z1|apply z3)|exact HB.out))) : w.heap.size ≤ gb101));clear HB;have HB:=n0_;have BK101:=n1_;have GW101:=n2_;have GE101:=n3_;clear n0_ n1_ n2_ n3_;clear hb hbox hg)|((with_reducible refine zO (N:=3) rfl ?_);refine zM ?hg (N:=3) ?hd (cs:=#[.int .u64 a1_0,.int .u64 a1_1]) (t:=30) ?hr ?_;(case hd=>rfl);(case hg=>rfl);(case hr=>first|(go_simp;done)|(go_simp;rfl));intro gb102 hg w4 hbox hb;have n0_:=z2.mk (ze (g:=gb101) (o:=.cells #[.int .u64 a0_0,.int .u64 a0_1] 30 (0,0)) (by (with_reducible repeat (first|refine z6 ?_ _|refine z8 ?_|refine z5 ?_ _));exact BK101.out) hb);have n1_:=z2.mk (za (by repeat (first|(with_reducible first|exact HB.out|apply z4|apply z1|apply z3|refine z7 ?_ GE101.out)|exact HB.out)) hb);have n2_:=z2.mk (hbox);have n3_:=z2.mk ((by rw [hg];exact (zc (by repeat (first|(with_reducible first|exact HB.out|apply z4|apply z1|apply z3|refine z7 ?_ GE101.out)|exact HB.out))) : w.heap.size ≤ gb102));have n4_:=z2.mk ((by rw [hg];exact (zc (by repeat (first|(with_reducible first|exact HB.out|apply z4|apply z1|apply z3|refine z7 ?_ GE101.out)|exact HB.out))) : w.heap.size ≤ gb102));have n5_:=z2.mk ((by rw [hg];exact Nat.ne_of_lt (z11 (g:=gb101) (o:=.cells #[.int .u64 a0_0,.int .u64 a0_1] 30 (0,0)) (by (with_reducible repeat (first|refine z6 ?_ _|refine z8 ?_|refine z5 ?_ _));exact BK101.out)) : gb101 ≠ gb102));have n6_:=z2.mk ((by rw [hg];exact Nat.ne_of_gt (z11 (g:=gb101) (o:=.cells #[.int .u64 a0_0,.int .u64 a0_1] 30 (0,0)) (by (with_reducible repeat (first|refine z6 ?_ _|refine z8 ?_|refine z5 ?_ _));exact BK101.out)) : gb102 ≠ gb101));clear BK101;clear HB;have BK101:=n0_;have HB:=n1_;have BK102:=n2_;have GW102:=n3_;have GE102:=n4_;have NB101_102:=n5_;have NB102_101:=n6_;clear n0_ n1_ n2_ n3_ n4_ n5_ n6_;clear hb hbox hg)|((with_reducible refine zO (N:=4) rfl ?_);refine zM ?hg (N:=4) ?hd (cs:=#[.int .u64 0,.int .u64 0]) (t:=30) ?hr ?_;(case hd=>rfl);(case hg=>rfl);(case hr=>first|(go_simp;done)|(go_simp;rfl));intro gb103 hg w5 hbox hb;have n0_:=z2.mk (ze (g:=gb101) (o:=.cells #[.int .u64 a0_0,.int .u64 a0_1] 30 (0,0)) (by (with_reducible repeat (first|refine z6 ?_ _|refine z8 ?_|refine z5 ?_ _));exact BK101.out) hb);have n1_:=z2.mk (ze (g:=gb102) (o:=.cells #[.int .u64 a1_0,.int .u64 a1_1] 30 (0,0)) (by (with_reducible repeat (first|refine z6 ?_ _|refine z8 ?_|refine z5 ?_ _));exact BK102.out) hb);have n2_:=z2.mk (za (by repeat (first|(with_reducible first|exact HB.out|apply z4|apply z1|apply z3|refine z7 ?_ GE101.out|refine z7 ?_ GE102.out)|exact HB.out)) hb);have n3_:=z2.mk (hbox);have n4_:=z2.mk ((by rw [hg];exact (zc (by repeat (first|(with_reducible first|exact HB.out|apply z4|apply z1|apply z3|refine z7 ?_ GE101.out|refine z7 ?_ GE102.out)|exact HB.out))) : w.heap.size ≤ gb103));have n5_:=z2.mk ((by rw [hg];exact (zc (by repeat (first|(with_reducible first|exact HB.out|apply z4|apply z1|apply z3|refine z7 ?_ GE101.out|refine z7 ?_ GE102.out)|exact HB.out))) : w.heap.size ≤ gb103));have n6_:=z2.mk ((by rw [hg];exact Nat.ne_of_lt (z11 (g:=gb101) (o:=.cells #[.int .u64 a0_0,.int .u64 a0_1] 30 (0,0)) (by (with_reducible repeat (first|refine z6 ?_ _|refine z8 ?_|refine z5 ?_ _));exact BK101.out)) : gb101 ≠ gb103));have n7_:=z2.mk ((by rw [hg];exact Nat.ne_of_gt (z11 (g:=gb101) (o:=.cells #[.int .u64 a0_0,.int .u64 a0_1] 30 (0,0)) (by (with_reducible repeat (first|refine z6 ?_ _|refine z8 ?_|refine z5 ?_ _));exact BK101.out)) : gb103 ≠ gb101));have n8_:=z2.mk ((by rw [hg];exact Nat.ne_of_lt (z11 (g:=gb102) (o:=.cells #[.int .u64 a1_0,.int .u64 a1_1] 30 (0,0)) (by (with_reducible repeat (first|refine z6 ?_ _|refine z8 ?_|refine z5 ?_ _));exact BK102.out)) : gb102 ≠ gb103));have n9_:=z2.mk ((by rw [hg];exact Nat.ne_of_gt (z11 (g:=gb102) (o:=.cells #[.int .u64 a1_0,.int .u64 a1_1] 30 (0,0)) (by (with_reducible repeat (first|refine z6 ?_ _|refine z8 ?_|refine z5 ?_ _));exact BK102.out)) : gb103 ≠ gb102));clear BK101;clear BK102;clear HB;have BK101:=n0_;have BK102:=n1_;have HB:=n2_;have BK103:=n3_;have GW103:=n4_;have GE103:=n5_;have NB101_103:=n6_;have NB103_101:=n7_;have NB102_103:=n8_;have NB103_102:=n9_;clear n0_ n1_ n2_ n3_ n4_ n5_ n6_ n7_ n8_ n9_;clear hb hbox hg;have hnb6:=NB101_102.out;have hnc6:=NB102_101.out;have hnb7:=NB101_103.out;have hnc7:=NB103_101.out;have hcz8_0 : w5.cell? ⟨gb101,0,none⟩ = some (.int .u64 a0_0):=(z9 BK101.out 0).trans rfl;have hcz8_1 : w5.cell? ⟨gb101,1,none⟩ = some (.int .u64 a0_1):=(z9 BK101.out 1).trans rfl;have hfz8_0:=zd BK101.out 0;have hfz8_1:=zd BK101.out 1;have hnb9:=NB102_103.out;have hnc9:=NB103_102.out;have hcz10_0 : w5.cell? ⟨gb102,0,none⟩ = some (.int .u64 a1_0):=(z9 BK102.out 0).trans rfl;have hcz10_1 : w5.cell? ⟨gb102,1,none⟩ = some (.int .u64 a1_1):=(z9 BK102.out 1).trans rfl;have hfz10_0:=zd BK102.out 0;have hfz10_1:=zd BK102.out 1;have hcz11_0 : w5.cell? ⟨gb103,0,none⟩ = some (.int .u64 0):=(z9 BK103.out 0).trans rfl;have hcz11_1 : w5.cell? ⟨gb103,1,none⟩ = some (.int .u64 0):=(z9 BK103.out 1).trans rfl;have hfz11_0:=zd BK103.out 0;have hfz11_1:=zd BK103.out 1))
 refine bodyPost_ret (results_cell_row rfl _ _ gb103 30 #[.int .u64 (Go.bits .xor .u64 a0_0 a1_0),.int .u64 (Go.bits .xor .u64 a0_1 a1_1)] (0,0) _ rfl (by (with_reducible repeat (first|refine z6 ?_ _|refine z8 ?_|refine z5 ?_ _));refine z15 (cs:=#[.int .u64 (Go.bits .xor .u64 a0_0 a1_0),.int .u64 0]) ?_ 1 _ rfl;(with_reducible repeat (first|refine z6 ?_ _|refine z8 ?_|refine z5 ?_ _));refine z15 (cs:=#[.int .u64 0,.int .u64 0]) ?_ 0 _ rfl;(with_reducible repeat (first|refine z6 ?_ _|refine z8 ?_|refine z5 ?_ _));exact BK103.out) Try.underlying30 rfl (by kernel_rfl)) rfl ?_
 exact ⟨by first|rfl|(simp [zh,zi] <;> rfl)|(simp [*,zh,zi] <;> rfl),by repeat (first|(with_reducible first|exact HB.out|apply z4|apply z1|apply z3|refine z7 ?_ GE101.out|refine z7 ?_ GE102.out|refine z7 ?_ GE103.out)|exact HB.out)⟩
end Go.Proofs.Ytkhmpaooinpfoaa.P
namespace Go.Proofs.Ytkhmpaooinpfoaa.P
open Go.RowKit Go.Proofs.YtkhmpaooinpfoaaW.PrintWords Go.Proofs.YtkhmpaooinpfoaaW.PrintLast Go.Proofs.YtkhmpaooinpfoaaW.PrintMore
attribute [local go_sem] z17 z19 z1j z1k zZ z10 z18 z1a   -- for this text's walks alone
set_option linter.unusedVariables false
set_option linter.unusedSimpArgs false
def zP.j0 : Nat → Int → Bool → Int → Int → Option (Bool)
 | 0,_,_,_,_=>none
 | k + 1,x0,x5,x102000,x102001=>if x5 = true then (some false) else (if x0 = 7 then (some true) else (if x0 = 6 then (some (x102000 == 0)) else (if x102000 = 0 then (if 0 ≤ x0 then (some ((shr .u64 x102001 (shl .u64 1 x0)) == 0)) else (none)) else (some false))))
def zP.f (k : Nat) (a0 : Int) (a1_0 : Int) (a1_1 : Int) : Option (Bool):=if a0 < 0 then (zP.j0 k a0 true a1_0 a1_1) else (zP.j0 k a0 (decide (a0 > 7)) a1_0 a1_1)
theorem zP.z1b : ∀ k,(∀ y0 y1 y2 y3,LeO (zP.j0 k y0 y1 y2 y3) (zP.j0 (k + 1) y0 y1 y2 y3))
 | 0=>fun _ _ _ _ r h=>by simp [zP.j0] at h
 | k + 1=>by
  have ih0:=zP.z1b k
  · intro y0 y1 y2 y3
    unfold zP.j0
    repeat' first
    | (with_reducible exact ih0 _ _ _ _)
    | (with_reducible exact LeO.refl _)
    | (with_reducible exact LeO.none _)
    | (with_reducible refine LeO.ite ?_ ?_)
    | (with_reducible refine LeO.bind ?_ (fun _=>?_))
    | exact ih0 _ _ _ _
    | exact LeO.none _
    | refine LeO.ite ?_ ?_
    | refine LeO.bind ?_ (fun _=>?_)
theorem zP.mono : ∀ a0 a1 a2 k,LeO (zP.f k a0 a1 a2) (zP.f (k + 1) a0 a1 a2):=by
 intro a0 a1 a2 k
 have ih0:=zP.z1b k
 unfold zP.f
 repeat' first
  | (with_reducible exact ih0 _ _ _ _)
  | (with_reducible exact LeO.refl _)
  | (with_reducible exact LeO.none _)
  | (with_reducible refine LeO.ite ?_ ?_)
  | (with_reducible refine LeO.bind ?_ (fun _=>?_))
  | exact ih0 _ _ _ _
  | exact LeO.none _
  | refine LeO.ite ?_ ?_
  | refine LeO.bind ?_ (fun _=>?_)
set_option maxHeartbeats 8000000 in
set_option maxRecDepth 100000 in
theorem zP.calls (k : Nat) (a0 : Int) (a1_0 : Int) (a1_1 : Int) (r : Bool) (w : World) (h : zP.f k a0 a1_0 a1_1 = some r) :
 Calls Try.prog 81 #[.int .i64 a0,.agg #[.int .u64 a1_0,.int .u64 a1_1]] w fun e w'=>e = .returned (.bool r) ∧ Below w.heap.size w w':=by
 have hu30:=Try.underlying30
 have HB:=z2.mk (Below.refl w.heap.size w)
 have H : (if a0 < 0 then (zP.j0 k a0 true a1_0 a1_1) else (zP.j0 k a0 (decide (a0 > 7)) a1_0 a1_1)) = some r:=h
 clear h
 have HC3:=z2.mk H
 clear H
 go_enter Try.func81,Try.ntmps81
 go_upto_region 1 with (first|((with_reducible refine zO (N:=3) rfl ?_);refine zM ?hg (N:=3) ?hd (cs:=#[.int .u64 a1_0,.int .u64 a1_1]) (t:=30) ?hr ?_;(case hd=>rfl);(case hg=>rfl);(case hr=>first|(go_simp;done)|(go_simp;rfl));intro gb101 hg w4 hbox hb;have n0_:=z2.mk (za (by repeat (first|(with_reducible first|exact HB.out|apply z4|apply z1|apply z3)|exact HB.out)) hb);have n1_:=z2.mk (hbox);have n2_:=z2.mk ((by rw [hg];exact (zc (by repeat (first|(with_reducible first|exact HB.out|apply z4|apply z1|apply z3)|exact HB.out))) : w.heap.size ≤ gb101));have n3_:=z2.mk ((by rw [hg];exact (zc (by repeat (first|(with_reducible first|exact HB.out|apply z4|apply z1|apply z3)|exact HB.out))) : w.heap.size ≤ gb101));clear HB;have HB:=n0_;have BK101:=n1_;have GW101:=n2_;have GE101:=n3_;clear n0_ n1_ n2_ n3_;clear hb hbox hg))
 repeat (go_quiet (first|((with_reducible refine zO (N:=3) rfl ?_);refine zM ?hg (N:=3) ?hd (cs:=#[.int .u64 a1_0,.int .u64 a1_1]) (t:=30) ?hr ?_;(case hd=>rfl);(case hg=>rfl);(case hr=>first|(go_simp;done)|(go_simp;rfl));intro gb101 hg w4 hbox hb;have n0_:=z2.mk (za (by repeat (first|(with_reducible first|exact HB.out|apply z4|apply z1|apply z3)|exact HB.out)) hb);have n1_:=z2.mk (hbox);have n2_:=z2.mk ((by rw [hg];exact (zc (by repeat (first|(with_reducible first|exact HB.out|apply z4|apply z1|apply z3)|exact HB.out))) : w.heap.size ≤ gb101));have n3_:=z2.mk ((by rw [hg];exact (zc (by repeat (first|(with_reducible first|exact HB.out|apply z4|apply z1|apply z3)|exact HB.out))) : w.heap.size ≤ gb101));clear HB;have HB:=n0_;have BK101:=n1_;have GW101:=n2_;have GE101:=n3_;clear n0_ n1_ n2_ n3_;clear hb hbox hg));go_upto_region 1 with (first|((with_reducible refine zO (N:=3) rfl ?_);refine zM ?hg (N:=3) ?hd (cs:=#[.int .u64 a1_0,.int .u64 a1_1]) (t:=30) ?hr ?_;(case hd=>rfl);(case hg=>rfl);(case hr=>first|(go_simp;done)|(go_simp;rfl));intro gb101 hg w4 hbox hb;have n0_:=z2.mk (za (by repeat (first|(with_reducible first|exact HB.out|apply z4|apply z1|apply z3)|exact HB.out)) hb);have n1_:=z2.mk (hbox);have n2_:=z2.mk ((by rw [hg];exact (zc (by repeat (first|(with_reducible first|exact HB.out|apply z4|apply z1|apply z3)|exact HB.out))) : w.heap.size ≤ gb101));have n3_:=z2.mk ((by rw [hg];exact (zc (by repeat (first|(with_reducible first|exact HB.out|apply z4|apply z1|apply z3)|exact HB.out))) : w.heap.size ≤ gb101));clear HB;have HB:=n0_;have BK101:=n1_;have GW101:=n2_;have GE101:=n3_;clear n0_ n1_ n2_ n3_;clear hb hbox hg)))
 (try simp only [Act.put,List.setIfInBounds_toArray,List.set_cons_zero,List.set_cons_succ])
 go_cut [5] (fun v5 wc=>∃ (kq : Nat) (x5_2 : Bool),v5 = .bool x5_2 ∧ z2 (zP.j0 kq a0 x5_2 a1_0 a1_1 = some r) ∧ z2 (kq ≤ k) ∧ z2 (wc.heap[gb101]? = some (.cells #[.int .u64 a1_0,.int .u64 a1_1] 30 (0,0))) ∧ z2 (Below w.heap.size w wc))
 case first =>
  have H:=HC3.out
  clear HC3
  by_cases c5 : a0 < 0
  rotate_left
  · rw [if_neg c5] at H
    have c5b0 : decide (a0 < 0) = false:=decide_eq_false c5
    clear c5
    (first|rw [c5b0]|(simp only [zD,zG];rw [c5b0])|skip)
    have H':=z2.mk H
    clear H
    go_wp2
    repeat (go_quiet (fail);try go_wp2)
    go_meet
    case rel=>exact ⟨_,(decide (a0 > 7)),(by first|rfl|(simp;done)|(simp [*];done)),H',⟨by first|omega|exact Nat.le_refl _⟩,⟨by (with_reducible repeat (first|refine z6 ?_ _|refine z8 ?_|refine z5 ?_ _));exact BK101.out⟩,⟨by repeat (first|(with_reducible first|exact HB.out|apply z4|apply z1|apply z3|refine z7 ?_ GE101.out)|exact HB.out)⟩⟩
  rw [if_pos c5] at H
  have c5b0 : decide (a0 < 0) = true:=decide_eq_true c5
  clear c5
  (first|rw [c5b0]|(simp only [zD,zG];rw [c5b0])|skip)
  have H':=z2.mk H
  clear H
  go_wp2
  repeat (go_quiet (fail);try go_wp2)
  go_meet
  case rel=>exact ⟨_,(true),(by first|rfl|(simp;done)|(simp [*];done)),H',⟨by first|omega|exact Nat.le_refl _⟩,⟨by (with_reducible repeat (first|refine z6 ?_ _|refine z8 ?_|refine z5 ?_ _));exact BK101.out⟩,⟨by repeat (first|(with_reducible first|exact HB.out|apply z4|apply z1|apply z3|refine z7 ?_ GE101.out)|exact HB.out)⟩⟩
 case rest =>
  clear HC3
  (try clear p2);(try clear c5);(try clear c5b0)
  obtain ⟨kq,x5_2,rfl,HA,HJ2,BK101,HB⟩:=hcut
  cases kq with
  | zero=>exact absurd HA.out (by simp [zP.j0])
  | succ kj2 =>
   have H:=HA.out
   clear HA
   simp only [zP.j0] at H
   by_cases c6 : x5_2 = true
   · subst c6
     have H1 : (some false) = some r:=by rw [if_pos rfl] at H;exact H
     clear H
     have H:=H1
     clear H1
     obtain rfl:=Option.some.inj H
     go_wp2
     repeat (go_quiet (fail);try go_wp2)
     go_ret
     exact ⟨by first|rfl|(simp [zh,zi] <;> rfl)|(simp [*,zh,zi] <;> rfl),by repeat (first|(with_reducible first|exact HB.out|apply z4|apply z1|apply z3|refine z7 ?_ GE101.out)|exact HB.out)⟩
   replace c6:=Bool.eq_false_iff.mpr c6
   subst c6
   have H1 : (if a0 = 7 then (some true) else (if a0 = 6 then (some (a1_0 == 0)) else (if a1_0 = 0 then (if 0 ≤ a0 then (some ((shr .u64 a1_1 (shl .u64 1 a0)) == 0)) else (none)) else (some false)))) = some r:=by rw [if_neg (show ¬ (false = true) by decide)] at H;exact H
   clear H
   have H:=H1
   clear H1
   by_cases c7 : a0 = 7
   · rw [if_pos c7] at H
     have c7b0 : (a0 == 7) = true:=beq_iff_eq.mpr c7
     have c7b1 : (a0 != 7) = false:=bne_eq_false_iff_eq.mpr c7
     clear c7
     obtain rfl:=Option.some.inj H
     go_wp2
     repeat (go_quiet (fail);try go_wp2)
     go_ret
     exact ⟨by first|rfl|(simp [zh,zi] <;> rfl)|(simp [*,zh,zi] <;> rfl),by repeat (first|(with_reducible first|exact HB.out|apply z4|apply z1|apply z3|refine z7 ?_ GE101.out)|exact HB.out)⟩
   rw [if_neg c7] at H
   have c7b0 : (a0 == 7) = false:=beq_eq_false_iff_ne.mpr c7
   have c7b1 : (a0 != 7) = true:=bne_iff_ne.mpr c7
   by_cases c8 : a0 = 6
   · rw [if_pos c8] at H
     have c8b0 : (a0 == 6) = true:=beq_iff_eq.mpr c8
     have c8b1 : (a0 != 6) = false:=bne_eq_false_iff_eq.mpr c8
     clear c8
     obtain rfl:=Option.some.inj H
     have hcz9_0 : wc.cell? ⟨gb101,0,none⟩ = some (.int .u64 a1_0):=(z9 BK101.out 0).trans rfl
     have hcz9_1 : wc.cell? ⟨gb101,1,none⟩ = some (.int .u64 a1_1):=(z9 BK101.out 1).trans rfl
     have hfz9_0:=zd BK101.out 0
     have hfz9_1:=zd BK101.out 1
     go_wp2
     repeat (go_quiet (fail);try go_wp2)
     go_ret
     exact ⟨by first|rfl|(simp [zh,zi] <;> rfl)|(simp [*,zh,zi] <;> rfl),by repeat (first|(with_reducible first|exact HB.out|apply z4|apply z1|apply z3|refine z7 ?_ GE101.out)|exact HB.out)⟩
   rw [if_neg c8] at H
   have c8b0 : (a0 == 6) = false:=beq_eq_false_iff_ne.mpr c8
   have c8b1 : (a0 != 6) = true:=bne_iff_ne.mpr c8
   by_cases c10 : a1_0 = 0
   rotate_left
   · rw [if_neg c10] at H
     have c10b0 : (a1_0 == 0) = false:=beq_eq_false_iff_ne.mpr c10
     have c10b1 : (a1_0 != 0) = true:=bne_iff_ne.mpr c10
     obtain rfl:=Option.some.inj H
     have hcz15_0 : wc.cell? ⟨gb101,0,none⟩ = some (.int .u64 a1_0):=(z9 BK101.out 0).trans rfl
     have hcz15_1 : wc.cell? ⟨gb101,1,none⟩ = some (.int .u64 a1_1):=(z9 BK101.out 1).trans rfl
     have hfz15_0:=zd BK101.out 0
     have hfz15_1:=zd BK101.out 1
     go_wp2
     repeat (go_quiet (fail);try go_wp2)
     go_ret
     exact ⟨by first|rfl|(simp [zh,zi] <;> rfl)|(simp [*,zh,zi] <;> rfl),by repeat (first|(with_reducible first|exact HB.out|apply z4|apply z1|apply z3|refine z7 ?_ GE101.out)|exact HB.out)⟩
   rw [if_pos c10] at H
   have c10b0 : (a1_0 == 0) = true:=beq_iff_eq.mpr c10
   have c10b1 : (a1_0 != 0) = false:=bne_eq_false_iff_eq.mpr c10
   clear c10
   by_cases c11 : 0 ≤ a0
   rotate_left
   · rw [if_neg c11] at H
     exact absurd H (by simp)
   rw [if_pos c11] at H
   have c11b0:=eq_true c11
   have c11b1 : decide (0 ≤ a0) = true:=decide_eq_true c11
   clear c11
   obtain ⟨ji12,hji12⟩ : ∃ j_ : Int,(shl .u64 1 a0) = j_:=⟨_,rfl⟩
   replace H : (some ((shr .u64 a1_1 (ji12)) == 0)) = some r:=by first|(rw [hji12] at H;exact H)|(simp only [hji12] at H ⊢;exact H)
   have hji12_ : (IntKind.u64.wrap (1 * 2 ^ min a0.toNat 64)) = ji12:=hji12
   have hji12z : a0 ≤ 64 → (IntKind.u64.wrap (1 * 2 ^ a0.toNat)) = ji12:=z1K hji12
   have hji12n0 : 0 ≤ ji12:=by rw [← hji12];exact Int.emod_nonneg _ (by decide)
   have hji12n1 : decide (0 ≤ ji12) = true:=decide_eq_true hji12n0
   replace hji12n0:=eq_true hji12n0
   have hji12u : (IntKind.u64.wrap (2 ^ min a0.toNat 64)) = ji12:=by have h_:=hji12_;rw [Int.one_mul] at h_;exact h_
   have hji12v : a0 ≤ 64 → (IntKind.u64.wrap (2 ^ a0.toNat)) = ji12:=fun hle_=>by have h_:=hji12z hle_;rw [Int.one_mul] at h_;exact h_
   obtain ⟨ji13,hji13⟩ : ∃ j_ : Int,(shr .u64 a1_1 (ji12)) = j_:=⟨_,rfl⟩
   replace H : (some ((ji13) == 0)) = some r:=by first|(rw [hji13] at H;exact H)|(simp only [hji13] at H ⊢;exact H)
   have hji13_ : (a1_1 / 2 ^ min (ji12).toNat 64) = ji13:=hji13
   have hji13z : (ji12) ≤ 64 → (a1_1 / 2 ^ (ji12).toNat) = ji13:=z2C hji13
   obtain rfl:=Option.some.inj H
   have hcz14_0 : wc.cell? ⟨gb101,0,none⟩ = some (.int .u64 a1_0):=(z9 BK101.out 0).trans rfl
   have hcz14_1 : wc.cell? ⟨gb101,1,none⟩ = some (.int .u64 a1_1):=(z9 BK101.out 1).trans rfl
   have hfz14_0:=zd BK101.out 0
   have hfz14_1:=zd BK101.out 1
   go_wp2
   repeat (go_quiet (fail);try go_wp2)
   go_ret
   exact ⟨by first|rfl|(simp [zh,zi] <;> rfl)|(simp only [← hji12,← hji13];first|rfl|(simp [zh,zi] <;> rfl))|(simp [*,zh,zi] <;> rfl),by repeat (first|(with_reducible first|exact HB.out|apply z4|apply z1|apply z3|refine z7 ?_ GE101.out)|exact HB.out)⟩
end Go.Proofs.Ytkhmpaooinpfoaa.P
namespace Go.Proofs.Ytkhmpaooinpfoaa.P
open Go.RowKit Go.Proofs.YtkhmpaooinpfoaaW.PrintWords Go.Proofs.YtkhmpaooinpfoaaW.PrintLast Go.Proofs.YtkhmpaooinpfoaaW.PrintMore
attribute [local go_sem] z17 z19 z1j z1k zZ z10 z18 z1a   -- for this text's walks alone
set_option linter.unusedVariables false
set_option linter.unusedSimpArgs false
set_option maxHeartbeats 800000 in
set_option maxRecDepth 100000 in
theorem z14.clo (k : Nat) (a0 : Int) (x : S30) (g : Nat) (r : Bool) (w : World) (hg : w.heap[g]? = some (.cells #[.int .i64 a0] 3 (0,0))) (h : zP.f k a0 x.f0 x.f1 = some r) :
 Calls Try.prog 116 #[.agg #[.int .u64 x.f0,.int .u64 x.f1],.pointer (some ⟨g,0,none⟩)] w fun e w'=>e = .returned (.bool (!r)) ∧ Below w.heap.size w w':=by
 have hu30:=Try.underlying30
 have HB:=z2.mk (Below.refl w.heap.size w)
 have HG:=z2.mk hg
 have A8:=z2.mk h
 clear hg h
 go_enter Try.func116,Try.ntmps116
 go_wp2_with (first
  | ((with_reducible refine zO (N:=2) rfl ?_);refine zM ?hg (N:=2) ?hd (cs:=#[.int .u64 x.f0,.int .u64 x.f1]) (t:=30) ?hr ?_;(case hd=>rfl);(case hg=>rfl);(case hr=>first|(go_simp;done)|(go_simp;rfl));intro gb hgb w1_ hbox hb;have n0_:=z2.mk (za HB.out hb);have hG1:=ze (g:=g) (o:=.cells #[.int .i64 a0] 3 (0,0)) HG.out hb;have hc0 : w1_.cell? ⟨g,0,none⟩ = some (.int .i64 a0):=(z9 hG1 0).trans rfl;have hcx0 : w1_.cell? ⟨gb,0,none⟩ = some (.int .u64 x.f0):=(z9 hbox 0).trans rfl;have hcx1 : w1_.cell? ⟨gb,1,none⟩ = some (.int .u64 x.f1):=(z9 hbox 1).trans rfl;clear HB hG1 hbox hb hgb;have HB:=n0_;clear n0_)
  | ((with_reducible refine zm (f:=81) rfl ?_);refine goesL_ (some 6) rfl rfl Try.func81 (by kernel_rfl) rfl #[.int .i64 a0,.agg #[.int .u64 x.f0,.int .u64 x.f1]] rfl (by (try simp only [List.map_toArray,List.map_cons,List.map_nil]);first|done|rfl) ?_;(with_reducible refine (zP.calls k a0 x.f0 x.f1 r _ A8.out).mono ?_);rintro e w2_ ⟨rfl,hb2⟩;refine ⟨_,rfl,?_⟩;have n0_:=z2.mk (za HB.out hb2);clear HB hb2;have HB:=n0_;clear n0_))
 go_ret
 exact ⟨rfl,HB.out⟩
def z14.all (k : Nat) (a0 : Int) : List S30 → Option Bool
 | []=>some true
 | x :: xs=>(zP.f k a0 x.f0 x.f1).bind fun b=>if b = true then z14.all k a0 xs else some false
theorem z14.z3g (a0 : Int) : ∀ (l : List S30) (k : Nat),LeO (z14.all k a0 l) (z14.all (k + 1) a0 l)
 | [],k=>LeO.refl _
 | x :: xs,k=>LeO.bind (zP.mono a0 x.f0 x.f1 k) (fun b=>LeO.ite (z14.z3g a0 xs k) (LeO.refl _))
theorem z14.z3M (k : Nat) (a0 : Int) (l : List S30) (i : Nat) (h : i < l.length) : z14.all k a0 (l.drop i) = (zP.f k a0 (zq l (i : Int)).f0 (zq l (i : Int)).f1).bind fun b=>if b = true then z14.all k a0 (l.drop (i + 1)) else some false:=by
 rw [List.drop_eq_getElem_cons h]
 have e : zq l (i : Int) = l[i]:=by unfold zq;rw [Int.toNat_natCast,List.getD_eq_getElem?_getD,List.getElem?_eq_getElem h];rfl
 rw [e];rfl
set_option maxHeartbeats 800000 in
set_option maxRecDepth 100000 in
theorem z14.idx (k : Nat) (a0 : Int) (A_ : Option Addr) (c : Nat) (l : List S30) (g : Nat) (r : Bool) (w : World) (hr : Kd.C k30 w A_ l.length l) (hg : w.heap[g]? = some (.cells #[.int .i64 a0] 3 (0,0))) (h : z14.all k a0 l = some r) :
 Calls Try.prog 135 #[.slice A_ l.length c,.func (.func 116) #[] #[.pointer (some ⟨g,0,none⟩)]] w fun e w'=>(∃ i : Int,e = .returned (.int .i64 i) ∧ decide (i ≥ 0) = !r) ∧ Below w.heap.size w w':=by
 have hu30:=Try.underlying30
 have HB:=z2.mk (Below.refl w.heap.size w)
 have HG:=z2.mk hg
 have HR:=z2.mk hr
 have HA:=z2.mk h
 have HM:=z2.mk (Kd.z6H hr)
 clear hg h hr
 go_enter Try.func135,Try.ntmps135
 go_wp2
 go_loopg [8] l.length (fun kq v8 w'=>∃ (i : Nat),v8 = .int .i64 i ∧ z2 (i + kq = l.length) ∧ z2 (z14.all k a0 (l.drop i) = some r) ∧ z2 (w'.heap[g]? = some (.cells #[.int .i64 a0] 3 (0,0))) ∧ z2 (Below w.heap.size w w'))
 case atStart=>exact ⟨0,rfl,⟨by omega⟩,HA,HG,HB⟩
 case round =>
  obtain ⟨i,rfl,HK,HAi,HGi,HBi⟩:=hrel
  clear HG HB HA
  by_cases hlt : i < l.length
  rotate_left
  · have p0 : decide (i < l.length) = false:=decide_eq_false hlt
    have p1 : decide ((i : Int) < (l.length : Int)) = false:=decide_eq_false (by omega)
    have hr : r = true:=by
     have h1:=HAi.out
     rw [List.drop_eq_nil_of_le (by omega)] at h1
     exact (Option.some.inj h1).symm
    clear hlt HAi
    subst hr
    go_wp2
    go_ret
    exact ⟨⟨-1,rfl,by decide⟩,HBi.out⟩
  have hd:=z14.z3M k a0 l i hlt
  have e1:=HAi.out
  rw [hd] at e1
  obtain ⟨b,hb,e2⟩:=Option.bind_eq_some_iff.mp e1
  clear e1 hd
  have HE:=z2.mk e2
  have HF:=z2.mk hb
  clear e2 hb
  obtain ⟨ad,e205,hx0,hx1⟩:=z2o HR.out (i : Int) (by omega) (by omega)
  cases e205
  rw [Int.toNat_natCast] at hx0 hx1
  replace hx0:=(HBi.out.cell (World.block_lt_of_cell? w _ hx0)).trans hx0
  replace hx1:=(HBi.out.cell (World.block_lt_of_cell? w _ hx1)).trans hx1
  have p0 : decide (i < l.length) = true:=decide_eq_true hlt
  have p1 : decide ((i : Int) < (l.length : Int)) = true:=decide_eq_true (by omega)
  have p2 : (0 ≤ (i : Int)) = True:=eq_true (by omega)
  have p3 : ((i : Int) < (l.length : Int)) = True:=eq_true (by omega)
  clear hlt
  go_wp2_with fail
  refine (z14.clo k a0 (zq l (i : Int)) g b _ HGi.out HF.out).mono ?_
  rintro e w1 ⟨rfl,hb1⟩
  have n0_:=z2.mk (za HBi.out hb1)
  have n1_:=z2.mk (ze (g:=g) (o:=.cells #[.int .i64 a0] 3 (0,0)) HGi.out hb1)
  clear HBi HGi hb1 hx0 hx1
  cases b with
  | true =>
   rw [if_pos rfl] at HE
   simp only [Bool.not_true]
   go_wp2
   have hi : wrap64 ((i : Int) + 1) = ((i + 1 : Nat) : Int):=by
    have:=HM.out;have:=HK.out;have h9:=of_decide_eq_true p0;unfold wrap64;omega
   go_roundg (l.length - i - 1)
   case measure=>have:=HK.out;have h9:=of_decide_eq_true p0;omega
   case rel=>exact ⟨i + 1,congrArg (Value.int .i64) hi,⟨by have:=HK.out;have h9:=of_decide_eq_true p0;omega⟩,HE,n1_,n0_⟩
  | false =>
   have hr : r = false:=by
    have:=HE.out
    simp at this
    exact this
   subst hr
   simp only [Bool.not_false]
   go_wp2
   go_ret
   exact ⟨⟨(i : Int),rfl,by simp⟩,n0_.out⟩
set_option maxHeartbeats 800000 in
set_option maxRecDepth 100000 in
theorem z14.cont (k : Nat) (a0 : Int) (A_ : Option Addr) (c : Nat) (l : List S30) (g : Nat) (r : Bool) (w : World) (hr : Kd.C k30 w A_ l.length l) (hg : w.heap[g]? = some (.cells #[.int .i64 a0] 3 (0,0))) (h : z14.all k a0 l = some r) :
 Calls Try.prog 105 #[.slice A_ l.length c,.func (.func 116) #[] #[.pointer (some ⟨g,0,none⟩)]] w fun e w'=>e = .returned (.bool (!r)) ∧ Below w.heap.size w w':=by
 have HB:=z2.mk (Below.refl w.heap.size w)
 have HG:=z2.mk hg
 have HR:=z2.mk hr
 have HA:=z2.mk h
 clear hg h hr
 go_enter Try.func105,Try.ntmps105
 go_wp2_with fail
 refine (z14.idx k a0 A_ c l g r _ HR.out HG.out HA.out).mono ?_
 rintro e w1 ⟨⟨i,rfl,hi⟩,hb1⟩
 have hb:=z2.mk hb1
 have hj:=z2.mk hi
 clear hb1 hi
 go_wp2
 go_ret
 exact ⟨by rw [← hj.out];rfl,hb.out⟩
def z14.f (k : Nat) (a0 : Int) (l1 : List S30) : Option Bool:=z14.all k a0 l1
theorem z14.mono : ∀ a0 a1 k,LeO (z14.f k a0 a1) (z14.f (k + 1) a0 a1):=fun a0 l k=>z14.z3g a0 l k
set_option maxHeartbeats 800000 in
set_option maxRecDepth 100000 in
theorem z14.calls (k : Nat) (a0 : Int) (A1 : Option Addr) (c1 : Nat) (l1 : List S30) (r : Bool) (w : World) (hr1 : Kd.C k30 w A1 l1.length l1) (hc1 : l1.length ≤ c1) (h : z14.f k a0 l1 = some r) :
 Calls Try.prog 76 #[.int .i64 a0,.slice A1 l1.length c1] w fun e w'=>e = .returned (.bool r) ∧ Below w.heap.size w w':=by
 have hmf : ∀ (fn : Fn) (first cap : Array Value) (w : World),(Instr.makeFunc fn first cap).run Try.prog w = .ok (.func fn first cap) w:=fun _ _ _ _=>rfl
 have HB:=z2.mk (Below.refl w.heap.size w)
 have HR:=z2.mk hr1
 have HA:=z2.mk (show z14.all k a0 l1 = some r from h)
 clear h hr1
 go_enter Try.func76,Try.ntmps76
 go_wp2_with (first
  | ((with_reducible refine zO (N:=2) rfl ?_);refine zM ?hg (N:=2) ?hd (cs:=#[.int .i64 a0]) (t:=3) ?hr ?_;(case hd=>rfl);(case hg=>rfl);(case hr=>first|(go_simp;done)|(go_simp;rfl));intro gb hgb w1_ hbox hb;have n0_:=z2.mk (za HB.out hb);have n1_:=z2.mk hbox;have n2_:=z2.mk (Kd.z1h HR.out hb);clear HB HR hbox hb hgb;have HB:=n0_;have HG:=n1_;have HR:=n2_;clear n0_ n1_ n2_)
  | ((with_reducible refine zm (f:=105) rfl ?_);refine goesL_ (some 7) rfl rfl Try.func105 (by kernel_rfl) rfl #[.slice A1 l1.length c1,.func (.func 116) #[] #[.pointer (some ⟨gb,0,none⟩)]] rfl (by (try simp only [List.map_toArray,List.map_cons,List.map_nil]);first|done|rfl) ?_;(with_reducible refine (z14.cont k a0 _ _ l1 gb r _ HR.out HG.out HA.out).mono ?_);rintro e w2_ ⟨rfl,hb2⟩;refine ⟨_,rfl,?_⟩;have n0_:=z2.mk (za HB.out hb2);clear HB hb2;have HB:=n0_;clear n0_))
 go_ret
 exact ⟨by simp,HB.out⟩
end Go.Proofs.Ytkhmpaooinpfoaa.P
namespace Go.Proofs.Ytkhmpaooinpfoaa.P
open Go.RowKit Go.Proofs.YtkhmpaooinpfoaaW.PrintWords Go.Proofs.YtkhmpaooinpfoaaW.PrintLast Go.Proofs.YtkhmpaooinpfoaaW.PrintMore
attribute [local go_sem] z17 z19 z1j z1k zZ z10 z18 z1a   -- for this text's walks alone
set_option linter.unusedVariables false
set_option linter.unusedSimpArgs false
def zV.j0 : Nat → Int → Bool → Option (Int)
 | 0,_,_=>none
 | k + 1,x0,x3=>if x3 = true then (some 0) else (if x0 ≤ 3 then (some 1) else (if 0 ≤ (wrap64 (x0 - 3)) then (some (shl .i64 1 (wrap64 (x0 - 3)))) else (none)))
def zV.f (k : Nat) (a0 : Int) : Option (Int):=if a0 < 0 then (zV.j0 k a0 true) else (zV.j0 k a0 (decide (a0 > 7)))
theorem zV.z1b : ∀ k,(∀ y0 y1,LeO (zV.j0 k y0 y1) (zV.j0 (k + 1) y0 y1))
 | 0=>fun _ _ r h=>by simp [zV.j0] at h
 | k + 1=>by
  have ih0:=zV.z1b k
  · intro y0 y1
    unfold zV.j0
    repeat' first
    | (with_reducible exact ih0 _ _)
    | (with_reducible exact LeO.refl _)
    | (with_reducible exact LeO.none _)
    | (with_reducible refine LeO.ite ?_ ?_)
    | (with_reducible refine LeO.bind ?_ (fun _=>?_))
    | exact ih0 _ _
    | exact LeO.none _
    | refine LeO.ite ?_ ?_
    | refine LeO.bind ?_ (fun _=>?_)
theorem zV.mono : ∀ a0 k,LeO (zV.f k a0) (zV.f (k + 1) a0):=by
 intro a0 k
 have ih0:=zV.z1b k
 unfold zV.f
 repeat' first
  | (with_reducible exact ih0 _ _)
  | (with_reducible exact LeO.refl _)
  | (with_reducible exact LeO.none _)
  | (with_reducible refine LeO.ite ?_ ?_)
  | (with_reducible refine LeO.bind ?_ (fun _=>?_))
  | exact ih0 _ _
  | exact LeO.none _
  | refine LeO.ite ?_ ?_
  | refine LeO.bind ?_ (fun _=>?_)
set_option maxHeartbeats 8000000 in
set_option maxRecDepth 100000 in
theorem zV.calls (k : Nat) (a0 : Int) (r : Int) (w : World) (h : zV.f k a0 = some r) :
 Calls Try.prog 60 #[.int .i64 a0] w fun e w'=>e = .returned (.int .i64 r) ∧ Drawn0 w w':=by
 have H : (if a0 < 0 then (zV.j0 k a0 true) else (zV.j0 k a0 (decide (a0 > 7)))) = some r:=h
 clear h
 have HC2:=z2.mk H
 clear H
 go_enter Try.func60,Try.ntmps60
 go_upto_region 1 with (fail)
 go_cut [3] (fun v3 wc=>∃ (kq : Nat) (x3_1 : Bool),v3 = .bool x3_1 ∧ z2 (zV.j0 kq a0 x3_1 = some r) ∧ z2 (kq ≤ k) ∧ Drawn0 w wc)
 case first =>
  have H:=HC2.out
  clear HC2
  by_cases c3 : a0 < 0
  rotate_left
  · rw [if_neg c3] at H
    have c3b0 : decide (a0 < 0) = false:=decide_eq_false c3
    clear c3
    (first|rw [c3b0]|(simp only [zD,zG];rw [c3b0])|skip)
    have H':=z2.mk H
    clear H
    go_wp2
    go_meet
    case rel=>exact ⟨_,(decide (a0 > 7)),(by first|rfl|(simp;done)|(simp [*];done)),H',⟨by first|omega|exact Nat.le_refl _⟩,by repeat (first|exact Drawn0.refl _|apply Drawn0.step)⟩
  rw [if_pos c3] at H
  have c3b0 : decide (a0 < 0) = true:=decide_eq_true c3
  clear c3
  (first|rw [c3b0]|(simp only [zD,zG];rw [c3b0])|skip)
  have H':=z2.mk H
  clear H
  go_wp2
  go_meet
  case rel=>exact ⟨_,(true),(by first|rfl|(simp;done)|(simp [*];done)),H',⟨by first|omega|exact Nat.le_refl _⟩,by repeat (first|exact Drawn0.refl _|apply Drawn0.step)⟩
 case rest =>
  clear HC2
  (try clear p2);(try clear c3);(try clear c3b0)
  obtain ⟨kq,x3_1,rfl,HA,HJ1,⟨mc1,rfl⟩⟩:=hcut
  cases kq with
  | zero=>exact absurd HA.out (by simp [zV.j0])
  | succ kj1 =>
   have H:=HA.out
   clear HA
   simp only [zV.j0] at H
   by_cases c4 : x3_1 = true
   · subst c4
     have H1 : (some 0) = some r:=by rw [if_pos rfl] at H;exact H
     clear H
     have H:=H1
     clear H1
     obtain rfl:=Option.some.inj H
     go_wp2
     go_ret
     exact ⟨by first|rfl|(simp;done)|(simp [*];done),by repeat (first|exact Drawn0.refl _|apply Drawn0.step)⟩
   replace c4:=Bool.eq_false_iff.mpr c4
   subst c4
   have H1 : (if a0 ≤ 3 then (some 1) else (if 0 ≤ (wrap64 (a0 - 3)) then (some (shl .i64 1 (wrap64 (a0 - 3)))) else (none))) = some r:=by rw [if_neg (show ¬ (false = true) by decide)] at H;exact H
   clear H
   have H:=H1
   clear H1
   by_cases c5 : a0 ≤ 3
   · rw [if_pos c5] at H
     have c5b0 : decide (a0 ≤ 3) = true:=decide_eq_true c5
     clear c5
     obtain rfl:=Option.some.inj H
     go_wp2
     go_ret
     exact ⟨by first|rfl|(simp;done)|(simp [*];done),by repeat (first|exact Drawn0.refl _|apply Drawn0.step)⟩
   rw [if_neg c5] at H
   have c5b0 : decide (a0 ≤ 3) = false:=decide_eq_false c5
   clear c5
   obtain ⟨ji6,hji6⟩ : ∃ j_ : Int,(wrap64 (a0 - 3)) = j_:=⟨_,rfl⟩
   replace H : (if 0 ≤ (ji6) then (some (shl .i64 1 (ji6))) else (none)) = some r:=by first|(rw [hji6] at H;exact H)|(simp only [hji6] at H ⊢;exact H)
   have hji6w : (IntKind.i64.wrap (a0 - 3)) = ji6:=(zD _).trans hji6
   by_cases c7 : 0 ≤ (ji6)
   rotate_left
   · rw [if_neg c7] at H
     exact absurd H (by simp)
   rw [if_pos c7] at H
   have c7b0:=eq_true c7
   have c7b1 : decide (0 ≤ (ji6)) = true:=decide_eq_true c7
   clear c7
   obtain ⟨ji8,hji8⟩ : ∃ j_ : Int,(shl .i64 1 (ji6)) = j_:=⟨_,rfl⟩
   replace H : (some ji8) = some r:=by first|(rw [hji8] at H;exact H)|(simp only [hji8] at H ⊢;exact H)
   have hji8_ : (IntKind.i64.wrap (1 * 2 ^ min (ji6).toNat 64)) = ji8:=hji8
   have hji8z : (ji6) ≤ 64 → (IntKind.i64.wrap (1 * 2 ^ (ji6).toNat)) = ji8:=z1K hji8
   have hji8u : (IntKind.i64.wrap (2 ^ min (ji6).toNat 64)) = ji8:=by have h_:=hji8_;rw [Int.one_mul] at h_;exact h_
   have hji8v : (ji6) ≤ 64 → (IntKind.i64.wrap (2 ^ (ji6).toNat)) = ji8:=fun hle_=>by have h_:=hji8z hle_;rw [Int.one_mul] at h_;exact h_
   have hji8y : (wrap64 (1 * 2 ^ min (ji6).toNat 64)) = ji8:=(zD _).symm.trans hji8_
   have hji8x : (ji6) ≤ 64 → (wrap64 (1 * 2 ^ (ji6).toNat)) = ji8:=fun h_=>(zD _).symm.trans (hji8z h_)
   obtain rfl:=Option.some.inj H
   go_wp2
   go_ret
   exact ⟨by first|rfl|(simp;done)|(simp only [← hji6,← hji8] <;> (first|rfl|simp))|(simp [*];done),by repeat (first|exact Drawn0.refl _|apply Drawn0.step)⟩
end Go.Proofs.Ytkhmpaooinpfoaa.P
namespace Go.Proofs.Ytkhmpaooinpfoaa.P
open Go.RowKit Go.Proofs.YtkhmpaooinpfoaaW.PrintWords Go.Proofs.YtkhmpaooinpfoaaW.PrintLast Go.Proofs.YtkhmpaooinpfoaaW.PrintMore
attribute [local go_sem] z17 z19 z1j z1k zZ z10 z18 z1a   -- for this text's walks alone
set_option linter.unusedVariables false
set_option linter.unusedSimpArgs false
def z1V.f (k : Nat) (a0 : Int) (a1 : Int) : Option (Int):=(zV.f k a0).bind fun t101=>(if t101 = 0 then (some 1) else ((zV.f k a1).bind fun t102=>(if t102 = 0 then (some 1) else (if a1 < a0 then (some 1) else (some 0)))))
theorem z1V.mono : ∀ a0 a1 k,LeO (z1V.f k a0 a1) (z1V.f (k + 1) a0 a1):=by
 intro a0 a1 k
 unfold z1V.f
 repeat' first
  | (with_reducible exact zV.mono _ _)
  | (with_reducible exact LeO.refl _)
  | (with_reducible exact LeO.none _)
  | (with_reducible refine LeO.ite ?_ ?_)
  | (with_reducible refine LeO.bind ?_ (fun _=>?_))
  | exact zV.mono _ _
  | exact LeO.none _
  | refine LeO.ite ?_ ?_
  | refine LeO.bind ?_ (fun _=>?_)
set_option maxHeartbeats 8000000 in
set_option maxRecDepth 100000 in
theorem z1V.calls (k : Nat) (a0 : Int) (a1 : Int) (r : Int) (w : World) (h : z1V.f k a0 a1 = some r) :
 Calls Try.prog 111 #[.int .i64 a0,.int .i64 a1] w fun e w'=>e = .returned (.int .i64 r) ∧ Drawn0 w w':=by
 have H : ((zV.f k a0).bind fun t101=>(if t101 = 0 then (some 1) else ((zV.f k a1).bind fun t102=>(if t102 = 0 then (some 1) else (if a1 < a0 then (some 1) else (some 0)))))) = some r:=h
 clear h
 replace H:=Option.bind_eq_some_iff.mp H
 obtain ⟨t101,A30,H⟩:=H
 replace H : (if t101 = 0 then (some 1) else ((zV.f k a1).bind fun t102=>(if t102 = 0 then (some 1) else (if a1 < a0 then (some 1) else (some 0))))) = some r:=H
 have A3:=z2.mk A30
 clear A30
 by_cases c4 : t101 = 0
 · rw [if_pos c4] at H
   have c4b0 : (t101 == 0) = true:=beq_iff_eq.mpr c4
   have c4b1 : (t101 != 0) = false:=bne_eq_false_iff_eq.mpr c4
   clear c4
   obtain rfl:=Option.some.inj H
   go_enter Try.func111,Try.ntmps111
   go_wp2_with (first|((with_reducible refine zm (f:=60) rfl ?_);refine goesL_ (some 6) rfl rfl Try.func60 (by kernel_rfl) rfl #[.int .i64 a0] rfl (by (try simp only [List.map_toArray,List.map_cons,List.map_nil]);first|done|rfl|(simp only [List.length_drop,List.length_take];rfl)) ?_;(with_reducible refine (zV.calls k a0 t101 _ A3.out).mono ?_);rintro e w' ⟨rfl,⟨nd,rfl⟩⟩;refine ⟨_,rfl,?_⟩))
   go_ret
   exact ⟨by first|rfl|(simp;done)|(simp [*];done),by repeat (first|exact Drawn0.refl _|apply Drawn0.step)⟩
 rw [if_neg c4] at H
 have c4b0 : (t101 == 0) = false:=beq_eq_false_iff_ne.mpr c4
 have c4b1 : (t101 != 0) = true:=bne_iff_ne.mpr c4
 replace H:=Option.bind_eq_some_iff.mp H
 obtain ⟨t102,A50,H⟩:=H
 replace H : (if t102 = 0 then (some 1) else (if a1 < a0 then (some 1) else (some 0))) = some r:=H
 have A5:=z2.mk A50
 clear A50
 by_cases c6 : t102 = 0
 · rw [if_pos c6] at H
   have c6b0 : (t102 == 0) = true:=beq_iff_eq.mpr c6
   have c6b1 : (t102 != 0) = false:=bne_eq_false_iff_eq.mpr c6
   clear c6
   obtain rfl:=Option.some.inj H
   go_enter Try.func111,Try.ntmps111
   go_wp2_with (first|((with_reducible refine zm (f:=60) rfl ?_);refine goesL_ (some 6) rfl rfl Try.func60 (by kernel_rfl) rfl #[.int .i64 a0] rfl (by (try simp only [List.map_toArray,List.map_cons,List.map_nil]);first|done|rfl|(simp only [List.length_drop,List.length_take];rfl)) ?_;(with_reducible refine (zV.calls k a0 t101 _ A3.out).mono ?_);rintro e w' ⟨rfl,⟨nd,rfl⟩⟩;refine ⟨_,rfl,?_⟩)|(go_at_call 60;(with_reducible refine (zV.calls k a1 t102 _ A5.out).mono ?_);rintro e w' ⟨rfl,⟨nd,rfl⟩⟩))
   go_ret
   exact ⟨by first|rfl|(simp;done)|(simp [*];done),by repeat (first|exact Drawn0.refl _|apply Drawn0.step)⟩
 rw [if_neg c6] at H
 have c6b0 : (t102 == 0) = false:=beq_eq_false_iff_ne.mpr c6
 have c6b1 : (t102 != 0) = true:=bne_iff_ne.mpr c6
 by_cases c7 : a1 < a0
 · rw [if_pos c7] at H
   have c7b0 : decide (a1 < a0) = true:=decide_eq_true c7
   clear c7
   obtain rfl:=Option.some.inj H
   go_enter Try.func111,Try.ntmps111
   go_wp2_with (first|((with_reducible refine zm (f:=60) rfl ?_);refine goesL_ (some 6) rfl rfl Try.func60 (by kernel_rfl) rfl #[.int .i64 a0] rfl (by (try simp only [List.map_toArray,List.map_cons,List.map_nil]);first|done|rfl|(simp only [List.length_drop,List.length_take];rfl)) ?_;(with_reducible refine (zV.calls k a0 t101 _ A3.out).mono ?_);rintro e w' ⟨rfl,⟨nd,rfl⟩⟩;refine ⟨_,rfl,?_⟩)|(go_at_call 60;(with_reducible refine (zV.calls k a1 t102 _ A5.out).mono ?_);rintro e w' ⟨rfl,⟨nd,rfl⟩⟩))
   go_ret
   exact ⟨by first|rfl|(simp;done)|(simp [*];done),by repeat (first|exact Drawn0.refl _|apply Drawn0.step)⟩
 rw [if_neg c7] at H
 have c7b0 : decide (a1 < a0) = false:=decide_eq_false c7
 clear c7
 obtain rfl:=Option.some.inj H
 go_enter Try.func111,Try.ntmps111
 go_wp2_with (first|((with_reducible refine zm (f:=60) rfl ?_);refine goesL_ (some 6) rfl rfl Try.func60 (by kernel_rfl) rfl #[.int .i64 a0] rfl (by (try simp only [List.map_toArray,List.map_cons,List.map_nil]);first|done|rfl|(simp only [List.length_drop,List.length_take];rfl)) ?_;(with_reducible refine (zV.calls k a0 t101 _ A3.out).mono ?_);rintro e w' ⟨rfl,⟨nd,rfl⟩⟩;refine ⟨_,rfl,?_⟩)|(go_at_call 60;(with_reducible refine (zV.calls k a1 t102 _ A5.out).mono ?_);rintro e w' ⟨rfl,⟨nd,rfl⟩⟩))
 go_ret
 exact ⟨by first|rfl|(simp;done)|(simp [*];done),by repeat (first|exact Drawn0.refl _|apply Drawn0.step)⟩
end Go.Proofs.Ytkhmpaooinpfoaa.P
namespace Go.Proofs.Ytkhmpaooinpfoaa.P
open Go.RowKit Go.Proofs.YtkhmpaooinpfoaaW.PrintWords Go.Proofs.YtkhmpaooinpfoaaW.PrintLast Go.Proofs.YtkhmpaooinpfoaaW.PrintMore
attribute [local go_sem] z17 z19 z1j z1k zZ z10 z18 z1a   -- for this text's walks alone
set_option linter.unusedVariables false
set_option linter.unusedSimpArgs false
def z1S.f (a0_0 : Int) (a0_1 : Int) (a1 : Int) : Option (Int × Int):=if a1 = 0 then (some (a0_0,a0_1)) else (if a1 ≥ 64 then (if 0 ≤ (wrap64 (a1 - 64)) then (some (shl .u64 a0_1 (wrap64 (a1 - 64)),0)) else (none)) else (if 0 ≤ a1 then (if 0 ≤ (wrap64 (64 - a1)) then (some (Go.bits .or .u64 (shl .u64 a0_0 a1) (shr .u64 a0_1 (wrap64 (64 - a1))),shl .u64 a0_1 a1)) else (none)) else (none)))
def z1S.T5 : Bool × List (List Nat × List Nat):=(true,[([],[]),([0],[0]),([],[]),([1,2],[1,2]),([],[]),([4],[4]),([],[]),([6],[6]),([5,7],[5,7]),([3,8],[3,8]),([],[]),([10],[10]),([],[]),([11,12],[11,12]),([9,13],[9,13]),([14,0,1,2,3,4,5,6,7,8,9,10,11,12,13,14],[14])])
def z1S.B5 : List Nat:=[0,1,0,7,0,16,0,64,240,511,0,1024,0,7168,16383,32767]
theorem z1S.tab5 : rtab .any (opsOf Try.f112 5) = z1S.T5:=by kernel_rfl
theorem z1S.bits5 : waitsOk z1S.T5.2 z1S.B5 = true:=by kernel_rfl
set_option maxHeartbeats 8000000 in
set_option maxRecDepth 100000 in
theorem z1S.calls (a0_0 : Int) (a0_1 : Int) (a1 : Int) (r1 : Int) (r2 : Int) (w : World) (h : z1S.f a0_0 a0_1 a1 = some (r1,r2)) :
 Calls Try.prog 112 #[.agg #[.int .u64 a0_0,.int .u64 a0_1],.int .i64 a1] w fun e w'=>e = .returned (.agg #[.int .u64 r1,.int .u64 r2]) ∧ Below w.heap.size w w':=by
 have hu30:=Try.underlying30
 have HB:=z2.mk (Below.refl w.heap.size w)
 have H : (if a1 = 0 then (some (a0_0,a0_1)) else (if a1 ≥ 64 then (if 0 ≤ (wrap64 (a1 - 64)) then (some (shl .u64 a0_1 (wrap64 (a1 - 64)),0)) else (none)) else (if 0 ≤ a1 then (if 0 ≤ (wrap64 (64 - a1)) then (some (Go.bits .or .u64 (shl .u64 a0_0 a1) (shr .u64 a0_1 (wrap64 (64 - a1))),shl .u64 a0_1 a1)) else (none)) else (none)))) = some (r1,r2):=h
 clear h
 by_cases c3 : a1 = 0
 · rw [if_pos c3] at H
   have c3b0 : (a1 == 0) = true:=beq_iff_eq.mpr c3
   have c3b1 : (a1 != 0) = false:=bne_eq_false_iff_eq.mpr c3
   clear c3
   simp only [Option.some.injEq,Prod.mk.injEq] at H
   obtain ⟨rfl,rfl⟩:=H
   go_enter Try.func112,Try.ntmps112
   go_wp2_with (first|((with_reducible refine zO (N:=2) rfl ?_);refine zM ?hg (N:=2) ?hd (cs:=#[.int .u64 a0_0,.int .u64 a0_1]) (t:=30) ?hr ?_;(case hd=>rfl);(case hg=>rfl);(case hr=>first|(go_simp;done)|(go_simp;rfl));intro gb101 hg w4 hbox hb;have n0_:=z2.mk (za (by repeat (first|(with_reducible first|exact HB.out|apply z4|apply z1|apply z3)|exact HB.out)) hb);have n1_:=z2.mk (hbox);have n2_:=z2.mk ((by rw [hg];exact (zc (by repeat (first|(with_reducible first|exact HB.out|apply z4|apply z1|apply z3)|exact HB.out))) : w.heap.size ≤ gb101));have n3_:=z2.mk ((by rw [hg];exact (zc (by repeat (first|(with_reducible first|exact HB.out|apply z4|apply z1|apply z3)|exact HB.out))) : w.heap.size ≤ gb101));clear HB;have HB:=n0_;have BK101:=n1_;have GW101:=n2_;have GE101:=n3_;clear n0_ n1_ n2_ n3_;clear hb hbox hg)|((with_reducible refine zO (N:=4) rfl ?_);refine zM ?hg (N:=4) ?hd (cs:=#[.int .u64 0,.int .u64 0]) (t:=30) ?hr ?_;(case hd=>rfl);(case hg=>rfl);(case hr=>first|(go_simp;done)|(go_simp;rfl));intro gb102 hg w5 hbox hb;have n0_:=z2.mk (ze (g:=gb101) (o:=.cells #[.int .u64 a0_0,.int .u64 a0_1] 30 (0,0)) (by (with_reducible repeat (first|refine z6 ?_ _|refine z8 ?_|refine z5 ?_ _));exact BK101.out) hb);have n1_:=z2.mk (za (by repeat (first|(with_reducible first|exact HB.out|apply z4|apply z1|apply z3|refine z7 ?_ GE101.out)|exact HB.out)) hb);have n2_:=z2.mk (hbox);have n3_:=z2.mk ((by rw [hg];exact (zc (by repeat (first|(with_reducible first|exact HB.out|apply z4|apply z1|apply z3|refine z7 ?_ GE101.out)|exact HB.out))) : w.heap.size ≤ gb102));have n4_:=z2.mk ((by rw [hg];exact (zc (by repeat (first|(with_reducible first|exact HB.out|apply z4|apply z1|apply z3|refine z7 ?_ GE101.out)|exact HB.out))) : w.heap.size ≤ gb102));have n5_:=z2.mk ((by rw [hg];exact Nat.ne_of_lt (z11 (g:=gb101) (o:=.cells #[.int .u64 a0_0,.int .u64 a0_1] 30 (0,0)) (by (with_reducible repeat (first|refine z6 ?_ _|refine z8 ?_|refine z5 ?_ _));exact BK101.out)) : gb101 ≠ gb102));have n6_:=z2.mk ((by rw [hg];exact Nat.ne_of_gt (z11 (g:=gb101) (o:=.cells #[.int .u64 a0_0,.int .u64 a0_1] 30 (0,0)) (by (with_reducible repeat (first|refine z6 ?_ _|refine z8 ?_|refine z5 ?_ _));exact BK101.out)) : gb102 ≠ gb101));clear BK101;clear HB;have BK101:=n0_;have HB:=n1_;have BK102:=n2_;have GW102:=n3_;have GE102:=n4_;have NB101_102:=n5_;have NB102_101:=n6_;clear n0_ n1_ n2_ n3_ n4_ n5_ n6_;clear hb hbox hg;have hnb6:=NB101_102.out;have hnc6:=NB102_101.out;have hcz7_0 : w5.cell? ⟨gb101,0,none⟩ = some (.int .u64 a0_0):=(z9 BK101.out 0).trans rfl;have hcz7_1 : w5.cell? ⟨gb101,1,none⟩ = some (.int .u64 a0_1):=(z9 BK101.out 1).trans rfl;have hfz7_0:=zd BK101.out 0;have hfz7_1:=zd BK101.out 1;have hcz8_0 : w5.cell? ⟨gb102,0,none⟩ = some (.int .u64 0):=(z9 BK102.out 0).trans rfl;have hcz8_1 : w5.cell? ⟨gb102,1,none⟩ = some (.int .u64 0):=(z9 BK102.out 1).trans rfl;have hfz8_0:=zd BK102.out 0;have hfz8_1:=zd BK102.out 1))
   refine bodyPost_ret (results_cell_row rfl _ _ gb102 30 #[.int .u64 a0_0,.int .u64 a0_1] (0,0) _ rfl (by (with_reducible repeat (first|refine z6 ?_ _|refine z8 ?_|refine z5 ?_ _));refine z15 (cs:=#[.int .u64 a0_0,.int .u64 0]) ?_ 1 _ rfl;(with_reducible repeat (first|refine z6 ?_ _|refine z8 ?_|refine z5 ?_ _));refine z15 (cs:=#[.int .u64 0,.int .u64 0]) ?_ 0 _ rfl;(with_reducible repeat (first|refine z6 ?_ _|refine z8 ?_|refine z5 ?_ _));exact BK102.out) Try.underlying30 rfl (by kernel_rfl)) rfl ?_
   exact ⟨by first|rfl|(simp [zh,zi] <;> rfl)|(simp [*,zh,zi] <;> rfl),by repeat (first|(with_reducible first|exact HB.out|apply z4|apply z1|apply z3|refine z7 ?_ GE101.out|refine z7 ?_ GE102.out)|exact HB.out)⟩
 rw [if_neg c3] at H
 have c3b0 : (a1 == 0) = false:=beq_eq_false_iff_ne.mpr c3
 have c3b1 : (a1 != 0) = true:=bne_iff_ne.mpr c3
 by_cases c9 : a1 ≥ 64
 · rw [if_pos c9] at H
   have c9b0 : decide (64 ≤ a1) = true:=decide_eq_true c9
   clear c9
   obtain ⟨ji10,hji10⟩ : ∃ j_ : Int,(wrap64 (a1 - 64)) = j_:=⟨_,rfl⟩
   replace H : (if 0 ≤ (ji10) then (some (shl .u64 a0_1 (ji10),0)) else (none)) = some (r1,r2):=by first|(rw [hji10] at H;exact H)|(simp only [hji10] at H ⊢;exact H)
   have hji10w : (IntKind.i64.wrap (a1 - 64)) = ji10:=(zD _).trans hji10
   by_cases c11 : 0 ≤ (ji10)
   rotate_left
   · rw [if_neg c11] at H
     exact absurd H (by simp)
   rw [if_pos c11] at H
   have c11b0:=eq_true c11
   have c11b1 : decide (0 ≤ (ji10)) = true:=decide_eq_true c11
   clear c11
   obtain ⟨ji12,hji12⟩ : ∃ j_ : Int,(shl .u64 a0_1 (ji10)) = j_:=⟨_,rfl⟩
   replace H : (some (ji12,0)) = some (r1,r2):=by first|(rw [hji12] at H;exact H)|(simp only [hji12] at H ⊢;exact H)
   have hji12_ : (IntKind.u64.wrap (a0_1 * 2 ^ min (ji10).toNat 64)) = ji12:=hji12
   have hji12z : (ji10) ≤ 64 → (IntKind.u64.wrap (a0_1 * 2 ^ (ji10).toNat)) = ji12:=z1K hji12
   have hji12n0 : 0 ≤ ji12:=by rw [← hji12];exact Int.emod_nonneg _ (by decide)
   have hji12n1 : decide (0 ≤ ji12) = true:=decide_eq_true hji12n0
   replace hji12n0:=eq_true hji12n0
   simp only [Option.some.injEq,Prod.mk.injEq] at H
   obtain ⟨rfl,rfl⟩:=H
   go_enter Try.func112,Try.ntmps112
   go_wp2_with (first|((with_reducible refine zO (N:=2) rfl ?_);refine zM ?hg (N:=2) ?hd (cs:=#[.int .u64 a0_0,.int .u64 a0_1]) (t:=30) ?hr ?_;(case hd=>rfl);(case hg=>rfl);(case hr=>first|(go_simp;done)|(go_simp;rfl));intro gb101 hg w13 hbox hb;have n0_:=z2.mk (za (by repeat (first|(with_reducible first|exact HB.out|apply z4|apply z1|apply z3)|exact HB.out)) hb);have n1_:=z2.mk (hbox);have n2_:=z2.mk ((by rw [hg];exact (zc (by repeat (first|(with_reducible first|exact HB.out|apply z4|apply z1|apply z3)|exact HB.out))) : w.heap.size ≤ gb101));have n3_:=z2.mk ((by rw [hg];exact (zc (by repeat (first|(with_reducible first|exact HB.out|apply z4|apply z1|apply z3)|exact HB.out))) : w.heap.size ≤ gb101));clear HB;have HB:=n0_;have BK101:=n1_;have GW101:=n2_;have GE101:=n3_;clear n0_ n1_ n2_ n3_;clear hb hbox hg)|((with_reducible refine zO (N:=4) rfl ?_);refine zM ?hg (N:=4) ?hd (cs:=#[.int .u64 0,.int .u64 0]) (t:=30) ?hr ?_;(case hd=>rfl);(case hg=>rfl);(case hr=>first|(go_simp;done)|(go_simp;rfl));intro gb102 hg w14 hbox hb;have n0_:=z2.mk (ze (g:=gb101) (o:=.cells #[.int .u64 a0_0,.int .u64 a0_1] 30 (0,0)) (by (with_reducible repeat (first|refine z6 ?_ _|refine z8 ?_|refine z5 ?_ _));exact BK101.out) hb);have n1_:=z2.mk (za (by repeat (first|(with_reducible first|exact HB.out|apply z4|apply z1|apply z3|refine z7 ?_ GE101.out)|exact HB.out)) hb);have n2_:=z2.mk (hbox);have n3_:=z2.mk ((by rw [hg];exact (zc (by repeat (first|(with_reducible first|exact HB.out|apply z4|apply z1|apply z3|refine z7 ?_ GE101.out)|exact HB.out))) : w.heap.size ≤ gb102));have n4_:=z2.mk ((by rw [hg];exact (zc (by repeat (first|(with_reducible first|exact HB.out|apply z4|apply z1|apply z3|refine z7 ?_ GE101.out)|exact HB.out))) : w.heap.size ≤ gb102));have n5_:=z2.mk ((by rw [hg];exact Nat.ne_of_lt (z11 (g:=gb101) (o:=.cells #[.int .u64 a0_0,.int .u64 a0_1] 30 (0,0)) (by (with_reducible repeat (first|refine z6 ?_ _|refine z8 ?_|refine z5 ?_ _));exact BK101.out)) : gb101 ≠ gb102));have n6_:=z2.mk ((by rw [hg];exact Nat.ne_of_gt (z11 (g:=gb101) (o:=.cells #[.int .u64 a0_0,.int .u64 a0_1] 30 (0,0)) (by (with_reducible repeat (first|refine z6 ?_ _|refine z8 ?_|refine z5 ?_ _));exact BK101.out)) : gb102 ≠ gb101));clear BK101;clear HB;have BK101:=n0_;have HB:=n1_;have BK102:=n2_;have GW102:=n3_;have GE102:=n4_;have NB101_102:=n5_;have NB102_101:=n6_;clear n0_ n1_ n2_ n3_ n4_ n5_ n6_;clear hb hbox hg;have hnb15:=NB101_102.out;have hnc15:=NB102_101.out;have hcz16_0 : w14.cell? ⟨gb101,0,none⟩ = some (.int .u64 a0_0):=(z9 BK101.out 0).trans rfl;have hcz16_1 : w14.cell? ⟨gb101,1,none⟩ = some (.int .u64 a0_1):=(z9 BK101.out 1).trans rfl;have hfz16_0:=zd BK101.out 0;have hfz16_1:=zd BK101.out 1;have hcz17_0 : w14.cell? ⟨gb102,0,none⟩ = some (.int .u64 0):=(z9 BK102.out 0).trans rfl;have hcz17_1 : w14.cell? ⟨gb102,1,none⟩ = some (.int .u64 0):=(z9 BK102.out 1).trans rfl;have hfz17_0:=zd BK102.out 0;have hfz17_1:=zd BK102.out 1))
   refine bodyPost_ret (results_cell_row rfl _ _ gb102 30 #[.int .u64 ji12,.int .u64 0] (0,0) _ rfl (by (with_reducible repeat (first|refine z6 ?_ _|refine z8 ?_|refine z5 ?_ _));refine z15 (cs:=#[.int .u64 ji12,.int .u64 0]) ?_ 1 _ rfl;(with_reducible repeat (first|refine z6 ?_ _|refine z8 ?_|refine z5 ?_ _));refine z15 (cs:=#[.int .u64 0,.int .u64 0]) ?_ 0 _ rfl;(with_reducible repeat (first|refine z6 ?_ _|refine z8 ?_|refine z5 ?_ _));exact BK102.out) Try.underlying30 rfl (by kernel_rfl)) rfl ?_
   exact ⟨by first|rfl|(simp [zh,zi] <;> rfl)|(simp only [← hji10,← hji12];first|rfl|(simp [zh,zi] <;> rfl))|(simp [*,zh,zi] <;> rfl),by repeat (first|(with_reducible first|exact HB.out|apply z4|apply z1|apply z3|refine z7 ?_ GE101.out|refine z7 ?_ GE102.out)|exact HB.out)⟩
 rw [if_neg c9] at H
 have c9b0 : decide (64 ≤ a1) = false:=decide_eq_false c9
 clear c9
 by_cases c18 : 0 ≤ a1
 rotate_left
 · rw [if_neg c18] at H
   exact absurd H (by simp)
 rw [if_pos c18] at H
 have c18b0:=eq_true c18
 have c18b1 : decide (0 ≤ a1) = true:=decide_eq_true c18
 clear c18
 obtain ⟨ji19,hji19⟩ : ∃ j_ : Int,(shl .u64 a0_0 a1) = j_:=⟨_,rfl⟩
 replace H : (if 0 ≤ (wrap64 (64 - a1)) then (some (Go.bits .or .u64 (ji19) (shr .u64 a0_1 (wrap64 (64 - a1))),shl .u64 a0_1 a1)) else (none)) = some (r1,r2):=by first|(rw [hji19] at H;exact H)|(simp only [hji19] at H ⊢;exact H)
 have hji19_ : (IntKind.u64.wrap (a0_0 * 2 ^ min a1.toNat 64)) = ji19:=hji19
 have hji19z : a1 ≤ 64 → (IntKind.u64.wrap (a0_0 * 2 ^ a1.toNat)) = ji19:=z1K hji19
 have hji19n0 : 0 ≤ ji19:=by rw [← hji19];exact Int.emod_nonneg _ (by decide)
 have hji19n1 : decide (0 ≤ ji19) = true:=decide_eq_true hji19n0
 replace hji19n0:=eq_true hji19n0
 obtain ⟨ji20,hji20⟩ : ∃ j_ : Int,(wrap64 (64 - a1)) = j_:=⟨_,rfl⟩
 replace H : (if 0 ≤ (ji20) then (some (Go.bits .or .u64 (ji19) (shr .u64 a0_1 (ji20)),shl .u64 a0_1 a1)) else (none)) = some (r1,r2):=by first|(rw [hji20] at H;exact H)|(simp only [hji20] at H ⊢;exact H)
 have hji20w : (IntKind.i64.wrap (64 - a1)) = ji20:=(zD _).trans hji20
 by_cases c21 : 0 ≤ (ji20)
 rotate_left
 · rw [if_neg c21] at H
   exact absurd H (by simp)
 rw [if_pos c21] at H
 have c21b0:=eq_true c21
 have c21b1 : decide (0 ≤ (ji20)) = true:=decide_eq_true c21
 clear c21
 obtain ⟨ji22,hji22⟩ : ∃ j_ : Int,(shr .u64 a0_1 (ji20)) = j_:=⟨_,rfl⟩
 replace H : (some (Go.bits .or .u64 (ji19) (ji22),shl .u64 a0_1 a1)) = some (r1,r2):=by first|(rw [hji22] at H;exact H)|(simp only [hji22] at H ⊢;exact H)
 have hji22_ : (a0_1 / 2 ^ min (ji20).toNat 64) = ji22:=hji22
 have hji22z : (ji20) ≤ 64 → (a0_1 / 2 ^ (ji20).toNat) = ji22:=z2C hji22
 have c23b0:=eq_true (of_decide_eq_true (by first|(with_reducible assumption)|assumption) : 0 ≤ a1)
 obtain ⟨ji24,hji24⟩ : ∃ j_ : Int,(shl .u64 a0_1 a1) = j_:=⟨_,rfl⟩
 replace H : (some (Go.bits .or .u64 (ji19) (ji22),ji24)) = some (r1,r2):=by first|(rw [hji24] at H;exact H)|(simp only [hji24] at H ⊢;exact H)
 have hji24_ : (IntKind.u64.wrap (a0_1 * 2 ^ min a1.toNat 64)) = ji24:=hji24
 have hji24z : a1 ≤ 64 → (IntKind.u64.wrap (a0_1 * 2 ^ a1.toNat)) = ji24:=z1K hji24
 have hji24n0 : 0 ≤ ji24:=by rw [← hji24];exact Int.emod_nonneg _ (by decide)
 have hji24n1 : decide (0 ≤ ji24) = true:=decide_eq_true hji24n0
 replace hji24n0:=eq_true hji24n0
 simp only [Option.some.injEq,Prod.mk.injEq] at H
 obtain ⟨rfl,rfl⟩:=H
 go_enter Try.func112,Try.ntmps112
 try go_wp2_with (first|((with_reducible refine zO (N:=2) rfl ?_);refine zM ?hg (N:=2) ?hd (cs:=#[.int .u64 a0_0,.int .u64 a0_1]) (t:=30) ?hr ?_;(case hd=>rfl);(case hg=>rfl);(case hr=>first|(go_simp;done)|(go_simp;rfl));intro gb101 hg w25 hbox hb;have n0_:=z2.mk (za (by repeat (first|(with_reducible first|exact HB.out|apply z4|apply z1|apply z3)|exact HB.out)) hb);have n1_:=z2.mk (hbox);have n2_:=z2.mk ((by rw [hg];exact (zc (by repeat (first|(with_reducible first|exact HB.out|apply z4|apply z1|apply z3)|exact HB.out))) : w.heap.size ≤ gb101));have n3_:=z2.mk ((by rw [hg];exact (zc (by repeat (first|(with_reducible first|exact HB.out|apply z4|apply z1|apply z3)|exact HB.out))) : w.heap.size ≤ gb101));clear HB;have HB:=n0_;have BK101:=n1_;have GW101:=n2_;have GE101:=n3_;clear n0_ n1_ n2_ n3_;clear hb hbox hg)|((with_reducible refine zO (N:=4) rfl ?_);refine zM ?hg (N:=4) ?hd (cs:=#[.int .u64 0,.int .u64 0]) (t:=30) ?hr ?_;(case hd=>rfl);(case hg=>rfl);(case hr=>first|(go_simp;done)|(go_simp;rfl));intro gb102 hg w26 hbox hb;have n0_:=z2.mk (ze (g:=gb101) (o:=.cells #[.int .u64 a0_0,.int .u64 a0_1] 30 (0,0)) (by (with_reducible repeat (first|refine z6 ?_ _|refine z8 ?_|refine z5 ?_ _));exact BK101.out) hb);have n1_:=z2.mk (za (by repeat (first|(with_reducible first|exact HB.out|apply z4|apply z1|apply z3|refine z7 ?_ GE101.out)|exact HB.out)) hb);have n2_:=z2.mk (hbox);have n3_:=z2.mk ((by rw [hg];exact (zc (by repeat (first|(with_reducible first|exact HB.out|apply z4|apply z1|apply z3|refine z7 ?_ GE101.out)|exact HB.out))) : w.heap.size ≤ gb102));have n4_:=z2.mk ((by rw [hg];exact (zc (by repeat (first|(with_reducible first|exact HB.out|apply z4|apply z1|apply z3|refine z7 ?_ GE101.out)|exact HB.out))) : w.heap.size ≤ gb102));have n5_:=z2.mk ((by rw [hg];exact Nat.ne_of_lt (z11 (g:=gb101) (o:=.cells #[.int .u64 a0_0,.int .u64 a0_1] 30 (0,0)) (by (with_reducible repeat (first|refine z6 ?_ _|refine z8 ?_|refine z5 ?_ _));exact BK101.out)) : gb101 ≠ gb102));have n6_:=z2.mk ((by rw [hg];exact Nat.ne_of_gt (z11 (g:=gb101) (o:=.cells #[.int .u64 a0_0,.int .u64 a0_1] 30 (0,0)) (by (with_reducible repeat (first|refine z6 ?_ _|refine z8 ?_|refine z5 ?_ _));exact BK101.out)) : gb102 ≠ gb101));clear BK101;clear HB;have BK101:=n0_;have HB:=n1_;have BK102:=n2_;have GW102:=n3_;have GE102:=n4_;have NB101_102:=n5_;have NB102_101:=n6_;clear n0_ n1_ n2_ n3_ n4_ n5_ n6_;clear hb hbox hg))
 have n0_:=z2.mk (z8 BK101.out)
 have n1_:=z2.mk (z8 BK102.out)
 have n2_:=z2.mk (z3 HB.out)
 clear BK101
 clear BK102
 clear HB
 have BK101:=n0_
 have BK102:=n1_
 have HB:=n2_
 clear n0_ n1_ n2_
 refine start_ (n:=16) (S:=fun w'=>w'.cell? ⟨gb101,0,none⟩ = some (.int .u64 a0_0) ∧ w'.cell? ⟨gb101,1,none⟩ = some (.int .u64 a0_1)) (ds:=[]) #[false,false,false,false,false,false,false,false,false,false,false,false,false,false,false,false] (by kernel_rfl) rfl rfl ⟨(z9 BK101.out 0).trans rfl,(z9 BK101.out 1).trans rfl⟩ (fun hHeld=>?_);refine z1M z1S.tab5 z1S.bits5 (fun HT_ HW_=>?_)
 generalize w26.drew = w27 at BK101 BK102 HB hHeld ⊢
 refine pure_ (i:=0) (N:=some 18) (v:=?_) (a':=?_) #[true,false,false,false,false,false,false,false,false,false,false,false,false,false,false,false] rfl rfl (zL HT_.out (by kernel_rfl)) (fun _ _ _ h=>h) (Or.inl ⟨by rfl,?_⟩) ?_ ?_
 rotate_left
 · intro w'
   go_simp
   with_reducible rfl
 rotate_left
 · simp only [Act.put,List.setIfInBounds_toArray,List.set_cons_zero,List.set_cons_succ,zD,zG]
   rfl
 refine pure_ (i:=2) (N:=some 20) (v:=?_) (a':=?_) #[true,false,true,false,false,false,false,false,false,false,false,false,false,false,false,false] rfl rfl (zL HT_.out (by kernel_rfl)) (fun _ _ _ h=>h) (Or.inl ⟨by rfl,?_⟩) ?_ ?_
 rotate_left
 · intro w'
   go_simp
   with_reducible rfl
 rotate_left
 · simp only [Act.put,List.setIfInBounds_toArray,List.set_cons_zero,List.set_cons_succ,zD,zG]
   rfl
 refine pure_ (i:=4) (N:=some 22) (v:=?_) (a':=?_) #[true,false,true,false,true,false,false,false,false,false,false,false,false,false,false,false] rfl rfl (zL HT_.out (by kernel_rfl)) (fun _ _ _ h=>h) (Or.inl ⟨by rfl,?_⟩) ?_ ?_
 rotate_left
 · intro w'
   go_simp
   with_reducible rfl
 rotate_left
 · simp only [Act.put,List.setIfInBounds_toArray,List.set_cons_zero,List.set_cons_succ,zD,zG]
   rfl
 refine pure_ (i:=6) (N:=some 24) (v:=?_) (a':=?_) #[true,false,true,false,true,false,true,false,false,false,false,false,false,false,false,false] rfl rfl (zL HT_.out (by kernel_rfl)) (fun _ _ _ h=>h) (Or.inl ⟨by rfl,?_⟩) ?_ ?_
 rotate_left
 · intro w'
   go_simp
   with_reducible rfl
 rotate_left
 · simp only [Act.put,List.setIfInBounds_toArray,List.set_cons_zero,List.set_cons_succ,zD,zG]
   rfl
 refine pure_ (i:=7) (N:=some 25) (v:=?_) (a':=?_) #[true,false,true,false,true,false,true,true,false,false,false,false,false,false,false,false] rfl rfl (zL HT_.out (by kernel_rfl)) (fun _ _ _ h=>h) (Or.inl ⟨by rfl,?_⟩) ?_ ?_
 rotate_left
 · intro w'
   go_simp
   with_reducible rfl
 rotate_left
 · simp only [Act.put,List.setIfInBounds_toArray,List.set_cons_zero,List.set_cons_succ,zD,zG]
   rfl
 refine pure_ (i:=10) (N:=some 28) (v:=?_) (a':=?_) #[true,false,true,false,true,false,true,true,false,false,true,false,false,false,false,false] rfl rfl (zL HT_.out (by kernel_rfl)) (fun _ _ _ h=>h) (Or.inl ⟨by rfl,?_⟩) ?_ ?_
 rotate_left
 · intro w'
   go_simp
   with_reducible rfl
 rotate_left
 · simp only [Act.put,List.setIfInBounds_toArray,List.set_cons_zero,List.set_cons_succ,zD,zG]
   rfl
 refine pure_ (i:=12) (N:=some 30) (v:=?_) (a':=?_) #[true,false,true,false,true,false,true,true,false,false,true,false,true,false,false,false] rfl rfl (zL HT_.out (by kernel_rfl)) (fun _ _ _ h=>h) (Or.inl ⟨by rfl,?_⟩) ?_ ?_
 rotate_left
 · intro w'
   go_simp
   with_reducible rfl
 rotate_left
 · simp only [Act.put,List.setIfInBounds_toArray,List.set_cons_zero,List.set_cons_succ,zD,zG]
   rfl
 refine take_ (i:=1) (N:=some 19) (v:=?_) (a':=?_) #[true,true,true,false,true,false,true,true,false,false,true,false,true,false,false,false] rfl rfl (z1y HT_.out HW_.out (by kernel_rfl)) (fun _ _ _ h=>h) (Or.inl ⟨by rfl,?_⟩) hHeld ?_ ?_
 rotate_left
 · rintro w' ⟨s0,s1⟩
   go_simp
   with_reducible rfl
 rotate_left
 · simp only [Act.put,List.setIfInBounds_toArray,List.set_cons_zero,List.set_cons_succ,zD,zG]
   rfl
 refine pure_ (i:=3) (N:=some 21) (v:=?_) (a':=?_) #[true,true,true,true,true,false,true,true,false,false,true,false,true,false,false,false] rfl rfl (zL HT_.out (by kernel_rfl)) (fun _ _ _ h=>h) (Or.inl ⟨by rfl,?_⟩) ?_ ?_
 rotate_left
 · intro w'
   go_simp
   with_reducible rfl
 rotate_left
 · simp only [Act.put,List.setIfInBounds_toArray,List.set_cons_zero,List.set_cons_succ,zD,zG]
   rfl
 refine take_ (i:=5) (N:=some 23) (v:=?_) (a':=?_) #[true,true,true,true,true,true,true,true,false,false,true,false,true,false,false,false] rfl rfl (z1y HT_.out HW_.out (by kernel_rfl)) (fun _ _ _ h=>h) (Or.inl ⟨by rfl,?_⟩) hHeld ?_ ?_
 rotate_left
 · rintro w' ⟨s0,s1⟩
   go_simp
   with_reducible rfl
 rotate_left
 · simp only [Act.put,List.setIfInBounds_toArray,List.set_cons_zero,List.set_cons_succ,zD,zG]
   rfl
 refine pure_ (i:=8) (N:=some 26) (v:=?_) (a':=?_) #[true,true,true,true,true,true,true,true,true,false,true,false,true,false,false,false] rfl rfl (zL HT_.out (by kernel_rfl)) (fun _ _ _ h=>h) (Or.inl ⟨by rfl,?_⟩) ?_ ?_
 rotate_left
 · intro w'
   go_simp
   with_reducible rfl
 rotate_left
 · simp only [Act.put,List.setIfInBounds_toArray,List.set_cons_zero,List.set_cons_succ,zD,zG]
   rfl
 refine pure_ (i:=9) (N:=some 27) (v:=?_) (a':=?_) #[true,true,true,true,true,true,true,true,true,true,true,false,true,false,false,false] rfl rfl (zL HT_.out (by kernel_rfl)) (fun _ _ _ h=>h) (Or.inl ⟨by rfl,?_⟩) ?_ ?_
 rotate_left
 · intro w'
   go_simp
   with_reducible rfl
 rotate_left
 · simp only [Act.put,List.setIfInBounds_toArray,List.set_cons_zero,List.set_cons_succ,zD,zG]
   rfl
 refine take_ (i:=11) (N:=some 29) (v:=?_) (a':=?_) #[true,true,true,true,true,true,true,true,true,true,true,true,true,false,false,false] rfl rfl (z1y HT_.out HW_.out (by kernel_rfl)) (fun _ _ _ h=>h) (Or.inl ⟨by rfl,?_⟩) hHeld ?_ ?_
 rotate_left
 · rintro w' ⟨s0,s1⟩
   go_simp
   with_reducible rfl
 rotate_left
 · simp only [Act.put,List.setIfInBounds_toArray,List.set_cons_zero,List.set_cons_succ,zD,zG]
   rfl
 refine pure_ (i:=13) (N:=some 31) (v:=?_) (a':=?_) #[true,true,true,true,true,true,true,true,true,true,true,true,true,true,false,false] rfl rfl (zL HT_.out (by kernel_rfl)) (fun _ _ _ h=>h) (Or.inl ⟨by rfl,?_⟩) ?_ ?_
 rotate_left
 · intro w'
   go_simp
   with_reducible rfl
 rotate_left
 · simp only [Act.put,List.setIfInBounds_toArray,List.set_cons_zero,List.set_cons_succ,zD,zG]
   rfl
 refine pure_ (i:=14) (N:=some 32) (v:=?_) (a':=?_) #[true,true,true,true,true,true,true,true,true,true,true,true,true,true,true,false] rfl rfl (zL HT_.out (by kernel_rfl)) (fun _ _ _ h=>h) (Or.inl ⟨by rfl,?_⟩) ?_ ?_
 rotate_left
 · intro w'
   go_simp
   with_reducible rfl
 rotate_left
 · simp only [Act.put,List.setIfInBounds_toArray,List.set_cons_zero,List.set_cons_succ,zD,zG]
   rfl
 refine one_ (i:=15) (N:=none) #[true,true,true,true,true,true,true,true,true,true,true,true,true,true,true,true] rfl rfl (z1A HT_.out (by kernel_rfl)) (by decide) (fun K hK=>?_)
 have hs28 : w27.cell? ⟨gb102,0,none⟩ = some (.int .u64 0):=(z9 BK102.out 0).trans rfl
 have hfs28:=zd BK102.out 0
 have hns28_0:=NB101_102.out
 have hms28_0:=NB102_101.out
 have hs29 : w27.cell? ⟨gb102,1,none⟩ = some (.int .u64 0):=(z9 BK102.out 1).trans rfl
 have hfs29:=zd BK102.out 1
 have hns29_0:=NB101_102.out
 have hms29_0:=NB102_101.out
 refine skip_ (w1:=?_) (by rfl) rfl ?_ ?_
 rotate_left
 · go_simp
   rfl
 refine hK.out _ _ ⟨((z2m (p:=⟨gb102,_,none⟩) NB101_102.out _).trans (((z2m (p:=⟨gb102,_,none⟩) NB101_102.out _).trans (hHeld.1)))),((z2m (p:=⟨gb102,_,none⟩) NB101_102.out _).trans (((z2m (p:=⟨gb102,_,none⟩) NB101_102.out _).trans (hHeld.2))))⟩ (fun hHeld=>?_)
 clear hK K
 refine done_ (z24 HT_.out (by kernel_rfl)) ?_
 try go_wp2
 refine bodyPost_ret (results_cell_row rfl _ _ gb102 30 #[.int .u64 (Go.bits .or .u64 (ji19) (ji22)),.int .u64 ji24] (0,0) _ rfl (by (with_reducible repeat (first|refine z6 ?_ _|refine z8 ?_|refine z5 ?_ _));refine z15 (cs:=#[.int .u64 (Go.bits .or .u64 (ji19) (ji22)),.int .u64 0]) ?_ 1 _ rfl;(with_reducible repeat (first|refine z6 ?_ _|refine z8 ?_|refine z5 ?_ _));refine z15 (cs:=#[.int .u64 0,.int .u64 0]) ?_ 0 _ rfl;(with_reducible repeat (first|refine z6 ?_ _|refine z8 ?_|refine z5 ?_ _));exact BK102.out) Try.underlying30 rfl (by kernel_rfl)) rfl ?_
 exact ⟨by first|rfl|(simp [zh,zi] <;> rfl)|(simp only [← hji19,← hji20,← hji22,← hji24];first|rfl|(simp [zh,zi] <;> rfl))|(simp [*,zh,zi] <;> rfl),by repeat (first|(with_reducible first|exact HB.out|apply z4|apply z1|apply z3|refine z7 ?_ GE101.out|refine z7 ?_ GE102.out)|exact HB.out)⟩
end Go.Proofs.Ytkhmpaooinpfoaa.P
namespace Go.Proofs.Ytkhmpaooinpfoaa.P
open Go.RowKit Go.Proofs.YtkhmpaooinpfoaaW.PrintWords Go.Proofs.YtkhmpaooinpfoaaW.PrintLast Go.Proofs.YtkhmpaooinpfoaaW.PrintMore
attribute [local go_sem] z17 z19 z1j z1k zZ z10 z18 z1a   -- for this text's walks alone
set_option linter.unusedVariables false
set_option linter.unusedSimpArgs false
def zC.l0 : Nat → Int → Int → List (S30) → List (S30) → Int → Int → Option ((List (S30)) × Int)
 | 0,_,_,_,_,_,_=>none
 | k + 1,x0,x9,x10,x35,x36,x37=>if x37 < x36 then (if 0 ≤ x37 then (if x37 < (x35.length : Int) then (if x9 = 0 then (none) else (if (Int.tmod x37 x9) = 0 then (if x10.length < 8796093022208 then ((some (x10 ++ [(⟨0,0⟩ : S30)] : List (S30))).bind fun y105=>(if 0 ≤ (wrap64 ((y105.length : Int) - 1)) then (if (wrap64 ((y105.length : Int) - 1)) < (y105.length : Int) then (if 0 ≤ x0 then ((z1S.f ((zq x35 x37).f0) ((zq x35 x37).f1) (shl .i64 (Int.tmod x37 x9) x0)).bind fun bt109=>((z1D.f ((zq y105 (wrap64 ((y105.length : Int) - 1))).f0) ((zq y105 (wrap64 ((y105.length : Int) - 1))).f1) bt109.1 bt109.2).bind fun bt111=>(zC.l0 k x0 x9 (y105.set ((wrap64 ((y105.length : Int) - 1)) : Int).toNat (⟨bt111.1,bt111.2⟩ : S30)) x35 x36 (wrap64 (x37 + 1))))) else (none)) else (none)) else (none))) else (none)) else (if 0 ≤ (wrap64 ((x10.length : Int) - 1)) then (if (wrap64 ((x10.length : Int) - 1)) < (x10.length : Int) then (if 0 ≤ x0 then ((z1S.f ((zq x35 x37).f0) ((zq x35 x37).f1) (shl .i64 (Int.tmod x37 x9) x0)).bind fun bt115=>((z1D.f ((zq x10 (wrap64 ((x10.length : Int) - 1))).f0) ((zq x10 (wrap64 ((x10.length : Int) - 1))).f1) bt115.1 bt115.2).bind fun bt117=>(zC.l0 k x0 x9 (x10.set ((wrap64 ((x10.length : Int) - 1)) : Int).toNat (⟨bt117.1,bt117.2⟩ : S30)) x35 x36 (wrap64 (x37 + 1))))) else (none)) else (none)) else (none)))) else (none)) else (none)) else (some (x10,0))
def zC.f (k : Nat) (a0 : Int) (a1 : Int) (l2 : List (S30)) : Option ((List (S30)) × Int):=(z1V.f k a0 a1).bind fun t101=>(if t101 = 0 then (if 0 ≤ (wrap64 (a1 - a0)) then (if (shl .i64 1 (wrap64 (a1 - a0))) = 0 then (none) else (if ((l2.length : Int) % (shl .i64 1 (wrap64 (a1 - a0)))) = 0 then ((z14.f k a0 l2).bind fun t102=>(if t102 = true then (zC.l0 k a0 (shl .i64 1 (wrap64 (a1 - a0))) ([] : List (S30)) l2 (l2.length : Int) 0) else (some (([] : List (S30)),5)))) else (some (([] : List (S30)),6)))) else (none)) else (some (([] : List (S30)),t101)))
theorem zC.z1b : ∀ k,(∀ y0 y1 y2 y3 y4 y5,LeO (zC.l0 k y0 y1 y2 y3 y4 y5) (zC.l0 (k + 1) y0 y1 y2 y3 y4 y5))
 | 0=>fun _ _ _ _ _ _ r h=>by simp [zC.l0] at h
 | k + 1=>by
  have ih0:=zC.z1b k
  · intro y0 y1 y2 y3 y4 y5
    unfold zC.l0
    repeat' first
    | (with_reducible exact ih0 _ _ _ _ _ _)
    | (with_reducible exact z1V.mono _ _ _)
    | (with_reducible exact z14.mono _ _ _)
    | (with_reducible exact LeO.refl _)
    | (with_reducible exact LeO.none _)
    | (with_reducible refine LeO.ite ?_ ?_)
    | (with_reducible refine LeO.bind ?_ (fun _=>?_))
    | exact ih0 _ _ _ _ _ _
    | exact z1V.mono _ _ _
    | exact z14.mono _ _ _
    | exact LeO.none _
    | refine LeO.ite ?_ ?_
    | refine LeO.bind ?_ (fun _=>?_)
theorem zC.mono : ∀ a0 a1 a2 k,LeO (zC.f k a0 a1 a2) (zC.f (k + 1) a0 a1 a2):=by
 intro a0 a1 a2 k
 have ih0:=zC.z1b k
 unfold zC.f
 repeat' first
  | (with_reducible exact ih0 _ _ _ _ _ _)
  | (with_reducible exact z1V.mono _ _ _)
  | (with_reducible exact z14.mono _ _ _)
  | (with_reducible exact LeO.refl _)
  | (with_reducible exact LeO.none _)
  | (with_reducible refine LeO.ite ?_ ?_)
  | (with_reducible refine LeO.bind ?_ (fun _=>?_))
  | exact ih0 _ _ _ _ _ _
  | exact z1V.mono _ _ _
  | exact z14.mono _ _ _
  | exact LeO.none _
  | refine LeO.ite ?_ ?_
  | refine LeO.bind ?_ (fun _=>?_)
def zC.T16 : Bool × List (List Nat × List Nat):=(true,[([],[]),([],[]),([],[]),([],[]),([2,3],[2,3]),([4],[4]),([],[]),([],[]),([],[]),([7,8],[7,8]),([],[]),([9,10],[9,10]),([6,11],[6,11]),([5,12,12],[5,12]),([0,1,0,1,2,3,4,5,6,7,8,9,10,11,12,13],[0,1]),([14,13,13,0,1,2,3,4,5,6,7,8,9,10,11,12,13],[13,14])])
def zC.B16 : List Nat:=[0,0,0,0,12,28,0,0,0,384,0,1920,4032,8188,16383,32767]
theorem zC.tab16 : rtab .any (opsOf Try.f72 16) = zC.T16:=by kernel_rfl
theorem zC.bits16 : waitsOk zC.T16.2 zC.B16 = true:=by kernel_rfl
set_option maxHeartbeats 8000000 in
set_option maxRecDepth 100000 in
theorem zC.calls (k : Nat) (a0 : Int) (a1 : Int) (A2 : Option Addr) (c2 : Nat) (l2 : List (S30)) (r1 : List (S30)) (r2 : Int) (w : World) (hr2 : Kd.C k30 w A2 l2.length l2) (hc2 : l2.length ≤ c2) (h : zC.f k a0 a1 l2 = some (r1,r2)) :
 Calls Try.prog 72 #[.int .i64 a0,.int .i64 a1,.slice A2 l2.length c2] w fun e w'=>∃ v0_ : Value,e = .returned (.tuple #[v0_,.int .i64 r2]) ∧ Kd.R k30 30 w' w.heap.size (fun _=>True) v0_ r1 ∧ Below w.heap.size w w':=by
 have hu30:=Try.underlying30
 have HR2:=z2.mk hr2
 have HC2:=z2.mk hc2
 clear hr2 hc2
 have HB:=z2.mk (Below.refl w.heap.size w)
 have H : ((z1V.f k a0 a1).bind fun t101=>(if t101 = 0 then (if 0 ≤ (wrap64 (a1 - a0)) then (if (shl .i64 1 (wrap64 (a1 - a0))) = 0 then (none) else (if ((l2.length : Int) % (shl .i64 1 (wrap64 (a1 - a0)))) = 0 then ((z14.f k a0 l2).bind fun t102=>(if t102 = true then (zC.l0 k a0 (shl .i64 1 (wrap64 (a1 - a0))) ([] : List (S30)) l2 (l2.length : Int) 0) else (some (([] : List (S30)),5)))) else (some (([] : List (S30)),6)))) else (none)) else (some (([] : List (S30)),t101)))) = some (r1,r2):=h
 clear h
 replace H:=Option.bind_eq_some_iff.mp H
 obtain ⟨t101,A40,H⟩:=H
 replace H : (if t101 = 0 then (if 0 ≤ (wrap64 (a1 - a0)) then (if (shl .i64 1 (wrap64 (a1 - a0))) = 0 then (none) else (if ((l2.length : Int) % (shl .i64 1 (wrap64 (a1 - a0)))) = 0 then ((z14.f k a0 l2).bind fun t102=>(if t102 = true then (zC.l0 k a0 (shl .i64 1 (wrap64 (a1 - a0))) ([] : List (S30)) l2 (l2.length : Int) 0) else (some (([] : List (S30)),5)))) else (some (([] : List (S30)),6)))) else (none)) else (some (([] : List (S30)),t101))) = some (r1,r2):=H
 have A4:=z2.mk A40
 clear A40
 by_cases c5 : t101 = 0
 rotate_left
 · rw [if_neg c5] at H
   have c5b0 : (t101 == 0) = false:=beq_eq_false_iff_ne.mpr c5
   have c5b1 : (t101 != 0) = true:=bne_iff_ne.mpr c5
   simp only [Option.some.injEq,Prod.mk.injEq] at H
   obtain ⟨rfl,rfl⟩:=H
   go_enter Try.func72,Try.ntmps72
   go_wp2_with (first|((with_reducible refine zm (f:=111) rfl ?_);refine goesL_ (some 16) rfl rfl Try.func111 (by kernel_rfl) rfl #[.int .i64 a0,.int .i64 a1] rfl (by (try simp only [List.map_toArray,List.map_cons,List.map_nil]);first|done|rfl|(simp only [List.length_drop,List.length_take];rfl)) ?_;(with_reducible refine (z1V.calls k a0 a1 t101 _ A4.out).mono ?_);rintro e w' ⟨rfl,⟨nd,rfl⟩⟩;refine ⟨_,rfl,?_⟩))
   go_ret2
   exact ⟨_,by first|rfl|(simp [zh,zi] <;> rfl)|(simp [*,zh,zi] <;> rfl),by first|exact Kd.z25 _ _ _ _ _|exact Kd.z2i _ _ _ _ _|exact Kd.z2l _ _ _ _ _|exact Kd.z2j _ _ _ _ _|exact Kd.z2k _ _ _ _ _,by repeat (first|(with_reducible first|exact HB.out|apply z4|apply z1|apply z3)|exact HB.out)⟩
 rw [if_pos c5] at H
 have c5b0 : (t101 == 0) = true:=beq_iff_eq.mpr c5
 have c5b1 : (t101 != 0) = false:=bne_eq_false_iff_eq.mpr c5
 clear c5
 obtain ⟨ji6,hji6⟩ : ∃ j_ : Int,(wrap64 (a1 - a0)) = j_:=⟨_,rfl⟩
 replace H : (if 0 ≤ (ji6) then (if (shl .i64 1 (ji6)) = 0 then (none) else (if ((l2.length : Int) % (shl .i64 1 (ji6))) = 0 then ((z14.f k a0 l2).bind fun t102=>(if t102 = true then (zC.l0 k a0 (shl .i64 1 (ji6)) ([] : List (S30)) l2 (l2.length : Int) 0) else (some (([] : List (S30)),5)))) else (some (([] : List (S30)),6)))) else (none)) = some (r1,r2):=by first|(rw [hji6] at H;exact H)|(simp only [hji6] at H ⊢;exact H)
 (try rw [hji6] at A4)
 have hji6w : (IntKind.i64.wrap (a1 - a0)) = ji6:=(zD _).trans hji6
 by_cases c7 : 0 ≤ (ji6)
 rotate_left
 · rw [if_neg c7] at H
   exact absurd H (by simp)
 rw [if_pos c7] at H
 have c7b0:=eq_true c7
 have c7b1 : decide (0 ≤ (ji6)) = true:=decide_eq_true c7
 clear c7
 obtain ⟨ji8,hji8⟩ : ∃ j_ : Int,(shl .i64 1 (ji6)) = j_:=⟨_,rfl⟩
 replace H : (if (ji8) = 0 then (none) else (if ((l2.length : Int) % (ji8)) = 0 then ((z14.f k a0 l2).bind fun t102=>(if t102 = true then (zC.l0 k a0 ji8 ([] : List (S30)) l2 (l2.length : Int) 0) else (some (([] : List (S30)),5)))) else (some (([] : List (S30)),6)))) = some (r1,r2):=by first|(rw [hji8] at H;exact H)|(simp only [hji8] at H ⊢;exact H)
 (try rw [hji8] at A4)
 have hji8_ : (IntKind.i64.wrap (1 * 2 ^ min (ji6).toNat 64)) = ji8:=hji8
 have hji8z : (ji6) ≤ 64 → (IntKind.i64.wrap (1 * 2 ^ (ji6).toNat)) = ji8:=z1K hji8
 have hji8u : (IntKind.i64.wrap (2 ^ min (ji6).toNat 64)) = ji8:=by have h_:=hji8_;rw [Int.one_mul] at h_;exact h_
 have hji8v : (ji6) ≤ 64 → (IntKind.i64.wrap (2 ^ (ji6).toNat)) = ji8:=fun hle_=>by have h_:=hji8z hle_;rw [Int.one_mul] at h_;exact h_
 have hji8y : (wrap64 (1 * 2 ^ min (ji6).toNat 64)) = ji8:=(zD _).symm.trans hji8_
 have hji8x : (ji6) ≤ 64 → (wrap64 (1 * 2 ^ (ji6).toNat)) = ji8:=fun h_=>(zD _).symm.trans (hji8z h_)
 by_cases c9 : (ji8) = 0
 · rw [if_pos c9] at H
   exact absurd H (by simp)
 rw [if_neg c9] at H
 have c9b0 : ((ji8) == 0) = false:=beq_eq_false_iff_ne.mpr c9
 have c9b1 : ((ji8) != 0) = true:=bne_iff_ne.mpr c9
 by_cases c10 : ((l2.length : Int) % (ji8)) = 0
 rotate_left
 · rw [if_neg c10] at H
   have c10b0 : (((l2.length : Int) % (ji8)) == 0) = false:=beq_eq_false_iff_ne.mpr c10
   have c10b1 : (((l2.length : Int) % (ji8)) != 0) = true:=bne_iff_ne.mpr c10
   simp only [Option.some.injEq,Prod.mk.injEq] at H
   obtain ⟨rfl,rfl⟩:=H
   go_enter Try.func72,Try.ntmps72
   go_wp2_with (first|((with_reducible refine zm (f:=111) rfl ?_);refine goesL_ (some 16) rfl rfl Try.func111 (by kernel_rfl) rfl #[.int .i64 a0,.int .i64 a1] rfl (by (try simp only [List.map_toArray,List.map_cons,List.map_nil]);first|done|rfl|(simp only [List.length_drop,List.length_take];rfl)) ?_;(with_reducible refine (z1V.calls k a0 a1 t101 _ A4.out).mono ?_);rintro e w' ⟨rfl,⟨nd,rfl⟩⟩;refine ⟨_,rfl,?_⟩))
   go_ret2
   exact ⟨_,by first|rfl|(simp [zh,zi] <;> rfl)|(simp only [← hji6,← hji8];first|rfl|(simp [zh,zi] <;> rfl))|(simp [*,zh,zi] <;> rfl),by first|exact Kd.z25 _ _ _ _ _|exact Kd.z2i _ _ _ _ _|exact Kd.z2l _ _ _ _ _|exact Kd.z2j _ _ _ _ _|exact Kd.z2k _ _ _ _ _,by repeat (first|(with_reducible first|exact HB.out|apply z4|apply z1|apply z3)|exact HB.out)⟩
 rw [if_pos c10] at H
 have c10b0 : (((l2.length : Int) % (ji8)) == 0) = true:=beq_iff_eq.mpr c10
 have c10b1 : (((l2.length : Int) % (ji8)) != 0) = false:=bne_eq_false_iff_eq.mpr c10
 clear c10
 replace H:=Option.bind_eq_some_iff.mp H
 obtain ⟨t102,A110,H⟩:=H
 replace H : (if t102 = true then (zC.l0 k a0 ji8 ([] : List (S30)) l2 (l2.length : Int) 0) else (some (([] : List (S30)),5))) = some (r1,r2):=H
 have A11:=z2.mk A110
 clear A110
 by_cases c12 : t102 = true
 rotate_left
 · replace c12:=Bool.eq_false_iff.mpr c12
   subst c12
   have H1 : (some (([] : List (S30)),5)) = some (r1,r2):=by rw [if_neg (show ¬ (false = true) by decide)] at H;exact H
   clear H
   have H:=H1
   clear H1
   simp only [Option.some.injEq,Prod.mk.injEq] at H
   obtain ⟨rfl,rfl⟩:=H
   go_enter Try.func72,Try.ntmps72
   go_wp2_with (first|((with_reducible refine zm (f:=111) rfl ?_);refine goesL_ (some 16) rfl rfl Try.func111 (by kernel_rfl) rfl #[.int .i64 a0,.int .i64 a1] rfl (by (try simp only [List.map_toArray,List.map_cons,List.map_nil]);first|done|rfl|(simp only [List.length_drop,List.length_take];rfl)) ?_;(with_reducible refine (z1V.calls k a0 a1 t101 _ A4.out).mono ?_);rintro e w' ⟨rfl,⟨nd,rfl⟩⟩;refine ⟨_,rfl,?_⟩)|((with_reducible refine zm (f:=76) rfl ?_);refine goesL_ (some 33) rfl rfl Try.func76 (by kernel_rfl) rfl #[.int .i64 a0,.slice A2 l2.length c2] rfl (by (try simp only [List.map_toArray,List.map_cons,List.map_nil]);first|done|rfl|(simp only [List.length_drop,List.length_take];rfl)) ?_;(with_reducible refine (z14.calls k a0 _ _ l2 false _ ?side1 ?side2 A11.out).mono ?_);(case side1=>repeat (first|exact HR2.out|(with_reducible refine Kd.zS ?_ _)|(with_reducible refine Kd.zT ?_ _)|(with_reducible refine Kd.z16 ?_)));(case side2=>exact HC2.out);rintro e w52 ⟨rfl,hb⟩;refine ⟨_,rfl,?_⟩;have n0_:=z2.mk (za (by repeat (first|(with_reducible first|exact HB.out|apply z4|apply z1|apply z3)|exact HB.out)) hb);clear HB;have HB:=n0_;clear n0_;(try clear hb);(try clear hb2);(try clear hk);(try clear hi)))
   go_ret2
   exact ⟨_,by first|rfl|(simp [zh,zi] <;> rfl)|(simp only [← hji6,← hji8];first|rfl|(simp [zh,zi] <;> rfl))|(simp [*,zh,zi] <;> rfl),by first|exact Kd.z25 _ _ _ _ _|exact Kd.z2i _ _ _ _ _|exact Kd.z2l _ _ _ _ _|exact Kd.z2j _ _ _ _ _|exact Kd.z2k _ _ _ _ _,by repeat (first|(with_reducible first|exact HB.out|apply z4|apply z1|apply z3)|exact HB.out)⟩
 subst c12
 have H1 : (zC.l0 k a0 ji8 ([] : List (S30)) l2 (l2.length : Int) 0) = some (r1,r2):=by rw [if_pos rfl] at H;exact H
 clear H
 have H:=H1
 clear H1
 have H':=z2.mk H
 clear H
 go_enter Try.func72,Try.ntmps72
 go_wp2_with (first|((with_reducible refine zm (f:=111) rfl ?_);refine goesL_ (some 16) rfl rfl Try.func111 (by kernel_rfl) rfl #[.int .i64 a0,.int .i64 a1] rfl (by (try simp only [List.map_toArray,List.map_cons,List.map_nil]);first|done|rfl|(simp only [List.length_drop,List.length_take];rfl)) ?_;(with_reducible refine (z1V.calls k a0 a1 t101 _ A4.out).mono ?_);rintro e w' ⟨rfl,⟨nd,rfl⟩⟩;refine ⟨_,rfl,?_⟩)|((with_reducible refine zm (f:=76) rfl ?_);refine goesL_ (some 33) rfl rfl Try.func76 (by kernel_rfl) rfl #[.int .i64 a0,.slice A2 l2.length c2] rfl (by (try simp only [List.map_toArray,List.map_cons,List.map_nil]);first|done|rfl|(simp only [List.length_drop,List.length_take];rfl)) ?_;(with_reducible refine (z14.calls k a0 _ _ l2 true _ ?side1 ?side2 A11.out).mono ?_);(case side1=>repeat (first|exact HR2.out|(with_reducible refine Kd.zS ?_ _)|(with_reducible refine Kd.zT ?_ _)|(with_reducible refine Kd.z16 ?_)));(case side2=>exact HC2.out);rintro e w13 ⟨rfl,hb⟩;refine ⟨_,rfl,?_⟩;have n0_:=z2.mk (za (by repeat (first|(with_reducible first|exact HB.out|apply z4|apply z1|apply z3)|exact HB.out)) hb);clear HB;have HB:=n0_;clear n0_;(try clear hb);(try clear hb2);(try clear hk);(try clear hi)))
 go_loopg [10,37] k (fun kq v10 v37 w'=>∃ (x10_1 : List (S30)) (x37_1 : Int),v37 = .int .i64 x37_1 ∧ z2 (zC.l0 kq a0 ji8 x10_1 l2 (l2.length : Int) x37_1 = some (r1,r2)) ∧ z2 (kq ≤ k) ∧ z2 (Kd.R k30 30 w' w.heap.size (fun _=>True) v10 x10_1) ∧ z2 (Below w.heap.size w w'))
 case atStart=>exact ⟨(([] : List (S30))),(0),(by first|rfl|(simp;done)|(simp [*];done)),H',⟨Nat.le_refl _⟩,⟨by first|exact Kd.z25 _ _ _ _ _|exact Kd.z2i _ _ _ _ _|exact Kd.z2l _ _ _ _ _|exact Kd.z2j _ _ _ _ _|exact Kd.z2k _ _ _ _ _⟩,⟨by repeat (first|(with_reducible first|exact HB.out|apply z4|apply z1|apply z3)|exact HB.out)⟩⟩
 case round =>
  clear H'
  (try clear c1);(try clear c2);(try clear p2);(try clear c5);(try clear c5b0);(try clear c5b1);(try clear p6);(try clear c7);(try clear c7b0);(try clear c7b1);(try clear c9);(try clear c9b0);(try clear c9b1);(try clear c10);(try clear c10b0);(try clear c10b1);(try clear c11);(try clear c12)
  obtain ⟨x10_1,x37_1,rfl,HA,HK1,HO_10,HB⟩:=hrel
  cases gk with
  | zero=>exact absurd HA.out (by simp [zC.l0])
  | succ k1 =>
   have H:=HA.out
   clear HA
   simp only [zC.l0] at H
   by_cases c14 : x37_1 < (l2.length : Int)
   rotate_left
   · rw [if_neg c14] at H
     have c14b0 : decide (x37_1 < (l2.length : Int)) = false:=decide_eq_false c14
     clear c14
     simp only [Option.some.injEq,Prod.mk.injEq] at H
     obtain ⟨rfl,rfl⟩:=H
     go_wp2
     go_ret2
     exact ⟨_,by first|rfl|(simp [zh,zi] <;> rfl)|(simp only [← hji6,← hji8];first|rfl|(simp [zh,zi] <;> rfl))|(simp [*,zh,zi] <;> rfl),by (with_reducible repeat (first|apply Kd.zj|apply Kd.zk|apply Kd.zo));exact HO_10.out,by repeat (first|(with_reducible first|exact HB.out|apply z4|apply z1|apply z3)|exact HB.out)⟩
   rw [if_pos c14] at H
   have c14b0 : decide (x37_1 < (l2.length : Int)) = true:=decide_eq_true c14
   clear c14
   by_cases c15 : 0 ≤ x37_1
   rotate_left
   · rw [if_neg c15] at H
     exact absurd H (by simp)
   rw [if_pos c15] at H
   have c15b0 : decide (0 ≤ x37_1) = true:=decide_eq_true c15
   clear c15
   by_cases c16 : x37_1 < (l2.length : Int)
   rotate_left
   · rw [if_neg c16] at H
     exact absurd H (by simp)
   rw [if_pos c16] at H
   have c16b0 : decide (x37_1 < (l2.length : Int)) = true:=decide_eq_true c16
   clear c16
   by_cases c17 : ji8 = 0
   · rw [if_pos c17] at H
     exact absurd H (by simp)
   rw [if_neg c17] at H
   have c17b0 : (ji8 == 0) = false:=beq_eq_false_iff_ne.mpr c17
   have c17b1 : (ji8 != 0) = true:=bne_iff_ne.mpr c17
   by_cases c18 : (Int.tmod x37_1 ji8) = 0
   rotate_left
   · rw [if_neg c18] at H
     have c18b0 : ((Int.tmod x37_1 ji8) == 0) = false:=beq_eq_false_iff_ne.mpr c18
     have c18b1 : ((Int.tmod x37_1 ji8) != 0) = true:=bne_iff_ne.mpr c18
     obtain ⟨ji36,hji36⟩ : ∃ j_ : Int,(wrap64 ((x10_1.length : Int) - 1)) = j_:=⟨_,rfl⟩
     replace H : (if 0 ≤ (ji36) then (if (ji36) < (x10_1.length : Int) then (if 0 ≤ a0 then ((z1S.f ((zq l2 x37_1).f0) ((zq l2 x37_1).f1) (shl .i64 (Int.tmod x37_1 ji8) a0)).bind fun bt115=>((z1D.f ((zq x10_1 (ji36)).f0) ((zq x10_1 (ji36)).f1) bt115.1 bt115.2).bind fun bt117=>(zC.l0 k1 a0 ji8 (x10_1.set ((ji36) : Int).toNat (⟨bt117.1,bt117.2⟩ : S30)) l2 (l2.length : Int) (wrap64 (x37_1 + 1))))) else (none)) else (none)) else (none)) = some (r1,r2):=by first|(rw [hji36] at H;exact H)|(simp only [hji36] at H ⊢;exact H)
     have hji36w : (IntKind.i64.wrap ((x10_1.length : Int) - 1)) = ji36:=(zD _).trans hji36
     by_cases c37 : 0 ≤ (ji36)
     rotate_left
     · rw [if_neg c37] at H
       exact absurd H (by simp)
     rw [if_pos c37] at H
     have c37b0 : decide (0 ≤ (ji36)) = true:=decide_eq_true c37
     clear c37
     by_cases c38 : (ji36) < (x10_1.length : Int)
     rotate_left
     · rw [if_neg c38] at H
       exact absurd H (by simp)
     rw [if_pos c38] at H
     have c38b0 : decide ((ji36) < (x10_1.length : Int)) = true:=decide_eq_true c38
     clear c38
     by_cases c39 : 0 ≤ a0
     rotate_left
     · rw [if_neg c39] at H
       exact absurd H (by simp)
     rw [if_pos c39] at H
     have c39b0:=eq_true c39
     have c39b1 : decide (0 ≤ a0) = true:=decide_eq_true c39
     clear c39
     obtain ⟨ji40,hji40⟩ : ∃ j_ : Int,(shl .i64 (Int.tmod x37_1 ji8) a0) = j_:=⟨_,rfl⟩
     replace H : ((z1S.f ((zq l2 x37_1).f0) ((zq l2 x37_1).f1) (ji40)).bind fun bt115=>((z1D.f ((zq x10_1 (ji36)).f0) ((zq x10_1 (ji36)).f1) bt115.1 bt115.2).bind fun bt117=>(zC.l0 k1 a0 ji8 (x10_1.set ((ji36) : Int).toNat (⟨bt117.1,bt117.2⟩ : S30)) l2 (l2.length : Int) (wrap64 (x37_1 + 1))))) = some (r1,r2):=by first|(rw [hji40] at H;exact H)|(simp only [hji40] at H ⊢;exact H)
     have hji40_ : (IntKind.i64.wrap ((Int.tmod x37_1 ji8) * 2 ^ min a0.toNat 64)) = ji40:=hji40
     have hji40z : a0 ≤ 64 → (IntKind.i64.wrap ((Int.tmod x37_1 ji8) * 2 ^ a0.toNat)) = ji40:=z1K hji40
     have hji40y : (wrap64 ((Int.tmod x37_1 ji8) * 2 ^ min a0.toNat 64)) = ji40:=(zD _).symm.trans hji40_
     have hji40x : a0 ≤ 64 → (wrap64 ((Int.tmod x37_1 ji8) * 2 ^ a0.toNat)) = ji40:=fun h_=>(zD _).symm.trans (hji40z h_)
     replace H:=Option.bind_eq_some_iff.mp H
     obtain ⟨⟨t115,t116⟩,A410,H⟩:=H
     replace H : ((z1D.f ((zq x10_1 (ji36)).f0) ((zq x10_1 (ji36)).f1) t115 t116).bind fun bt117=>(zC.l0 k1 a0 ji8 (x10_1.set ((ji36) : Int).toNat (⟨bt117.1,bt117.2⟩ : S30)) l2 (l2.length : Int) (wrap64 (x37_1 + 1)))) = some (r1,r2):=H
     have A41:=z2.mk A410
     clear A410
     replace H:=Option.bind_eq_some_iff.mp H
     obtain ⟨⟨t117,t118⟩,A420,H⟩:=H
     replace H : (zC.l0 k1 a0 ji8 (x10_1.set ((ji36) : Int).toNat (⟨t117,t118⟩ : S30)) l2 (l2.length : Int) (wrap64 (x37_1 + 1))) = some (r1,r2):=H
     have A42:=z2.mk A420
     clear A420
     obtain ⟨y119,hy119⟩ : ∃ y_ : List (S30),y_ = (x10_1.set ((ji36) : Int).toNat (⟨t117,t118⟩ : S30)):=⟨_,rfl⟩
     replace H : (zC.l0 k1 a0 ji8 y119 l2 (l2.length : Int) (wrap64 (x37_1 + 1))) = some (r1,r2):=by first|(rw [hy119];with_reducible exact H)|(have H2_:=(Option.bind_some _ _).symm.trans H;rw [hy119];with_reducible exact H2_)|(have H2_:=(Option.bind_some _ _).symm.trans H;with_reducible exact H2_)|with_reducible exact H|(rw [hy119];exact H)|exact H
     have Ny119:=z2.mk hy119
     clear hy119
     have H':=z2.mk H
     clear H
     have p103 : 0 ≤ (x37_1 : Int):=of_decide_eq_true (by first|(with_reducible assumption)|assumption)
     have q103 : x37_1 < (l2.length : Int):=of_decide_eq_true (by first|(with_reducible assumption)|assumption)
     obtain ⟨ad103,e103,hx103_0,hx103_1⟩:=z2o HR2.out x37_1 p103 q103
     cases e103
     replace hx103_0:=(HB.out.cell (World.block_lt_of_cell? w _ hx103_0)).trans hx103_0
     replace hx103_1:=(HB.out.cell (World.block_lt_of_cell? w _ hx103_1)).trans hx103_1
     replace p103:=eq_true p103
     replace q103:=eq_true q103
     try go_wp2_with (first|((with_reducible refine zO (N:=12) rfl ?_);refine zM ?hg (N:=12) ?hd (cs:=#[.int .u64 0,.int .u64 0]) (t:=30) ?hr ?_;(case hd=>rfl);(case hg=>rfl);(case hr=>first|(go_simp;done)|(go_simp;rfl));intro gb104 hg w44 hbox hb;have n0_:=z2.mk (Kd.zE (Kd.z2n (by (with_reducible repeat (first|apply Kd.zj|apply Kd.zk|apply Kd.zo));exact HO_10.out) gb104 (Nat.le_of_eq hg.symm)) hb);have n1_:=z2.mk (za (by repeat (first|(with_reducible first|exact HB.out|apply z4|apply z1|apply z3)|exact HB.out)) hb);have n2_:=z2.mk (hbox);have n3_:=z2.mk ((by rw [hg];exact (zc (by repeat (first|(with_reducible first|exact HB.out|apply z4|apply z1|apply z3)|exact HB.out))) : w.heap.size ≤ gb104));have n4_:=z2.mk ((by rw [hg];exact (zc (by repeat (first|(with_reducible first|exact HB.out|apply z4|apply z1|apply z3)|exact HB.out))) : w.heap.size ≤ gb104));clear HO_10;clear HB;have HO_10:=n0_;have HB:=n1_;have BK104:=n2_;have GW104:=n3_;have GE104:=n4_;clear n0_ n1_ n2_ n3_ n4_;clear hb hbox hg;have hcz45_0 : w44.cell? ⟨gb104,0,none⟩ = some (.int .u64 0):=(z9 BK104.out 0).trans rfl;have hcz45_1 : w44.cell? ⟨gb104,1,none⟩ = some (.int .u64 0):=(z9 BK104.out 1).trans rfl;have hfz45_0:=zd BK104.out 0;have hfz45_1:=zd BK104.out 1;obtain ⟨Ao46,co46,eo46⟩:=Kd.z1s HO_10.out;subst eo46))
     have n0_ : z2 (Kd.R k30 30 ((w44.setCell ⟨gb104,0,none⟩ (.int .u64 ((zq l2 x37_1).f0))).setCell ⟨gb104,1,none⟩ (.int .u64 ((zq l2 x37_1).f1))) w.heap.size (fun k_=>k_ ≠ gb104) (.slice Ao46 x10_1.length co46) x10_1):=⟨by (with_reducible repeat (first|apply Kd.zj|apply Kd.zk|apply Kd.zo));exact Kd.z1w (Kd.z2M (p:=⟨gb104,1,none⟩) (Kd.z2M (p:=⟨gb104,0,none⟩) (Kd.z1w HO_10.out (fun k_ hk=>(⟨hk,hk.2⟩ : _ ∧ k_ ≠ gb104))) (fun _ hk=>hk.2) (.int .u64 ((zq l2 x37_1).f0))) (fun _ hk=>hk.2) (.int .u64 ((zq l2 x37_1).f1))) (fun _ hk=>hk.1.2)⟩
     have n1_ : z2 (((w44.setCell ⟨gb104,0,none⟩ (.int .u64 ((zq l2 x37_1).f0))).setCell ⟨gb104,1,none⟩ (.int .u64 ((zq l2 x37_1).f1))).heap[gb104]? = some (.cells #[.int .u64 ((zq l2 x37_1).f0),.int .u64 ((zq l2 x37_1).f1)] 30 (0,0))):=⟨by (with_reducible repeat (first|refine z6 ?_ _|refine z8 ?_|refine z5 ?_ _));refine z15 (cs:=#[.int .u64 ((zq l2 x37_1).f0),.int .u64 0]) ?_ 1 _ rfl;(with_reducible repeat (first|refine z6 ?_ _|refine z8 ?_|refine z5 ?_ _));refine z15 (cs:=#[.int .u64 0,.int .u64 0]) ?_ 0 _ rfl;(with_reducible repeat (first|refine z6 ?_ _|refine z8 ?_|refine z5 ?_ _));exact BK104.out⟩
     have n2_ : z2 (Below w.heap.size w ((w44.setCell ⟨gb104,0,none⟩ (.int .u64 ((zq l2 x37_1).f0))).setCell ⟨gb104,1,none⟩ (.int .u64 ((zq l2 x37_1).f1)))):=⟨by repeat (first|(with_reducible first|exact HB.out|apply z4|apply z1|apply z3|refine z7 ?_ GE104.out)|exact HB.out)⟩
     (try clear HO_10)
     (try clear BK104)
     (try clear HB)
     generalize ((w44.setCell ⟨gb104,0,none⟩ (.int .u64 ((zq l2 x37_1).f0))).setCell ⟨gb104,1,none⟩ (.int .u64 ((zq l2 x37_1).f1))) = w47 at n0_ n1_ n2_ ⊢
     have HO_10:=n0_
     have BK104:=n1_
     have HB:=n2_
     clear n0_ n1_ n2_
     have n0_:=z2.mk (Kd.zo HO_10.out)
     have n1_:=z2.mk (z8 BK104.out)
     have n2_:=z2.mk (z3 HB.out)
     clear HO_10
     clear BK104
     clear HB
     have HO_10:=n0_
     have BK104:=n1_
     have HB:=n2_
     clear n0_ n1_ n2_
     have p114 : 0 ≤ ((ji36) : Int):=of_decide_eq_true (by first|(with_reducible assumption)|assumption)
     have q114 : (ji36) < (x10_1.length : Int):=of_decide_eq_true (by first|(with_reducible assumption)|assumption)
     obtain ⟨ad114,e114,hx114_0,hx114_1⟩:=z2o (Kd.zI HO_10.out).2.2 (ji36) p114 q114
     cases e114
     replace p114:=eq_true p114
     replace q114:=eq_true q114
     refine start_ (n:=16) (S:=fun w'=>w'.cell? ⟨gb104,0,none⟩ = some (.int .u64 ((zq l2 x37_1).f0)) ∧ w'.cell? ⟨gb104,1,none⟩ = some (.int .u64 ((zq l2 x37_1).f1)) ∧ w'.cell? (ad114.add (((ji36)).toNat * 2)) = some (.int .u64 ((zq x10_1 (ji36)).f0)) ∧ w'.cell? ⟨(ad114.add (((ji36)).toNat * 2)).block,(ad114.add (((ji36)).toNat * 2)).off + 1,none⟩ = some (.int .u64 ((zq x10_1 (ji36)).f1))) (ds:=[15]) #[false,false,false,false,false,false,false,false,false,false,false,false,false,false,false,false] (by kernel_rfl) rfl rfl ⟨(z9 BK104.out 0).trans rfl,(z9 BK104.out 1).trans rfl,hx114_0,hx114_1⟩ (fun hHeld=>?_);refine z1M zC.tab16 zC.bits16 (fun HT_ HW_=>?_)
     generalize w47.drew = w48 at HO_10 BK104 HB hx114_0 hx114_1 hHeld ⊢
     refine pure_ (i:=0) (N:=some 53) (v:=?_) (a':=?_) #[true,false,false,false,false,false,false,false,false,false,false,false,false,false,false,false] rfl rfl (zL HT_.out (by kernel_rfl)) (fun _ _ _ h=>h) (Or.inl ⟨by rfl,?_⟩) ?_ ?_
     rotate_left
     · intro w'
       go_simp
       with_reducible rfl
     rotate_left
     · simp only [Act.put,List.setIfInBounds_toArray,List.set_cons_zero,List.set_cons_succ,zD,zG]
       rfl
     refine pure_ (i:=1) (N:=some 54) (v:=?_) (a':=?_) #[true,true,false,false,false,false,false,false,false,false,false,false,false,false,false,false] rfl rfl (zL HT_.out (by kernel_rfl)) (fun _ _ _ h=>h) (Or.inl ⟨by rfl,?_⟩) ?_ ?_
     rotate_left
     · intro w'
       go_simp
       with_reducible rfl
     rotate_left
     · simp only [Act.put,List.setIfInBounds_toArray,List.set_cons_zero,List.set_cons_succ,zD,zG]
       rfl
     refine pure_ (i:=2) (N:=some 55) (v:=?_) (a':=?_) #[true,true,true,false,false,false,false,false,false,false,false,false,false,false,false,false] rfl rfl (zL HT_.out (by kernel_rfl)) (fun _ _ _ h=>h) (Or.inl ⟨by rfl,?_⟩) ?_ ?_
     rotate_left
     · intro w'
       go_simp
       with_reducible rfl
     rotate_left
     · simp only [Act.put,List.setIfInBounds_toArray,List.set_cons_zero,List.set_cons_succ,zD,zG]
       rfl
     refine pure_ (i:=3) (N:=some 56) (v:=?_) (a':=?_) #[true,true,true,true,false,false,false,false,false,false,false,false,false,false,false,false] rfl rfl (zL HT_.out (by kernel_rfl)) (fun _ _ _ h=>h) (Or.inl ⟨by rfl,?_⟩) ?_ ?_
     rotate_left
     · intro w'
       go_simp
       with_reducible rfl
     rotate_left
     · simp only [Act.put,List.setIfInBounds_toArray,List.set_cons_zero,List.set_cons_succ,zD,zG]
       rfl
     refine pure_ (i:=4) (N:=some 57) (v:=?_) (a':=?_) #[true,true,true,true,true,false,false,false,false,false,false,false,false,false,false,false] rfl rfl (zL HT_.out (by kernel_rfl)) (fun _ _ _ h=>h) (Or.inl ⟨by rfl,?_⟩) ?_ ?_
     rotate_left
     · intro w'
       go_simp
       with_reducible rfl
     rotate_left
     · simp only [Act.put,List.setIfInBounds_toArray,List.set_cons_zero,List.set_cons_succ,zD,zG]
       rfl
     refine pure_ (i:=7) (N:=some 60) (v:=?_) (a':=?_) #[true,true,true,true,true,false,false,true,false,false,false,false,false,false,false,false] rfl rfl (zL HT_.out (by kernel_rfl)) (fun _ _ _ h=>h) (Or.inl ⟨by rfl,?_⟩) ?_ ?_
     rotate_left
     · intro w'
       go_simp
       with_reducible rfl
     rotate_left
     · simp only [Act.put,List.setIfInBounds_toArray,List.set_cons_zero,List.set_cons_succ,zD,zG]
       rfl
     refine pure_ (i:=8) (N:=some 61) (v:=?_) (a':=?_) #[true,true,true,true,true,false,false,true,true,false,false,false,false,false,false,false] rfl rfl (zL HT_.out (by kernel_rfl)) (fun _ _ _ h=>h) (Or.inl ⟨by rfl,?_⟩) ?_ ?_
     rotate_left
     · intro w'
       go_simp
       with_reducible rfl
     rotate_left
     · simp only [Act.put,List.setIfInBounds_toArray,List.set_cons_zero,List.set_cons_succ,zD,zG]
       rfl
     refine pure_ (i:=9) (N:=some 62) (v:=?_) (a':=?_) #[true,true,true,true,true,false,false,true,true,true,false,false,false,false,false,false] rfl rfl (zL HT_.out (by kernel_rfl)) (fun _ _ _ h=>h) (Or.inl ⟨by rfl,?_⟩) ?_ ?_
     rotate_left
     · intro w'
       go_simp
       with_reducible rfl
     rotate_left
     · simp only [Act.put,List.setIfInBounds_toArray,List.set_cons_zero,List.set_cons_succ,zD,zG]
       rfl
     refine pure_ (i:=10) (N:=some 63) (v:=?_) (a':=?_) #[true,true,true,true,true,false,false,true,true,true,true,false,false,false,false,false] rfl rfl (zL HT_.out (by kernel_rfl)) (fun _ _ _ h=>h) (Or.inl ⟨by rfl,?_⟩) ?_ ?_
     rotate_left
     · intro w'
       go_simp
       with_reducible rfl
     rotate_left
     · simp only [Act.put,List.setIfInBounds_toArray,List.set_cons_zero,List.set_cons_succ,zD,zG]
       rfl
     refine pure_ (i:=11) (N:=some 64) (v:=?_) (a':=?_) #[true,true,true,true,true,false,false,true,true,true,true,true,false,false,false,false] rfl rfl (zL HT_.out (by kernel_rfl)) (fun _ _ _ h=>h) (Or.inl ⟨by rfl,?_⟩) ?_ ?_
     rotate_left
     · intro w'
       go_simp
       with_reducible rfl
     rotate_left
     · simp only [Act.put,List.setIfInBounds_toArray,List.set_cons_zero,List.set_cons_succ,zD,zG]
       rfl
     refine take_ (i:=5) (N:=some 58) (v:=?_) (a':=?_) #[true,true,true,true,true,true,false,true,true,true,true,true,false,false,false,false] rfl rfl (z1y HT_.out HW_.out (by kernel_rfl)) (fun _ _ _ h=>h) (Or.inl ⟨by rfl,?_⟩) hHeld ?_ ?_
     rotate_left
     · rintro w' ⟨s0,s1,s2,s3⟩
       go_simp
       with_reducible rfl
     rotate_left
     · simp only [Act.put,List.setIfInBounds_toArray,List.set_cons_zero,List.set_cons_succ,zD,zG]
       rfl
     refine take_ (i:=6) (N:=some 59) (v:=?_) (a':=?_) #[true,true,true,true,true,true,true,true,true,true,true,true,false,false,false,false] rfl rfl (z1y HT_.out HW_.out (by kernel_rfl)) (fun _ _ _ h=>h) (Or.inl ⟨by rfl,?_⟩) hHeld ?_ ?_
     rotate_left
     · rintro w' ⟨s0,s1,s2,s3⟩
       go_simp
       with_reducible rfl
     rotate_left
     · simp only [Act.put,List.setIfInBounds_toArray,List.set_cons_zero,List.set_cons_succ,zD,zG]
       rfl
     refine one_ (i:=12) (N:=some 65) #[true,true,true,true,true,true,true,true,true,true,true,true,true,false,false,false] rfl rfl (z1A HT_.out (by kernel_rfl)) (by decide) (fun K hK=>?_)
     refine goes_ Try.func112 (by kernel_rfl) rfl #[.agg #[.int .u64 ((zq l2 x37_1).f0),.int .u64 ((zq l2 x37_1).f1)],.int .i64 ji40] (by rfl) rfl rfl (by (try simp only [List.map_toArray,List.map_cons,List.map_nil]);first|done|(simp only [hji40];rfl)|rfl|(simp only [List.length_drop,List.length_take];rfl)) ?_
     with_reducible refine (z1S.calls ((zq l2 x37_1).f0) ((zq l2 x37_1).f1) ji40 t115 t116 _ A41.out).mono ?_
     rintro e w49 ⟨rfl,hb⟩
     have HS2_:=(hb.cell (World.block_lt_of_cell? _ _ (hHeld.2.2.1))).trans (hHeld.2.2.1)
     have HS3_:=(hb.cell (World.block_lt_of_cell? _ _ (hHeld.2.2.2))).trans (hHeld.2.2.2)
     refine ⟨_,rfl,?_⟩
     have n0_:=z2.mk (Kd.zE (by (with_reducible repeat (first|apply Kd.zj|apply Kd.zk|apply Kd.zo));exact HO_10.out) hb)
     have n1_:=z2.mk (ze (g:=gb104) (o:=.cells #[.int .u64 ((zq l2 x37_1).f0),.int .u64 ((zq l2 x37_1).f1)] 30 (0,0)) (by (with_reducible repeat (first|refine z6 ?_ _|refine z8 ?_|refine z5 ?_ _));exact BK104.out) hb)
     have n2_:=z2.mk (za (by repeat (first|(with_reducible first|exact HB.out|apply z4|apply z1|apply z3|refine z7 ?_ GE104.out)|exact HB.out)) hb)
     clear HO_10
     clear BK104
     clear HB
     have HO_10:=n0_
     have BK104:=n1_
     have HB:=n2_
     clear n0_ n1_ n2_
     (try clear hb)
     (try clear hb2)
     (try clear hk)
     (try clear hi)
     refine hK.out _ _ ⟨(z9 BK104.out 0).trans rfl,(z9 BK104.out 1).trans rfl,HS2_,HS3_⟩ (fun hHeld=>?_)
     clear hK K
     refine norm_ (a':=?_) ?_ ?_
     rotate_left
     · show Act.put _ (some 65) _ = _
       simp only [Act.put,List.setIfInBounds_toArray,List.set_cons_zero,List.set_cons_succ,zD,zG]
       rfl
     refine one_ (i:=13) (N:=some 66) #[true,true,true,true,true,true,true,true,true,true,true,true,true,true,false,false] rfl rfl (z1A HT_.out (by kernel_rfl)) (by decide) (fun K hK=>?_)
     refine goes_ Try.func64 (by kernel_rfl) rfl #[.agg #[.int .u64 ((zq x10_1 (ji36)).f0),.int .u64 ((zq x10_1 (ji36)).f1)],.agg #[.int .u64 t115,.int .u64 t116]] (by rfl) rfl rfl (by (try simp only [List.map_toArray,List.map_cons,List.map_nil]);first|done|(simp only [hji36];rfl)|rfl|(simp only [List.length_drop,List.length_take];rfl)) ?_
     with_reducible refine (z1D.calls ((zq x10_1 (ji36)).f0) ((zq x10_1 (ji36)).f1) t115 t116 t117 t118 _ A42.out).mono ?_
     rintro e w50 ⟨rfl,hb⟩
     have HS2_:=(hb.cell (World.block_lt_of_cell? _ _ (hHeld.2.2.1))).trans (hHeld.2.2.1)
     have HS3_:=(hb.cell (World.block_lt_of_cell? _ _ (hHeld.2.2.2))).trans (hHeld.2.2.2)
     refine ⟨_,rfl,?_⟩
     have n0_:=z2.mk (Kd.zE (by (with_reducible repeat (first|apply Kd.zj|apply Kd.zk|apply Kd.zo));exact HO_10.out) hb)
     have n1_:=z2.mk (ze (g:=gb104) (o:=.cells #[.int .u64 ((zq l2 x37_1).f0),.int .u64 ((zq l2 x37_1).f1)] 30 (0,0)) (by (with_reducible repeat (first|refine z6 ?_ _|refine z8 ?_|refine z5 ?_ _));exact BK104.out) hb)
     have n2_:=z2.mk (za (by repeat (first|(with_reducible first|exact HB.out|apply z4|apply z1|apply z3|refine z7 ?_ GE104.out)|exact HB.out)) hb)
     clear HO_10
     clear BK104
     clear HB
     have HO_10:=n0_
     have BK104:=n1_
     have HB:=n2_
     clear n0_ n1_ n2_
     (try clear hb)
     (try clear hb2)
     (try clear hk)
     (try clear hi)
     have p43 : 0 ≤ ((ji36) : Int):=of_decide_eq_true (by first|(with_reducible assumption)|assumption)
     have q43 : ((ji36) : Int) < ((x10_1.length : Int) : Int):=of_decide_eq_true (by first|(with_reducible assumption)|assumption)
     obtain ⟨go43,co43,eo43,gb43,gl43,cl43,HG43⟩:=Kd.z4w HO_10.out (by omega)
     (first|cases eo43|(injection eo43 with ea_ en_ ec_;(first|subst ea_|(injection ea_ with ea_;subst ea_));subst ec_;clear en_))
     have GB43:=z2.mk gb43
     have GG43:=z2.mk HG43
     clear gb43 gl43 HG43
     (first|simp only [z28] at hx114_0|skip)
     (first|simp only [z28] at hx114_1|skip)
     obtain ⟨ce43,hcl43,hM43,hcc43,hfr43⟩:=Kd.z31 HO_10.out z30 ((ji36) : Int) p43 q43
     obtain rfl:=z22 hM43
     have hx43_0 : World.cell? _ ⟨go43,((ji36) : Int).toNat * 2,none⟩ = some (.int .u64 ((zq x10_1 (ji36)).f0)):=hcc43 0 _ rfl
     have hx43_1 : World.cell? _ ⟨go43,((ji36) : Int).toNat * 2 + 1,none⟩ = some (.int .u64 ((zq x10_1 (ji36)).f1)):=hcc43 1 _ rfl
     have hf43_0 : World.frozen? _ ⟨go43,((ji36) : Int).toNat * 2,none⟩ = false:=hfr43 0
     have hf43_1 : World.frozen? _ ⟨go43,((ji36) : Int).toNat * 2 + 1,none⟩ = false:=hfr43 1
     clear hcl43 hcc43 hfr43 hM43
     replace p43:=eq_true p43
     replace q43:=eq_true q43
     obtain ⟨ce51,hcl51,hM51,hcc51,hfr51⟩:=Kd.z31 HO_10.out z30 ((ji36) : Int) (of_decide_eq_true (by first|(with_reducible assumption)|assumption)) (by have h_ : ((ji36) : Int) < ((x10_1.length : Int) : Int):=of_decide_eq_true (by first|(with_reducible assumption)|assumption);first|exact h_|(have e_:=(Kd.zI HO_10.out).1;omega)|simpa using h_)
     obtain rfl:=z22 hM51
     have HP51:=(Kd.z6s HO_10.out ((ji36) : Int) (of_decide_eq_true (by first|(with_reducible assumption)|assumption)) (by have h_ : ((ji36) : Int) < ((x10_1.length : Int) : Int):=of_decide_eq_true (by first|(with_reducible assumption)|assumption);first|exact h_|(have e_:=(Kd.zI HO_10.out).1;omega)|simpa using h_) (seg:=[.int .u64 t117,.int .u64 t118]) (j:=0) hcl51 hcc51 (show 2 ≤ 2 from by decide) (x':=(⟨t117,t118⟩ : S30)) (z1E _ _ _ (⟨t117,t118⟩ : S30) ) (fun _ hk=>hk)).1
     rw [← Ny119.out] at HP51
     have HQ51:=z2.mk HP51
     clear hcl51 hcc51 hfr51 hM51 HP51
     refine hK.out _ _ ⟨(z9 BK104.out 0).trans rfl,(z9 BK104.out 1).trans rfl,HS2_,HS3_⟩ (fun hHeld=>?_)
     clear hK K
     refine norm_ (a':=?_) ?_ ?_
     rotate_left
     · show Act.put _ (some 66) _ = _
       simp only [Act.put,List.setIfInBounds_toArray,List.set_cons_zero,List.set_cons_succ,zD,zG]
       rfl
     refine pure_ (i:=14) (N:=some 67) (v:=?_) (a':=?_) #[true,true,true,true,true,true,true,true,true,true,true,true,true,true,true,false] rfl rfl (zL HT_.out (by kernel_rfl)) (fun _ _ _ h=>h) (Or.inl ⟨by rfl,?_⟩) ?_ ?_
     rotate_left
     · intro w'
       go_simp
       with_reducible rfl
     rotate_left
     · simp only [Act.put,List.setIfInBounds_toArray,List.set_cons_zero,List.set_cons_succ,zD,zG]
       rfl
     refine last_ (i:=15) (N:=none) #[true,true,true,true,true,true,true,true,true,true,true,true,true,true,true,true] rfl rfl (z1A HT_.out (by kernel_rfl)) (by decide) (fun K hK=>?_)
     refine skip_ (w1:=?_) (by rfl) rfl ?_ ?_
     rotate_left
     · go_simp
       rfl
     refine hK.out _ _ ?_
     clear hK K
     refine done_ (z24 HT_.out (by kernel_rfl)) ?_
     try go_wp2
     go_roundg k1
     case measure=>have:=HK1.out;omega
     case rel=>exact ⟨(y119),(wrap64 (x37_1 + 1)),(by first|rfl|(simp;done)|(simp [*];done)),H',⟨by have:=HK1.out;omega⟩,⟨by (with_reducible repeat (first|apply Kd.zj|apply Kd.zk|apply Kd.zo));exact Kd.z1w HQ51.out (fun _ hk=>trivial)⟩,⟨by repeat (first|(with_reducible first|exact HB.out|apply z4|apply z1|apply z3|refine z7 ?_ GB43.out|refine z7 ?_ GB43.out|refine z7 ?_ GE104.out)|exact HB.out)⟩⟩
   rw [if_pos c18] at H
   have c18b0 : ((Int.tmod x37_1 ji8) == 0) = true:=beq_iff_eq.mpr c18
   have c18b1 : ((Int.tmod x37_1 ji8) != 0) = false:=bne_eq_false_iff_eq.mpr c18
   clear c18
   by_cases c19 : x10_1.length < 8796093022208
   rotate_left
   · rw [if_neg c19] at H
     exact absurd H (by simp)
   rw [if_pos c19] at H
   have LMc19:=z2.mk c19
   clear c19
   obtain ⟨y105,hy105⟩ : ∃ y_ : List (S30),y_ = (x10_1 ++ [(⟨0,0⟩ : S30)]):=⟨_,rfl⟩
   replace H : (if 0 ≤ (wrap64 ((y105.length : Int) - 1)) then (if (wrap64 ((y105.length : Int) - 1)) < (y105.length : Int) then (if 0 ≤ a0 then ((z1S.f ((zq l2 x37_1).f0) ((zq l2 x37_1).f1) (shl .i64 (Int.tmod x37_1 ji8) a0)).bind fun bt109=>((z1D.f ((zq y105 (wrap64 ((y105.length : Int) - 1))).f0) ((zq y105 (wrap64 ((y105.length : Int) - 1))).f1) bt109.1 bt109.2).bind fun bt111=>(zC.l0 k1 a0 ji8 (y105.set ((wrap64 ((y105.length : Int) - 1)) : Int).toNat (⟨bt111.1,bt111.2⟩ : S30)) l2 (l2.length : Int) (wrap64 (x37_1 + 1))))) else (none)) else (none)) else (none)) = some (r1,r2):=by first|(rw [hy105];with_reducible exact H)|(have H2_:=(Option.bind_some _ _).symm.trans H;rw [hy105];with_reducible exact H2_)|(have H2_:=(Option.bind_some _ _).symm.trans H;with_reducible exact H2_)|with_reducible exact H|(rw [hy105];exact H)|exact H
   have Ny105:=z2.mk hy105
   clear hy105
   obtain ⟨ji20,hji20⟩ : ∃ j_ : Int,(wrap64 ((y105.length : Int) - 1)) = j_:=⟨_,rfl⟩
   replace H : (if 0 ≤ (ji20) then (if (ji20) < (y105.length : Int) then (if 0 ≤ a0 then ((z1S.f ((zq l2 x37_1).f0) ((zq l2 x37_1).f1) (shl .i64 (Int.tmod x37_1 ji8) a0)).bind fun bt109=>((z1D.f ((zq y105 (ji20)).f0) ((zq y105 (ji20)).f1) bt109.1 bt109.2).bind fun bt111=>(zC.l0 k1 a0 ji8 (y105.set ((ji20) : Int).toNat (⟨bt111.1,bt111.2⟩ : S30)) l2 (l2.length : Int) (wrap64 (x37_1 + 1))))) else (none)) else (none)) else (none)) = some (r1,r2):=by first|(rw [hji20] at H;exact H)|(simp only [hji20] at H ⊢;exact H)
   have hji20w : (IntKind.i64.wrap ((y105.length : Int) - 1)) = ji20:=(zD _).trans hji20
   by_cases c21 : 0 ≤ (ji20)
   rotate_left
   · rw [if_neg c21] at H
     exact absurd H (by simp)
   rw [if_pos c21] at H
   have c21b0 : decide (0 ≤ (ji20)) = true:=decide_eq_true c21
   clear c21
   by_cases c22 : (ji20) < (y105.length : Int)
   rotate_left
   · rw [if_neg c22] at H
     exact absurd H (by simp)
   rw [if_pos c22] at H
   have c22b0 : decide ((ji20) < (y105.length : Int)) = true:=decide_eq_true c22
   clear c22
   by_cases c23 : 0 ≤ a0
   rotate_left
   · rw [if_neg c23] at H
     exact absurd H (by simp)
   rw [if_pos c23] at H
   have c23b0:=eq_true c23
   have c23b1 : decide (0 ≤ a0) = true:=decide_eq_true c23
   clear c23
   obtain ⟨ji24,hji24⟩ : ∃ j_ : Int,(shl .i64 (Int.tmod x37_1 ji8) a0) = j_:=⟨_,rfl⟩
   replace H : ((z1S.f ((zq l2 x37_1).f0) ((zq l2 x37_1).f1) (ji24)).bind fun bt109=>((z1D.f ((zq y105 (ji20)).f0) ((zq y105 (ji20)).f1) bt109.1 bt109.2).bind fun bt111=>(zC.l0 k1 a0 ji8 (y105.set ((ji20) : Int).toNat (⟨bt111.1,bt111.2⟩ : S30)) l2 (l2.length : Int) (wrap64 (x37_1 + 1))))) = some (r1,r2):=by first|(rw [hji24] at H;exact H)|(simp only [hji24] at H ⊢;exact H)
   have hji24_ : (IntKind.i64.wrap ((Int.tmod x37_1 ji8) * 2 ^ min a0.toNat 64)) = ji24:=hji24
   have hji24z : a0 ≤ 64 → (IntKind.i64.wrap ((Int.tmod x37_1 ji8) * 2 ^ a0.toNat)) = ji24:=z1K hji24
   have hji24y : (wrap64 ((Int.tmod x37_1 ji8) * 2 ^ min a0.toNat 64)) = ji24:=(zD _).symm.trans hji24_
   have hji24x : a0 ≤ 64 → (wrap64 ((Int.tmod x37_1 ji8) * 2 ^ a0.toNat)) = ji24:=fun h_=>(zD _).symm.trans (hji24z h_)
   replace H:=Option.bind_eq_some_iff.mp H
   obtain ⟨⟨t109,t110⟩,A250,H⟩:=H
   replace H : ((z1D.f ((zq y105 (ji20)).f0) ((zq y105 (ji20)).f1) t109 t110).bind fun bt111=>(zC.l0 k1 a0 ji8 (y105.set ((ji20) : Int).toNat (⟨bt111.1,bt111.2⟩ : S30)) l2 (l2.length : Int) (wrap64 (x37_1 + 1)))) = some (r1,r2):=H
   have A25:=z2.mk A250
   clear A250
   replace H:=Option.bind_eq_some_iff.mp H
   obtain ⟨⟨t111,t112⟩,A260,H⟩:=H
   replace H : (zC.l0 k1 a0 ji8 (y105.set ((ji20) : Int).toNat (⟨t111,t112⟩ : S30)) l2 (l2.length : Int) (wrap64 (x37_1 + 1))) = some (r1,r2):=H
   have A26:=z2.mk A260
   clear A260
   obtain ⟨y113,hy113⟩ : ∃ y_ : List (S30),y_ = (y105.set ((ji20) : Int).toNat (⟨t111,t112⟩ : S30)):=⟨_,rfl⟩
   replace H : (zC.l0 k1 a0 ji8 y113 l2 (l2.length : Int) (wrap64 (x37_1 + 1))) = some (r1,r2):=by first|(rw [hy113];with_reducible exact H)|(have H2_:=(Option.bind_some _ _).symm.trans H;rw [hy113];with_reducible exact H2_)|(have H2_:=(Option.bind_some _ _).symm.trans H;with_reducible exact H2_)|with_reducible exact H|(rw [hy113];exact H)|exact H
   have Ny113:=z2.mk hy113
   clear hy113
   have H':=z2.mk H
   clear H
   have p103 : 0 ≤ (x37_1 : Int):=of_decide_eq_true (by first|(with_reducible assumption)|assumption)
   have q103 : x37_1 < (l2.length : Int):=of_decide_eq_true (by first|(with_reducible assumption)|assumption)
   obtain ⟨ad103,e103,hx103_0,hx103_1⟩:=z2o HR2.out x37_1 p103 q103
   cases e103
   replace hx103_0:=(HB.out.cell (World.block_lt_of_cell? w _ hx103_0)).trans hx103_0
   replace hx103_1:=(HB.out.cell (World.block_lt_of_cell? w _ hx103_1)).trans hx103_1
   replace p103:=eq_true p103
   replace q103:=eq_true q103
   try go_wp2_with (first|((with_reducible refine zO (N:=12) rfl ?_);refine zM ?hg (N:=12) ?hd (cs:=#[.int .u64 0,.int .u64 0]) (t:=30) ?hr ?_;(case hd=>rfl);(case hg=>rfl);(case hr=>first|(go_simp;done)|(go_simp;rfl));intro gb104 hg w28 hbox hb;have n0_:=z2.mk (Kd.zE (Kd.z2n (by (with_reducible repeat (first|apply Kd.zj|apply Kd.zk|apply Kd.zo));exact HO_10.out) gb104 (Nat.le_of_eq hg.symm)) hb);have n1_:=z2.mk (za (by repeat (first|(with_reducible first|exact HB.out|apply z4|apply z1|apply z3)|exact HB.out)) hb);have n2_:=z2.mk (hbox);have n3_:=z2.mk ((by rw [hg];exact (zc (by repeat (first|(with_reducible first|exact HB.out|apply z4|apply z1|apply z3)|exact HB.out))) : w.heap.size ≤ gb104));have n4_:=z2.mk ((by rw [hg];exact (zc (by repeat (first|(with_reducible first|exact HB.out|apply z4|apply z1|apply z3)|exact HB.out))) : w.heap.size ≤ gb104));clear HO_10;clear HB;have HO_10:=n0_;have HB:=n1_;have BK104:=n2_;have GW104:=n3_;have GE104:=n4_;clear n0_ n1_ n2_ n3_ n4_;clear hb hbox hg;have hcz29_0 : w28.cell? ⟨gb104,0,none⟩ = some (.int .u64 0):=(z9 BK104.out 0).trans rfl;have hcz29_1 : w28.cell? ⟨gb104,1,none⟩ = some (.int .u64 0):=(z9 BK104.out 1).trans rfl;have hfz29_0:=zd BK104.out 0;have hfz29_1:=zd BK104.out 1)|((with_reducible refine z1I (b:=.append) (xs:=#[.tmp 46,.tmp 48]) rfl ?_);at_builtin;refine Kd.z2w k30 (w0:=w) w.heap.size rfl (.tmp 46) (.tmp 48) 24 30 (.agg #[(.int .u64 0),(.int .u64 0)]) 16 rfl Try.underlying24 info30 rfl (by decide) (by omega) u10 x10_1 (⟨0,0⟩ : S30) [.int .u64 0,.int .u64 0] (fun k_=>k_ ≠ gb104) (fun _=>False) rfl (by first|(go_simp;done)|(go_simp;rfl)) ?aP (fun _ hk=>hk.elim) ?aF ?aO ?aB ?aS ?aL ?_;(case aP=>exact z1E _ _ _ (⟨0,0⟩ : S30));(case aB=>exact (by repeat (first|(with_reducible first|exact HB.out|apply z4|apply z1|apply z3|refine z7 ?_ GE104.out)|exact HB.out)));(case aF=>exact (fun k_ hk=>Kd.freshB (g:=gb104) (o:=.cells #[.int .u64 ((zq l2 x37_1).f0),.int .u64 ((zq l2 x37_1).f1)] 30 (0,0)) (by (with_reducible repeat (first|refine z6 ?_ _|refine z8 ?_|refine z5 ?_ _));refine z15 (cs:=#[.int .u64 ((zq l2 x37_1).f0),.int .u64 0]) ?_ 1 _ rfl;(with_reducible repeat (first|refine z6 ?_ _|refine z8 ?_|refine z5 ?_ _));refine z15 (cs:=#[.int .u64 0,.int .u64 0]) ?_ 0 _ rfl;(with_reducible repeat (first|refine z6 ?_ _|refine z8 ?_|refine z5 ?_ _));exact BK104.out) k_ hk));(case aO=>exact (by (with_reducible repeat (first|apply Kd.zj|apply Kd.zk|apply Kd.zo));exact Kd.z1w (Kd.z2M (p:=⟨gb104,1,none⟩) (Kd.z2M (p:=⟨gb104,0,none⟩) (Kd.z1w HO_10.out (fun k_ hk=>(⟨hk,hk.2⟩ : _ ∧ k_ ≠ gb104))) (fun _ hk=>hk.2) (.int .u64 ((zq l2 x37_1).f0))) (fun _ hk=>hk.2) (.int .u64 ((zq l2 x37_1).f1))) (fun _ hk=>hk.1.2)));(case aS=>exact (zc (by repeat (first|(with_reducible first|exact HB.out|apply z4|apply z1|apply z3|refine z7 ?_ GE104.out)|exact HB.out))));(case aL=>have:=LMc19.out;omega);intro v106 w30 ho hb hg hat;rw [← Ny105.out] at ho;have n0_:=z2.mk (z29 (g:=gb104) (o:=.cells #[.int .u64 ((zq l2 x37_1).f0),.int .u64 ((zq l2 x37_1).f1)] 30 (0,0)) (by (with_reducible repeat (first|refine z6 ?_ _|refine z8 ?_|refine z5 ?_ _));refine z15 (cs:=#[.int .u64 ((zq l2 x37_1).f0),.int .u64 0]) ?_ 1 _ rfl;(with_reducible repeat (first|refine z6 ?_ _|refine z8 ?_|refine z5 ?_ _));refine z15 (cs:=#[.int .u64 0,.int .u64 0]) ?_ 0 _ rfl;(with_reducible repeat (first|refine z6 ?_ _|refine z8 ?_|refine z5 ?_ _));exact BK104.out) hg (Kd.z2y HO_10.out (fun _ hk=>hk.2)));have n1_:=z2.mk (hb);have n2_:=z2.mk (ho);clear BK104;clear HB;clear HO_10;have BK104:=n0_;have HB:=n1_;have HO107:=n2_;clear n0_ n1_ n2_;clear ho hb hg hat;obtain ⟨Ao31,co31,eo31⟩:=Kd.z1s HO107.out;subst eo31))
   have n0_:=z2.mk (Kd.zo HO107.out)
   have n1_:=z2.mk (z8 BK104.out)
   have n2_:=z2.mk (z3 HB.out)
   clear HO107
   clear BK104
   clear HB
   have HO107:=n0_
   have BK104:=n1_
   have HB:=n2_
   clear n0_ n1_ n2_
   have p108 : 0 ≤ ((ji20) : Int):=of_decide_eq_true (by first|(with_reducible assumption)|assumption)
   have q108 : (ji20) < (y105.length : Int):=of_decide_eq_true (by first|(with_reducible assumption)|assumption)
   obtain ⟨ad108,e108,hx108_0,hx108_1⟩:=z2o (Kd.zI HO107.out).2.2 (ji20) p108 q108
   cases e108
   replace p108:=eq_true p108
   replace q108:=eq_true q108
   refine start_ (n:=16) (S:=fun w'=>w'.cell? ⟨gb104,0,none⟩ = some (.int .u64 ((zq l2 x37_1).f0)) ∧ w'.cell? ⟨gb104,1,none⟩ = some (.int .u64 ((zq l2 x37_1).f1)) ∧ w'.cell? (ad108.add (((ji20)).toNat * 2)) = some (.int .u64 ((zq y105 (ji20)).f0)) ∧ w'.cell? ⟨(ad108.add (((ji20)).toNat * 2)).block,(ad108.add (((ji20)).toNat * 2)).off + 1,none⟩ = some (.int .u64 ((zq y105 (ji20)).f1))) (ds:=[15]) #[false,false,false,false,false,false,false,false,false,false,false,false,false,false,false,false] (by kernel_rfl) rfl rfl ⟨(z9 BK104.out 0).trans rfl,(z9 BK104.out 1).trans rfl,hx108_0,hx108_1⟩ (fun hHeld=>?_);refine z1M zC.tab16 zC.bits16 (fun HT_ HW_=>?_)
   generalize w30.drew = w32 at HO107 BK104 HB hx108_0 hx108_1 hHeld ⊢
   refine pure_ (i:=0) (N:=some 53) (v:=?_) (a':=?_) #[true,false,false,false,false,false,false,false,false,false,false,false,false,false,false,false] rfl rfl (zL HT_.out (by kernel_rfl)) (fun _ _ _ h=>h) (Or.inl ⟨by rfl,?_⟩) ?_ ?_
   rotate_left
   · intro w'
     go_simp
     with_reducible rfl
   rotate_left
   · simp only [Act.put,List.setIfInBounds_toArray,List.set_cons_zero,List.set_cons_succ,zD,zG]
     rfl
   refine pure_ (i:=1) (N:=some 54) (v:=?_) (a':=?_) #[true,true,false,false,false,false,false,false,false,false,false,false,false,false,false,false] rfl rfl (zL HT_.out (by kernel_rfl)) (fun _ _ _ h=>h) (Or.inl ⟨by rfl,?_⟩) ?_ ?_
   rotate_left
   · intro w'
     go_simp
     with_reducible rfl
   rotate_left
   · simp only [Act.put,List.setIfInBounds_toArray,List.set_cons_zero,List.set_cons_succ,zD,zG]
     rfl
   refine pure_ (i:=2) (N:=some 55) (v:=?_) (a':=?_) #[true,true,true,false,false,false,false,false,false,false,false,false,false,false,false,false] rfl rfl (zL HT_.out (by kernel_rfl)) (fun _ _ _ h=>h) (Or.inl ⟨by rfl,?_⟩) ?_ ?_
   rotate_left
   · intro w'
     go_simp
     with_reducible rfl
   rotate_left
   · simp only [Act.put,List.setIfInBounds_toArray,List.set_cons_zero,List.set_cons_succ,zD,zG]
     rfl
   refine pure_ (i:=3) (N:=some 56) (v:=?_) (a':=?_) #[true,true,true,true,false,false,false,false,false,false,false,false,false,false,false,false] rfl rfl (zL HT_.out (by kernel_rfl)) (fun _ _ _ h=>h) (Or.inl ⟨by rfl,?_⟩) ?_ ?_
   rotate_left
   · intro w'
     go_simp
     with_reducible rfl
   rotate_left
   · simp only [Act.put,List.setIfInBounds_toArray,List.set_cons_zero,List.set_cons_succ,zD,zG]
     rfl
   refine pure_ (i:=4) (N:=some 57) (v:=?_) (a':=?_) #[true,true,true,true,true,false,false,false,false,false,false,false,false,false,false,false] rfl rfl (zL HT_.out (by kernel_rfl)) (fun _ _ _ h=>h) (Or.inl ⟨by rfl,?_⟩) ?_ ?_
   rotate_left
   · intro w'
     go_simp
     with_reducible rfl
   rotate_left
   · simp only [Act.put,List.setIfInBounds_toArray,List.set_cons_zero,List.set_cons_succ,zD,zG]
     rfl
   refine pure_ (i:=7) (N:=some 60) (v:=?_) (a':=?_) #[true,true,true,true,true,false,false,true,false,false,false,false,false,false,false,false] rfl rfl (zL HT_.out (by kernel_rfl)) (fun _ _ _ h=>h) (Or.inl ⟨by rfl,?_⟩) ?_ ?_
   rotate_left
   · intro w'
     go_simp
     with_reducible rfl
   rotate_left
   · simp only [Act.put,List.setIfInBounds_toArray,List.set_cons_zero,List.set_cons_succ,zD,zG]
     rfl
   refine pure_ (i:=8) (N:=some 61) (v:=?_) (a':=?_) #[true,true,true,true,true,false,false,true,true,false,false,false,false,false,false,false] rfl rfl (zL HT_.out (by kernel_rfl)) (fun _ _ _ h=>h) (Or.inl ⟨by rfl,?_⟩) ?_ ?_
   rotate_left
   · intro w'
     go_simp
     with_reducible rfl
   rotate_left
   · simp only [Act.put,List.setIfInBounds_toArray,List.set_cons_zero,List.set_cons_succ,zD,zG]
     rfl
   refine pure_ (i:=9) (N:=some 62) (v:=?_) (a':=?_) #[true,true,true,true,true,false,false,true,true,true,false,false,false,false,false,false] rfl rfl (zL HT_.out (by kernel_rfl)) (fun _ _ _ h=>h) (Or.inl ⟨by rfl,?_⟩) ?_ ?_
   rotate_left
   · intro w'
     go_simp
     with_reducible rfl
   rotate_left
   · simp only [Act.put,List.setIfInBounds_toArray,List.set_cons_zero,List.set_cons_succ,zD,zG]
     rfl
   refine pure_ (i:=10) (N:=some 63) (v:=?_) (a':=?_) #[true,true,true,true,true,false,false,true,true,true,true,false,false,false,false,false] rfl rfl (zL HT_.out (by kernel_rfl)) (fun _ _ _ h=>h) (Or.inl ⟨by rfl,?_⟩) ?_ ?_
   rotate_left
   · intro w'
     go_simp
     with_reducible rfl
   rotate_left
   · simp only [Act.put,List.setIfInBounds_toArray,List.set_cons_zero,List.set_cons_succ,zD,zG]
     rfl
   refine pure_ (i:=11) (N:=some 64) (v:=?_) (a':=?_) #[true,true,true,true,true,false,false,true,true,true,true,true,false,false,false,false] rfl rfl (zL HT_.out (by kernel_rfl)) (fun _ _ _ h=>h) (Or.inl ⟨by rfl,?_⟩) ?_ ?_
   rotate_left
   · intro w'
     go_simp
     with_reducible rfl
   rotate_left
   · simp only [Act.put,List.setIfInBounds_toArray,List.set_cons_zero,List.set_cons_succ,zD,zG]
     rfl
   refine take_ (i:=5) (N:=some 58) (v:=?_) (a':=?_) #[true,true,true,true,true,true,false,true,true,true,true,true,false,false,false,false] rfl rfl (z1y HT_.out HW_.out (by kernel_rfl)) (fun _ _ _ h=>h) (Or.inl ⟨by rfl,?_⟩) hHeld ?_ ?_
   rotate_left
   · rintro w' ⟨s0,s1,s2,s3⟩
     go_simp
     with_reducible rfl
   rotate_left
   · simp only [Act.put,List.setIfInBounds_toArray,List.set_cons_zero,List.set_cons_succ,zD,zG]
     rfl
   refine take_ (i:=6) (N:=some 59) (v:=?_) (a':=?_) #[true,true,true,true,true,true,true,true,true,true,true,true,false,false,false,false] rfl rfl (z1y HT_.out HW_.out (by kernel_rfl)) (fun _ _ _ h=>h) (Or.inl ⟨by rfl,?_⟩) hHeld ?_ ?_
   rotate_left
   · rintro w' ⟨s0,s1,s2,s3⟩
     go_simp
     with_reducible rfl
   rotate_left
   · simp only [Act.put,List.setIfInBounds_toArray,List.set_cons_zero,List.set_cons_succ,zD,zG]
     rfl
   refine one_ (i:=12) (N:=some 65) #[true,true,true,true,true,true,true,true,true,true,true,true,true,false,false,false] rfl rfl (z1A HT_.out (by kernel_rfl)) (by decide) (fun K hK=>?_)
   refine goes_ Try.func112 (by kernel_rfl) rfl #[.agg #[.int .u64 ((zq l2 x37_1).f0),.int .u64 ((zq l2 x37_1).f1)],.int .i64 ji24] (by rfl) rfl rfl (by (try simp only [List.map_toArray,List.map_cons,List.map_nil]);first|done|(simp only [hji24];rfl)|rfl|(simp only [List.length_drop,List.length_take];rfl)) ?_
   with_reducible refine (z1S.calls ((zq l2 x37_1).f0) ((zq l2 x37_1).f1) ji24 t109 t110 _ A25.out).mono ?_
   rintro e w33 ⟨rfl,hb⟩
   have HS2_:=(hb.cell (World.block_lt_of_cell? _ _ (hHeld.2.2.1))).trans (hHeld.2.2.1)
   have HS3_:=(hb.cell (World.block_lt_of_cell? _ _ (hHeld.2.2.2))).trans (hHeld.2.2.2)
   refine ⟨_,rfl,?_⟩
   have n0_:=z2.mk (Kd.zE (by (with_reducible repeat (first|apply Kd.zj|apply Kd.zk|apply Kd.zo));exact HO107.out) hb)
   have n1_:=z2.mk (ze (g:=gb104) (o:=.cells #[.int .u64 ((zq l2 x37_1).f0),.int .u64 ((zq l2 x37_1).f1)] 30 (0,0)) (by (with_reducible repeat (first|refine z6 ?_ _|refine z8 ?_|refine z5 ?_ _));exact BK104.out) hb)
   have n2_:=z2.mk (za (by repeat (first|(with_reducible first|exact HB.out|apply z4|apply z1|apply z3|refine z7 ?_ GE104.out)|exact HB.out)) hb)
   clear HO107
   clear BK104
   clear HB
   have HO107:=n0_
   have BK104:=n1_
   have HB:=n2_
   clear n0_ n1_ n2_
   (try clear hb)
   (try clear hb2)
   (try clear hk)
   (try clear hi)
   refine hK.out _ _ ⟨(z9 BK104.out 0).trans rfl,(z9 BK104.out 1).trans rfl,HS2_,HS3_⟩ (fun hHeld=>?_)
   clear hK K
   refine norm_ (a':=?_) ?_ ?_
   rotate_left
   · show Act.put _ (some 65) _ = _
     simp only [Act.put,List.setIfInBounds_toArray,List.set_cons_zero,List.set_cons_succ,zD,zG]
     rfl
   refine one_ (i:=13) (N:=some 66) #[true,true,true,true,true,true,true,true,true,true,true,true,true,true,false,false] rfl rfl (z1A HT_.out (by kernel_rfl)) (by decide) (fun K hK=>?_)
   refine goes_ Try.func64 (by kernel_rfl) rfl #[.agg #[.int .u64 ((zq y105 (ji20)).f0),.int .u64 ((zq y105 (ji20)).f1)],.agg #[.int .u64 t109,.int .u64 t110]] (by rfl) rfl rfl (by (try simp only [List.map_toArray,List.map_cons,List.map_nil]);first|done|(simp only [hji20];rfl)|rfl|(simp only [List.length_drop,List.length_take];rfl)) ?_
   with_reducible refine (z1D.calls ((zq y105 (ji20)).f0) ((zq y105 (ji20)).f1) t109 t110 t111 t112 _ A26.out).mono ?_
   rintro e w34 ⟨rfl,hb⟩
   have HS2_:=(hb.cell (World.block_lt_of_cell? _ _ (hHeld.2.2.1))).trans (hHeld.2.2.1)
   have HS3_:=(hb.cell (World.block_lt_of_cell? _ _ (hHeld.2.2.2))).trans (hHeld.2.2.2)
   refine ⟨_,rfl,?_⟩
   have n0_:=z2.mk (Kd.zE (by (with_reducible repeat (first|apply Kd.zj|apply Kd.zk|apply Kd.zo));exact HO107.out) hb)
   have n1_:=z2.mk (ze (g:=gb104) (o:=.cells #[.int .u64 ((zq l2 x37_1).f0),.int .u64 ((zq l2 x37_1).f1)] 30 (0,0)) (by (with_reducible repeat (first|refine z6 ?_ _|refine z8 ?_|refine z5 ?_ _));exact BK104.out) hb)
   have n2_:=z2.mk (za (by repeat (first|(with_reducible first|exact HB.out|apply z4|apply z1|apply z3|refine z7 ?_ GE104.out)|exact HB.out)) hb)
   clear HO107
   clear BK104
   clear HB
   have HO107:=n0_
   have BK104:=n1_
   have HB:=n2_
   clear n0_ n1_ n2_
   (try clear hb)
   (try clear hb2)
   (try clear hk)
   (try clear hi)
   have p27 : 0 ≤ ((ji20) : Int):=of_decide_eq_true (by first|(with_reducible assumption)|assumption)
   have q27 : ((ji20) : Int) < ((y105.length : Int) : Int):=of_decide_eq_true (by first|(with_reducible assumption)|assumption)
   obtain ⟨go27,co27,eo27,gb27,gl27,cl27,HG27⟩:=Kd.z4w HO107.out (by omega)
   (first|cases eo27|(injection eo27 with ea_ en_ ec_;(first|subst ea_|(injection ea_ with ea_;subst ea_));subst ec_;clear en_))
   have GB27:=z2.mk gb27
   have GG27:=z2.mk HG27
   clear gb27 gl27 HG27
   (first|simp only [z28] at hx108_0|skip)
   (first|simp only [z28] at hx108_1|skip)
   obtain ⟨ce27,hcl27,hM27,hcc27,hfr27⟩:=Kd.z31 HO107.out z30 ((ji20) : Int) p27 q27
   obtain rfl:=z22 hM27
   have hx27_0 : World.cell? _ ⟨go27,((ji20) : Int).toNat * 2,none⟩ = some (.int .u64 ((zq y105 (ji20)).f0)):=hcc27 0 _ rfl
   have hx27_1 : World.cell? _ ⟨go27,((ji20) : Int).toNat * 2 + 1,none⟩ = some (.int .u64 ((zq y105 (ji20)).f1)):=hcc27 1 _ rfl
   have hf27_0 : World.frozen? _ ⟨go27,((ji20) : Int).toNat * 2,none⟩ = false:=hfr27 0
   have hf27_1 : World.frozen? _ ⟨go27,((ji20) : Int).toNat * 2 + 1,none⟩ = false:=hfr27 1
   clear hcl27 hcc27 hfr27 hM27
   replace p27:=eq_true p27
   replace q27:=eq_true q27
   obtain ⟨ce35,hcl35,hM35,hcc35,hfr35⟩:=Kd.z31 HO107.out z30 ((ji20) : Int) (of_decide_eq_true (by first|(with_reducible assumption)|assumption)) (by have h_ : ((ji20) : Int) < ((y105.length : Int) : Int):=of_decide_eq_true (by first|(with_reducible assumption)|assumption);first|exact h_|(have e_:=(Kd.zI HO107.out).1;omega)|simpa using h_)
   obtain rfl:=z22 hM35
   have HP35:=(Kd.z6s HO107.out ((ji20) : Int) (of_decide_eq_true (by first|(with_reducible assumption)|assumption)) (by have h_ : ((ji20) : Int) < ((y105.length : Int) : Int):=of_decide_eq_true (by first|(with_reducible assumption)|assumption);first|exact h_|(have e_:=(Kd.zI HO107.out).1;omega)|simpa using h_) (seg:=[.int .u64 t111,.int .u64 t112]) (j:=0) hcl35 hcc35 (show 2 ≤ 2 from by decide) (x':=(⟨t111,t112⟩ : S30)) (z1E _ _ _ (⟨t111,t112⟩ : S30) ) (fun _ hk=>hk)).1
   rw [← Ny113.out] at HP35
   have HQ35:=z2.mk HP35
   clear hcl35 hcc35 hfr35 hM35 HP35
   refine hK.out _ _ ⟨(z9 BK104.out 0).trans rfl,(z9 BK104.out 1).trans rfl,HS2_,HS3_⟩ (fun hHeld=>?_)
   clear hK K
   refine norm_ (a':=?_) ?_ ?_
   rotate_left
   · show Act.put _ (some 66) _ = _
     simp only [Act.put,List.setIfInBounds_toArray,List.set_cons_zero,List.set_cons_succ,zD,zG]
     rfl
   refine pure_ (i:=14) (N:=some 67) (v:=?_) (a':=?_) #[true,true,true,true,true,true,true,true,true,true,true,true,true,true,true,false] rfl rfl (zL HT_.out (by kernel_rfl)) (fun _ _ _ h=>h) (Or.inl ⟨by rfl,?_⟩) ?_ ?_
   rotate_left
   · intro w'
     go_simp
     with_reducible rfl
   rotate_left
   · simp only [Act.put,List.setIfInBounds_toArray,List.set_cons_zero,List.set_cons_succ,zD,zG]
     rfl
   refine last_ (i:=15) (N:=none) #[true,true,true,true,true,true,true,true,true,true,true,true,true,true,true,true] rfl rfl (z1A HT_.out (by kernel_rfl)) (by decide) (fun K hK=>?_)
   refine skip_ (w1:=?_) (by rfl) rfl ?_ ?_
   rotate_left
   · go_simp
     rfl
   refine hK.out _ _ ?_
   clear hK K
   refine done_ (z24 HT_.out (by kernel_rfl)) ?_
   try go_wp2
   go_roundg k1
   case measure=>have:=HK1.out;omega
   case rel=>exact ⟨(y113),(wrap64 (x37_1 + 1)),(by first|rfl|(simp;done)|(simp [*];done)),H',⟨by have:=HK1.out;omega⟩,⟨by (with_reducible repeat (first|apply Kd.zj|apply Kd.zk|apply Kd.zo));exact Kd.z1w HQ35.out (fun _ hk=>trivial)⟩,⟨by repeat (first|(with_reducible first|exact HB.out|apply z4|apply z1|apply z3|refine z7 ?_ GB27.out|refine z7 ?_ GB27.out|refine z7 ?_ GE104.out)|exact HB.out)⟩⟩
end Go.Proofs.Ytkhmpaooinpfoaa.P
/- Own words beside the print's: a cut with a capacity of its own. Own text. -/
namespace Go.Proofs.YtkhmpaooinpfoaaW.PrintWords
open Go.RowKit
section
variable {P : Program}
theorem cut_mid3 (t e : TypeId) (kl kh km : IntKind) {i : TypeInfo} (ht : P.underlying t = some (.slice e)) (hi : P.info? e = some i) (size : Nat) (hsz : i.size = size) (A : Option Addr) (n c : Nat) (lo hi' : Int) (h0 : 0 ≤ lo) (h1 : lo ≤ hi') (h2 : hi' ≤ n) (hc : n ≤ c) :
    ∀ W : World, (Instr.slice t (.slice A n c) (some (.int kl lo)) (some (.int kh hi')) (some (.int km hi'))).run P W = .ok (.slice (if hi'.toNat = lo.toNat then A else A.map (·.add (lo.toNat * size))) (hi'.toNat - lo.toNat) (Nat.sub hi'.toNat lo.toNat)) W := by
  intro W
  have hel : P.elem t = e := by simp [Program.elem, ht]
  have hu : P.underlying t = some (.slice (P.elem t)) := by rw [hel]; exact ht
  have e1 : (hi'.toNat : Int) = hi' := Int.toNat_of_nonneg (by omega)
  have e2 : (lo.toNat : Int) = lo := Int.toNat_of_nonneg (by omega)
  rw [run_slice_any _ _ _ _ _ hu, hel]
  have hb : (Instr.sliceBounds true n c (some (.int kl lo)) (some (.int kh hi')) (some (.int km hi'))).run P W = .ok (lo.toNat, hi'.toNat, hi'.toNat) W := by
    have b1 : hi' ≤ (c : Int) := by omega
    have b2 : 0 ≤ hi' := by omega
    simp [Instr.sliceBounds, run_sliceBound, h0, h1, b1, b2, e1]
  rw [hb]
  simp [sizeOf, typeInfo, hi, hsz, sliced, Result.andThen]
end
end Go.Proofs.YtkhmpaooinpfoaaW.PrintWords
namespace Go.Proofs.YtkhmpaooinpfoaaW.PrintWords.Kd
section
variable {α : Type} {k : Kd α} {w W : World} {A : Option Addr} {xs : List α} {ok : Nat → Prop}
theorem C_mid3 {lo hi : Nat} (h : k.C w A xs.length xs) (h1 : lo ≤ hi) (h2 : hi ≤ xs.length) : k.C w (if hi = lo then A else A.map (·.add (lo * k.sz))) ((xs.take hi).drop lo).length ((xs.take hi).drop lo) := by
  have hl : (xs.take hi).length = hi := by rw [List.length_take]; omega
  exact C_drop (C_take h h2) (by omega) (by omega)
theorem F_mid3 {lo hi : Nat} (h : F k W ok A xs.length xs) (h1 : lo ≤ hi) (h2 : hi ≤ xs.length) : F k W ok (if hi = lo then A else A.map (·.add (lo * k.sz))) ((xs.take hi).drop lo).length ((xs.take hi).drop lo) := F_imp h (fun _ hC => C_mid3 hC h1 h2)
end
end Go.Proofs.YtkhmpaooinpfoaaW.PrintWords.Kd
namespace Go.Proofs.Ytkhmpaooinpfoaa.P
open Go.RowKit Go.Proofs.YtkhmpaooinpfoaaW.PrintWords Go.Proofs.YtkhmpaooinpfoaaW.PrintLast Go.Proofs.YtkhmpaooinpfoaaW.PrintMore
attribute [local go_sem] z17 z19 z1j z1k zZ z10 z18 z1a   -- for this text's walks alone
set_option linter.unusedVariables false
set_option linter.unusedSimpArgs false
def z1Q.f (l0 : List S30) : Option (List S30):=if l0.length < 8796093022208 then some l0 else none
set_option maxHeartbeats 800000 in
set_option maxRecDepth 100000 in
theorem z1Q.calls (A0 : Option Addr) (c0 : Nat) (l0 : List S30) (r : List S30) (w : World) (hr0 : Kd.C k30 w A0 l0.length l0) (hc0 : l0.length ≤ c0) (h : z1Q.f l0 = some r) :
 Calls Try.prog 113 #[.slice A0 l0.length c0] w fun e w'=>∃ v0_ : Value,e = .returned (v0_) ∧ Kd.R k30 30 w' w.heap.size (fun _=>True) v0_ r ∧ Below w.heap.size w w':=by
 have hlen : l0.length < 8796093022208 ∧ r = l0:=by
  unfold z1Q.f at h
  split at h
  · exact ⟨by assumption,(Option.some.inj h).symm⟩
  · cases h
 obtain ⟨hlen,rfl⟩:=hlen
 have HB:=z2.mk (Below.refl w.heap.size w)
 have HR:=z2.mk hr0
 have HL:=z2.mk hlen
 clear h hlen
 cases A0 with
 | none =>
  have h0 : r = []:=by
   rcases Nat.eq_zero_or_pos r.length with h0|h0
   · exact List.eq_nil_of_length_eq_zero h0
   · obtain ⟨ad,h,_⟩:=HR.out.2.2 h0
     cases h
  subst h0
  clear hr0
  have he : ∀ w : World,(binOp .eql 24 (.slice none 0 c0) (.slice none 0 0)).run Try.prog w = .ok (.bool true) w:=fun _=>rfl
  go_enter Try.func113,Try.ntmps113
  go_wp2
  go_ret
  exact ⟨_,rfl,Kd.z25 _ _ _ _ _,HB.out⟩
 | some a =>
  clear hr0
  have he : ∀ w : World,(binOp .eql 24 (.slice (some a) r.length c0) (.slice none 0 0)).run Try.prog w = .ok (.bool false) w:=fun _=>rfl
  go_enter Try.func113,Try.ntmps113
  go_wp2_with (first
   | ((with_reducible refine zO (N:=5) rfl ?_);refine Kd.z4R k30 (w0:=w) w.heap.size 30 ?hg (N:=5) ?hd (xs:=([] : List S30)) (inner:=[]) (ok:=fun _=>True) (okp:=fun _=>True) ?hr ?hp (fun _ hk=>hk) trivial HB.out (zc HB.out) (by simp) ?_;(case hd=>rfl);(case hg=>rfl);(case hr=>first|(go_simp;done)|(go_simp;rfl));(case hp=>exact Reps.none _ _);intro v1 w1 ho hb hg hat;have n0_:=z2.mk ho;have n1_:=z2.mk hb;clear HB ho hb hg hat;have HO:=n0_;have HB:=n1_;clear n0_ n1_)
   | ((with_reducible refine z1I (b:=.append) (xs:=#[.tmp 5,.tmp 6]) rfl ?_);at_builtin;refine Kd.z3r k30 (w0:=w) w.heap.size rfl (.tmp 5) (.tmp 6) 24 30 (.agg #[(.int .u64 0),(.int .u64 0)]) 16 rfl Try.underlying24 info30 rfl (by decide) (by omega) v1 [] r _ _ _ (fun _=>True) (fun _=>False) rfl rfl ?aO ?aR (fun _ _ h=>h) (fun _ h=>h.elim) ?aF ?aB ?aS ?aL ?_;(case aR=>exact (Kd.z1h HR.out HB.out));(case aB=>exact HB.out);(case aF=>exact fun _ _=>trivial);(case aO=>exact HO.out);(case aS=>exact (zc HB.out));(case aL=>have:=HL.out;simp only [List.length_nil];omega);intro v2 w2 ho hb hg hat;have n0_:=z2.mk ho;have n1_:=z2.mk hb;clear HB HO ho hb hg hat;have HO:=n0_;have HB:=n1_;clear n0_ n1_))
  go_ret
  exact ⟨_,rfl,HO.out,HB.out⟩
end Go.Proofs.Ytkhmpaooinpfoaa.P
namespace Go.Proofs.Ytkhmpaooinpfoaa.P
open Go.RowKit Go.Proofs.YtkhmpaooinpfoaaW.PrintWords Go.Proofs.YtkhmpaooinpfoaaW.PrintLast Go.Proofs.YtkhmpaooinpfoaaW.PrintMore
attribute [local go_sem] z17 z19 z1j z1k zZ z10 z18 z1a   -- for this text's walks alone
set_option linter.unusedVariables false
set_option linter.unusedSimpArgs false
def z1p.l0 : Nat → Int → List (S30) → List (List (S30)) → Int → Option ((List (List (S30))) × Int)
 | 0,_,_,_,_=>none
 | k + 1,x1,x6,x7,x8=>if x8 < (x6.length : Int) then (if 0 ≤ x8 then (if x8 ≤ (wrap64 (x8 + x1)) then (if (wrap64 (x8 + x1)) ≤ (x6.length : Int) then (if x7.length < 5864062014805 then (z1p.l0 k x1 x6 (x7 ++ [((x6.take ((wrap64 (x8 + x1)) : Int).toNat).drop (x8 : Int).toNat)]) (wrap64 (x8 + x1))) else (none)) else (none)) else (none)) else (none)) else (some (x7,0))
def z1p.f (k : Nat) (l0 : List (S30)) (a1 : Int) : Option ((List (List (S30))) × Int):=if a1 < 1 then (some (([] : List (List (S30))),1)) else (if a1 = 0 then (none) else (if ((l0.length : Int) % a1) = 0 then ((z1Q.f l0).bind fun t101=>(z1p.l0 k a1 t101 ([] : List (List (S30))) 0)) else (some (([] : List (List (S30))),6))))
theorem z1p.z1b : ∀ k,(∀ y0 y1 y2 y3,LeO (z1p.l0 k y0 y1 y2 y3) (z1p.l0 (k + 1) y0 y1 y2 y3))
 | 0=>fun _ _ _ _ r h=>by simp [z1p.l0] at h
 | k + 1=>by
  have ih0:=z1p.z1b k
  · intro y0 y1 y2 y3
    unfold z1p.l0
    repeat' first
    | (with_reducible exact ih0 _ _ _ _)
    | (with_reducible exact LeO.refl _)
    | (with_reducible exact LeO.none _)
    | (with_reducible refine LeO.ite ?_ ?_)
    | (with_reducible refine LeO.bind ?_ (fun _=>?_))
    | exact ih0 _ _ _ _
    | exact LeO.none _
    | refine LeO.ite ?_ ?_
    | refine LeO.bind ?_ (fun _=>?_)
theorem z1p.mono : ∀ a0 a1 k,LeO (z1p.f k a0 a1) (z1p.f (k + 1) a0 a1):=by
 intro a0 a1 k
 have ih0:=z1p.z1b k
 unfold z1p.f
 repeat' first
  | (with_reducible exact ih0 _ _ _ _)
  | (with_reducible exact LeO.refl _)
  | (with_reducible exact LeO.none _)
  | (with_reducible refine LeO.ite ?_ ?_)
  | (with_reducible refine LeO.bind ?_ (fun _=>?_))
  | exact ih0 _ _ _ _
  | exact LeO.none _
  | refine LeO.ite ?_ ?_
  | refine LeO.bind ?_ (fun _=>?_)
set_option maxHeartbeats 8000000 in
set_option maxRecDepth 100000 in
theorem z1p.calls (k : Nat) (A0 : Option Addr) (c0 : Nat) (l0 : List (S30)) (a1 : Int) (r1 : List (List (S30))) (r2 : Int) (w : World) (hr0 : Kd.C k30 w A0 l0.length l0) (hc0 : l0.length ≤ c0) (h : z1p.f k l0 a1 = some (r1,r2)) :
 Calls Try.prog 73 #[.slice A0 l0.length c0,.int .i64 a1] w fun e w'=>∃ v0_ : Value,e = .returned (.tuple #[v0_,.int .i64 r2]) ∧ Kd.N (Kd.slice 30 k30) 24 w' w.heap.size (fun k_=>(w.heap.size ≤ k_)) v0_ r1 ∧ Below w.heap.size w w':=by
 have HR0:=z2.mk hr0
 have HC0:=z2.mk hc0
 clear hr0 hc0
 have HB:=z2.mk (Below.refl w.heap.size w)
 have H : (if a1 < 1 then (some (([] : List (List (S30))),1)) else (if a1 = 0 then (none) else (if ((l0.length : Int) % a1) = 0 then ((z1Q.f l0).bind fun t101=>(z1p.l0 k a1 t101 ([] : List (List (S30))) 0)) else (some (([] : List (List (S30))),6))))) = some (r1,r2):=h
 clear h
 by_cases c3 : a1 < 1
 · rw [if_pos c3] at H
   have c3b0 : decide (a1 < 1) = true:=decide_eq_true c3
   clear c3
   simp only [Option.some.injEq,Prod.mk.injEq] at H
   obtain ⟨rfl,rfl⟩:=H
   go_enter Try.func73,Try.ntmps73
   go_wp2
   go_ret2
   exact ⟨_,by first|rfl|(simp [zh,zi] <;> rfl)|(simp [*,zh,zi] <;> rfl),by first|exact Kd.z2k _ _ _ _ _|exact Kd.z2i _ _ _ _ _|exact Kd.z2l _ _ _ _ _|exact Kd.z2j _ _ _ _ _|exact Kd.z25 _ _ _ _ _,by repeat (first|(with_reducible first|exact HB.out|apply z4|apply z1|apply z3)|exact HB.out)⟩
 rw [if_neg c3] at H
 have c3b0 : decide (a1 < 1) = false:=decide_eq_false c3
 clear c3
 by_cases c4 : a1 = 0
 · rw [if_pos c4] at H
   exact absurd H (by simp)
 rw [if_neg c4] at H
 have c4b0 : (a1 == 0) = false:=beq_eq_false_iff_ne.mpr c4
 have c4b1 : (a1 != 0) = true:=bne_iff_ne.mpr c4
 by_cases c5 : ((l0.length : Int) % a1) = 0
 rotate_left
 · rw [if_neg c5] at H
   have c5b0 : (((l0.length : Int) % a1) == 0) = false:=beq_eq_false_iff_ne.mpr c5
   have c5b1 : (((l0.length : Int) % a1) != 0) = true:=bne_iff_ne.mpr c5
   simp only [Option.some.injEq,Prod.mk.injEq] at H
   obtain ⟨rfl,rfl⟩:=H
   go_enter Try.func73,Try.ntmps73
   go_wp2
   go_ret2
   exact ⟨_,by first|rfl|(simp [zh,zi] <;> rfl)|(simp [*,zh,zi] <;> rfl),by first|exact Kd.z2k _ _ _ _ _|exact Kd.z2i _ _ _ _ _|exact Kd.z2l _ _ _ _ _|exact Kd.z2j _ _ _ _ _|exact Kd.z25 _ _ _ _ _,by repeat (first|(with_reducible first|exact HB.out|apply z4|apply z1|apply z3)|exact HB.out)⟩
 rw [if_pos c5] at H
 have c5b0 : (((l0.length : Int) % a1) == 0) = true:=beq_iff_eq.mpr c5
 have c5b1 : (((l0.length : Int) % a1) != 0) = false:=bne_eq_false_iff_eq.mpr c5
 clear c5
 replace H:=Option.bind_eq_some_iff.mp H
 obtain ⟨t101,A60,H⟩:=H
 replace H : (z1p.l0 k a1 t101 ([] : List (List (S30))) 0) = some (r1,r2):=H
 have A6:=z2.mk A60
 clear A60
 have H':=z2.mk H
 clear H
 go_enter Try.func73,Try.ntmps73
 go_wp2_with (first|((with_reducible refine zm (f:=113) rfl ?_);refine goesL_ (some 19) rfl rfl Try.func113 (by kernel_rfl) rfl #[.slice A0 l0.length c0] rfl (by (try simp only [List.map_toArray,List.map_cons,List.map_nil]);first|done|rfl|(simp only [List.length_drop,List.length_take];rfl)) ?_;(with_reducible refine (z1Q.calls _ _ l0 t101 _ ?side1 ?side2 A6.out).mono ?_);(case side1=>repeat (first|exact HR0.out|(with_reducible refine Kd.zS ?_ _)|(with_reducible refine Kd.zT ?_ _)|(with_reducible refine Kd.z16 ?_)));(case side2=>exact HC0.out);rintro e w7 ⟨v102,rfl,ho0,hb⟩;refine ⟨_,rfl,?_⟩;have n0_:=z2.mk (Kd.z1o (Kd.R_newM (M:=fun k_=>(w.heap.size ≤ k_)) ho0 (zc (by repeat (first|(with_reducible first|exact HB.out|apply z4|apply z1|apply z3)|exact HB.out))) (fun k_ h_=>h_)) (zc (by repeat (first|(with_reducible first|exact HB.out|apply z4|apply z1|apply z3)|exact HB.out))));have n1_:=z2.mk (za (by repeat (first|(with_reducible first|exact HB.out|apply z4|apply z1|apply z3)|exact HB.out)) hb);clear HB;have HO103:=n0_;have HB:=n1_;clear n0_ n1_;(try clear hb);(try clear hb2);(try clear hk);(try clear hi);(try clear ho0)))
 go_loopg [7,8] k (fun kq v7 v8 w'=>∃ (x7_1 : List (List (S30))) (x8_1 : Int),v8 = .int .i64 x8_1 ∧ z2 (z1p.l0 kq a1 t101 x7_1 x8_1 = some (r1,r2)) ∧ z2 (kq ≤ k) ∧ z2 (Kd.R k30 30 w' w.heap.size (fun k_=>(w.heap.size ≤ k_)) v102 t101) ∧ z2 (Kd.N (Kd.slice 30 k30) 24 w' w.heap.size (fun k_=>(w.heap.size ≤ k_)) v7 x7_1) ∧ z2 (Below w.heap.size w w'))
 case atStart=>exact ⟨(([] : List (List (S30)))),(0),(by first|rfl|(simp;done)|(simp [*];done)),H',⟨Nat.le_refl _⟩,⟨by (with_reducible repeat (first|apply Kd.zj|apply Kd.zk|apply Kd.zo));exact Kd.z1w HO103.out (fun _ hk=>hk.1)⟩,⟨by first|exact Kd.z2k _ _ _ _ _|exact Kd.z2i _ _ _ _ _|exact Kd.z2l _ _ _ _ _|exact Kd.z2j _ _ _ _ _|exact Kd.z25 _ _ _ _ _⟩,⟨by repeat (first|(with_reducible first|exact HB.out|apply z4|apply z1|apply z3)|exact HB.out)⟩⟩
 case round =>
  clear H'
  (try clear c1);(try clear p2);(try clear c3);(try clear c3b0);(try clear c4);(try clear c4b0);(try clear c4b1);(try clear c5);(try clear c5b0);(try clear c5b1);(try clear c7)
  obtain ⟨x7_1,x8_1,rfl,HA,HK1,HO_6,HO_7,HB⟩:=hrel
  cases gk with
  | zero=>exact absurd HA.out (by simp [z1p.l0])
  | succ k1 =>
   have H:=HA.out
   clear HA
   simp only [z1p.l0] at H
   by_cases c8 : x8_1 < (t101.length : Int)
   rotate_left
   · rw [if_neg c8] at H
     have c8b0 : decide (x8_1 < (t101.length : Int)) = false:=decide_eq_false c8
     clear c8
     simp only [Option.some.injEq,Prod.mk.injEq] at H
     obtain ⟨rfl,rfl⟩:=H
     obtain ⟨Ao16,co16,eo16⟩:=Kd.z1s HO_6.out
     subst eo16
     go_wp2
     go_ret2
     exact ⟨_,by first|rfl|(simp [zh,zi] <;> rfl)|(simp [*,zh,zi] <;> rfl),by (with_reducible repeat (first|apply Kd.z4N|apply Kd.z4O|apply Kd.z60));exact HO_7.out,by repeat (first|(with_reducible first|exact HB.out|apply z4|apply z1|apply z3)|exact HB.out)⟩
   rw [if_pos c8] at H
   have c8b0 : decide (x8_1 < (t101.length : Int)) = true:=decide_eq_true c8
   clear c8
   by_cases c9 : 0 ≤ x8_1
   rotate_left
   · rw [if_neg c9] at H
     exact absurd H (by simp)
   rw [if_pos c9] at H
   have c9b0:=eq_true c9
   have c9b1 : decide (0 ≤ x8_1) = true:=decide_eq_true c9
   clear c9
   by_cases c10 : x8_1 ≤ (wrap64 (x8_1 + a1))
   rotate_left
   · rw [if_neg c10] at H
     exact absurd H (by simp)
   rw [if_pos c10] at H
   have c10b0:=eq_true c10
   have c10b1 : decide (x8_1 ≤ (wrap64 (x8_1 + a1))) = true:=decide_eq_true c10
   by_cases c11 : (wrap64 (x8_1 + a1)) ≤ (t101.length : Int)
   rotate_left
   · rw [if_neg c11] at H
     exact absurd H (by simp)
   rw [if_pos c11] at H
   have c11b0:=eq_true c11
   have c11b1 : decide ((wrap64 (x8_1 + a1)) ≤ (t101.length : Int)) = true:=decide_eq_true c11
   obtain ⟨y104,hy104⟩ : ∃ y_ : List (S30),y_ = ((t101.take ((wrap64 (x8_1 + a1)) : Int).toNat).drop (x8_1 : Int).toNat):=⟨_,rfl⟩
   replace H : (if x7_1.length < 5864062014805 then (z1p.l0 k1 a1 t101 (x7_1 ++ [y104]) (wrap64 (x8_1 + a1))) else (none)) = some (r1,r2):=by first|(rw [hy104];with_reducible exact H)|(have H2_:=(Option.bind_some _ _).symm.trans H;rw [hy104];with_reducible exact H2_)|(have H2_:=(Option.bind_some _ _).symm.trans H;with_reducible exact H2_)|with_reducible exact H|(rw [hy104];exact H)|exact H
   have Ny104:=z2.mk hy104
   clear hy104
   by_cases c12 : x7_1.length < 5864062014805
   rotate_left
   · rw [if_neg c12] at H
     exact absurd H (by simp)
   rw [if_pos c12] at H
   have LMc12:=z2.mk c12
   clear c12
   obtain ⟨y109,hy109⟩ : ∃ y_ : List (List (S30)),y_ = (x7_1 ++ [y104]):=⟨_,rfl⟩
   replace H : (z1p.l0 k1 a1 t101 y109 (wrap64 (x8_1 + a1))) = some (r1,r2):=by first|(rw [hy109];with_reducible exact H)|(have H2_:=(Option.bind_some _ _).symm.trans H;rw [hy109];with_reducible exact H2_)|(have H2_:=(Option.bind_some _ _).symm.trans H;with_reducible exact H2_)|with_reducible exact H|(rw [hy109];exact H)|exact H
   have Ny109:=z2.mk hy109
   clear hy109
   have H':=z2.mk H
   clear H
   obtain ⟨Ao13,co13,eo13⟩:=Kd.z1s HO_6.out
   subst eo13
   have q14 : ((wrap64 (x8_1 + a1)) : Int) ≤ ((t101.length : Int) : Int):=of_decide_eq_true (by first|(with_reducible assumption)|assumption)
   obtain ⟨i014,hi014,_,hsz14,_⟩:=info_parts info30
   have hroom14 : t101.length ≤ co13:=(Kd.zI HO_6.out).2.1
   have hC14 : Kd.F k30 _ _ Ao13 t101.length t101:=(Kd.V_at (base:=w.heap.size) (Kd.R_V (Kd.z4Q (HO_6.out) (Kd.z6O HO_7.out) (by decide)))).2.2
   have ql14 : (x8_1 : Int) ≤ ((wrap64 (x8_1 + a1)) : Int):=of_decide_eq_true (by first|(with_reducible assumption)|assumption)
   have q014 : (0 : Int) ≤ (x8_1 : Int):=of_decide_eq_true (by first|(with_reducible assumption)|assumption)
   have hcut14:=cut_mid3 (P:=Try.prog) 24 30 .i64 .i64 .i64 Try.underlying24 hi014 2 hsz14 Ao13 t101.length co13 x8_1 (wrap64 (x8_1 + a1)) q014 ql14 q14 hroom14
   have hr14:=Kd.F_mid3 (lo:=(x8_1 : Int).toNat) (hi:=((wrap64 (x8_1 + a1)) : Int).toNat) hC14 (by omega) (by omega)
   obtain ⟨A14,hA14⟩ : ∃ A1,A1 = (if ((wrap64 (x8_1 + a1)) : Int).toNat = (x8_1 : Int).toNat then Ao13 else (Ao13 : Option Addr).map (·.add ((x8_1 : Int).toNat * 2))):=⟨_,rfl⟩
   obtain ⟨c14,hc14⟩ : ∃ c1,c1 = Nat.sub ((wrap64 (x8_1 + a1)) : Int).toNat (x8_1 : Int).toNat:=⟨_,rfl⟩
   have hy14 : y104.length = ((wrap64 (x8_1 + a1)) : Int).toNat - (x8_1 : Int).toNat:=(by rw [Ny104.out,List.length_drop,List.length_take] <;> omega)
   rw [show ((t101).take ((wrap64 (x8_1 + a1)) : Int).toNat).drop (x8_1 : Int).toNat = y104 from Ny104.out.symm] at hr14
   replace hr14 : Kd.F k30 _ _ A14 y104.length y104:=(by rw [hA14];exact hr14)
   rw [← hy14,← hA14,← hc14] at hcut14
   have HO108:=z2.mk (show Kd.V k30 30 _ w.heap.size _ (.slice A14 y104.length c14) y104 from Kd.V_mk (by rw [hy14,hc14];exact Nat.sub_le_sub_right (Nat.le_refl _) _) hr14)
   have HC108:=z2.mk (show y104.length ≤ c14 from by rw [hy14,hc14];exact Nat.sub_le_sub_right (Nat.le_refl _) _)
   clear hr14 hC14 hroom14 hi014 hsz14 hc14
   have KY14:=z2.mk hy14
   have KA14:=z2.mk hA14
   clear hy14 hA14
   replace q14:=eq_true q14
   go_wp2_with (first|((with_reducible refine z1I (b:=.append) (xs:=#[.tmp 27,.tmp 37]) rfl ?_);at_builtin;refine Kd.N_append (Kd.slice 30 k30) (w0:=w) w.heap.size rfl (.tmp 27) (.tmp 37) 44 24 (.slice none 0 0) 24 rfl Try.underlying44 info24 rfl (by decide) (by omega) u7 x7_1 y104 [.slice A14 y104.length c14] (fun k_=>(w.heap.size ≤ k_)) (fun k_=>((fun k_=>(w.heap.size ≤ k_))) k_ ∧ some k_ ≠ (u7 : Value).ownBlock) rfl rfl ?aP (fun _ hk=>hk) ?aF ?aO ?aB ?aS ?aL ?_;(case aP=>exact (Kd.z5O (Kd.V_reads' (Kd.V_mono (ok':=(fun k_=>((fun k_=>(w.heap.size ≤ k_))) k_ ∧ some k_ ≠ (u7 : Value).ownBlock)) (HO108.out) (fun k_ hk=>⟨hk.1,hk.2⟩))).2.1 (Kd.V_F (Kd.V_mono (ok':=(fun k_=>((fun k_=>(w.heap.size ≤ k_))) k_ ∧ some k_ ≠ (u7 : Value).ownBlock)) (HO108.out) (fun k_ hk=>⟨hk.1,hk.2⟩)))));(case aB=>exact (by repeat (first|(with_reducible first|exact HB.out|apply z4|apply z1|apply z3)|exact HB.out)));(case aF=>exact (fun k_ hk=>(Nat.le_trans (zc (by repeat (first|(with_reducible first|exact HB.out|apply z4|apply z1|apply z3)|exact HB.out))) hk)));(case aO=>exact (by (with_reducible repeat (first|apply Kd.z4N|apply Kd.z4O|apply Kd.z60));exact HO_7.out));(case aS=>exact (zc (by repeat (first|(with_reducible first|exact HB.out|apply z4|apply z1|apply z3)|exact HB.out))));(case aL=>have:=LMc12.out;omega);intro v110 w15 ho hb hg hat;rw [← Ny109.out] at ho;have n0_:=z2.mk (Kd.z6R (by (with_reducible repeat (first|apply Kd.zj|apply Kd.zk|apply Kd.zo));exact HO_6.out) (Kd.z6O (by (with_reducible repeat (first|apply Kd.z4N|apply Kd.z4O|apply Kd.z60));exact HO_7.out)) (by decide) hg);have n1_:=z2.mk (Kd.V_afterv (ok:=(fun k_=>(w.heap.size ≤ k_))) (by (with_reducible repeat (first|apply Kd.V_alloc|apply Kd.V_drewN|apply Kd.V_drew));exact HO108.out) hg hat);have n2_:=z2.mk (hb);have n3_:=z2.mk (ho);clear HO_6;clear HO108;clear HB;clear HO_7;have HO_6:=n0_;have HO108:=n1_;have HB:=n2_;have HO111:=n3_;clear n0_ n1_ n2_ n3_;clear ho hb hg hat))
   go_roundg k1
   case measure=>have:=HK1.out;omega
   case rel=>exact ⟨(y109),(wrap64 (x8_1 + a1)),(by first|rfl|(simp;done)|(simp [*];done)),H',⟨by have:=HK1.out;omega⟩,⟨by (with_reducible repeat (first|apply Kd.zj|apply Kd.zk|apply Kd.zo));exact HO_6.out⟩,⟨by (with_reducible repeat (first|apply Kd.z4N|apply Kd.z4O|apply Kd.z60));exact HO111.out⟩,⟨by repeat (first|(with_reducible first|exact HB.out|apply z4|apply z1|apply z3)|exact HB.out)⟩⟩
end Go.Proofs.Ytkhmpaooinpfoaa.P
namespace Go.Proofs.Ytkhmpaooinpfoaa.P
open Go.RowKit Go.Proofs.YtkhmpaooinpfoaaW.PrintWords Go.Proofs.YtkhmpaooinpfoaaW.PrintLast Go.Proofs.YtkhmpaooinpfoaaW.PrintMore
attribute [local go_sem] z17 z19 z1j z1k zZ z10 z18 z1a   -- for this text's walks alone
set_option linter.unusedVariables false
set_option linter.unusedSimpArgs false
attribute [local go_sem high] eqA30
def zJ.f (k : Nat)  : Option (Bool):=(zC.f k 1 3 (([(⟨0,1⟩ : S30),(⟨0,2⟩ : S30),(⟨0,3⟩ : S30),(⟨0,0⟩ : S30)] : List (S30)))).bind fun bt104=>((z1p.f k bt104.1 1).bind fun bt108=>(if bt104.2 = 0 then (if bt108.2 = 0 then (if (bt104.1.length : Int) = 1 then (if 0 < (bt104.1.length : Int) then (if (((zq bt104.1 0).f0) == 0 && (((zq bt104.1 0).f1) == 57)) = true then (some ((bt108.1.length : Int) == 1)) else (some false)) else (none)) else (some false)) else (some false)) else (some false)))
theorem zJ.mono : ∀ k,LeO (zJ.f k ) (zJ.f (k + 1) ):=by
 intro  k
 unfold zJ.f
 repeat' first
  | (with_reducible exact z1p.mono _ _ _)
  | (with_reducible exact zC.mono _ _ _ _)
  | (with_reducible exact LeO.refl _)
  | (with_reducible exact LeO.none _)
  | (with_reducible refine LeO.ite ?_ ?_)
  | (with_reducible refine LeO.bind ?_ (fun _=>?_))
  | exact z1p.mono _ _ _
  | exact zC.mono _ _ _ _
  | exact LeO.none _
  | refine LeO.ite ?_ ?_
  | refine LeO.bind ?_ (fun _=>?_)
set_option maxHeartbeats 8000000 in
set_option maxRecDepth 100000 in
theorem zJ.calls (k : Nat)  (r : Bool) (w : World) (h : zJ.f k  = some r) :
 Calls Try.prog 19 #[] w fun e w'=>e = .returned (.bool r) ∧ Below w.heap.size w w':=by
 have hu30:=Try.underlying30
 have HB:=z2.mk (Below.refl w.heap.size w)
 have H : ((zC.f k 1 3 (([(⟨0,1⟩ : S30),(⟨0,2⟩ : S30),(⟨0,3⟩ : S30),(⟨0,0⟩ : S30)] : List (S30)))).bind fun bt104=>((z1p.f k bt104.1 1).bind fun bt108=>(if bt104.2 = 0 then (if bt108.2 = 0 then (if (bt104.1.length : Int) = 1 then (if 0 < (bt104.1.length : Int) then (if (((zq bt104.1 0).f0) == 0 && (((zq bt104.1 0).f1) == 57)) = true then (some ((bt108.1.length : Int) == 1)) else (some false)) else (none)) else (some false)) else (some false)) else (some false)))) = some r:=h
 clear h
 obtain ⟨y101,hy101⟩ : ∃ y_ : List (S30),y_ = (([(⟨0,1⟩ : S30),(⟨0,2⟩ : S30),(⟨0,3⟩ : S30),(⟨0,0⟩ : S30)] : List (S30))):=⟨_,rfl⟩
 replace H : ((zC.f k 1 3 y101).bind fun bt104=>((z1p.f k bt104.1 1).bind fun bt108=>(if bt104.2 = 0 then (if bt108.2 = 0 then (if (bt104.1.length : Int) = 1 then (if 0 < (bt104.1.length : Int) then (if (((zq bt104.1 0).f0) == 0 && (((zq bt104.1 0).f1) == 57)) = true then (some ((bt108.1.length : Int) == 1)) else (some false)) else (none)) else (some false)) else (some false)) else (some false)))) = some r:=by first|(rw [hy101];with_reducible exact H)|(have H2_:=(Option.bind_some _ _).symm.trans H;rw [hy101];with_reducible exact H2_)|(have H2_:=(Option.bind_some _ _).symm.trans H;with_reducible exact H2_)|with_reducible exact H|(rw [hy101];exact H)|exact H
 have Ny101:=z2.mk hy101
 clear hy101
 replace H:=Option.bind_eq_some_iff.mp H
 obtain ⟨⟨t104,t105⟩,A10,H⟩:=H
 replace H : ((z1p.f k t104 1).bind fun bt108=>(if t105 = 0 then (if bt108.2 = 0 then (if (t104.length : Int) = 1 then (if 0 < (t104.length : Int) then (if (((zq t104 0).f0) == 0 && (((zq t104 0).f1) == 57)) = true then (some ((bt108.1.length : Int) == 1)) else (some false)) else (none)) else (some false)) else (some false)) else (some false))) = some r:=H
 have A1:=z2.mk A10
 clear A10
 replace H:=Option.bind_eq_some_iff.mp H
 obtain ⟨⟨t108,t111⟩,A20,H⟩:=H
 replace H : (if t105 = 0 then (if t111 = 0 then (if (t104.length : Int) = 1 then (if 0 < (t104.length : Int) then (if (((zq t104 0).f0) == 0 && (((zq t104 0).f1) == 57)) = true then (some ((t108.length : Int) == 1)) else (some false)) else (none)) else (some false)) else (some false)) else (some false)) = some r:=H
 have A2:=z2.mk A20
 clear A20
 by_cases c3 : t105 = 0
 rotate_left
 · rw [if_neg c3] at H
   have c3b0 : (t105 == 0) = false:=beq_eq_false_iff_ne.mpr c3
   have c3b1 : (t105 != 0) = true:=bne_iff_ne.mpr c3
   obtain rfl:=Option.some.inj H
   go_enter Try.func19,Try.ntmps19
   go_wp2_with (first|((with_reducible refine zO (N:=10) rfl ?_);(try (refine z2g (by rfl) ?_;dsimp only));refine Kd.z4R k30 _ 30 ?hg (N:=10) ?hd (xs:=([(⟨0,1⟩ : S30),(⟨0,2⟩ : S30),(⟨0,3⟩ : S30),(⟨0,0⟩ : S30)] : List (S30))) (inner:=[.int .u64 0,.int .u64 1,.int .u64 0,.int .u64 2,.int .u64 0,.int .u64 3,.int .u64 0,.int .u64 0]) (ok:=fun _=>True) (okp:=fun _=>True) ?hr ?hp (fun _ hk=>hk) trivial (Below.refl _ _) (Nat.le_refl _) (by simp) ?_;(case hd=>rfl);(case hg=>rfl);(case hr=>first|(go_simp;done)|(go_simp;rfl));(case hp=>exact (Reps.c2 (show Kd.M k30 _ _ _ (⟨0,1⟩ : S30) [.int .u64 0,.int .u64 1] from (z1E _ _ _ (⟨0,1⟩ : S30) )) (Reps.c2 (show Kd.M k30 _ _ _ (⟨0,2⟩ : S30) [.int .u64 0,.int .u64 2] from (z1E _ _ _ (⟨0,2⟩ : S30) )) (Reps.c2 (show Kd.M k30 _ _ _ (⟨0,3⟩ : S30) [.int .u64 0,.int .u64 3] from (z1E _ _ _ (⟨0,3⟩ : S30) )) (Reps.c2 (show Kd.M k30 _ _ _ (⟨0,0⟩ : S30) [.int .u64 0,.int .u64 0] from (z1E _ _ _ (⟨0,0⟩ : S30) )) (Reps.none _ _))))));intro v102 w33 ho34 hb hg_ hnew_;clear hg_ hnew_;(first|rw [← Ny101.out] at ho34|(simp only [Int.reduceToNat] at ho34;rw [← Ny101.out] at ho34));have n0_:=z2.mk (Kd.z1o ho34 (zc (by repeat (first|(with_reducible first|exact HB.out|apply z4|apply z1|apply z3)|exact HB.out))));have n1_:=z2.mk (za (by repeat (first|(with_reducible first|exact HB.out|apply z4|apply z1|apply z3)|exact HB.out)) hb);clear HB;have HO103:=n0_;have HB:=n1_;clear n0_ n1_;clear hb ho34;obtain ⟨Ao35,co35,eo35⟩:=Kd.z1s HO103.out;subst eo35)|((with_reducible refine zm (f:=72) rfl ?_);refine goesL_ (some 11) rfl rfl Try.func72 (by kernel_rfl) rfl #[.int .i64 1,.int .i64 3,.slice Ao35 y101.length co35] rfl (by (try simp only [List.map_toArray,List.map_cons,List.map_nil]);first|done|rfl|(simp only [List.length_drop,List.length_take];rfl)) ?_;(with_reducible refine (zC.calls k 1 3 _ _ y101 t104 t105 _ ?side1 ?side2 A1.out).mono ?_);(case side1=>repeat (first|exact (Kd.zI HO103.out).2.2|(with_reducible refine Kd.zS ?_ _)|(with_reducible refine Kd.zT ?_ _)|(with_reducible refine Kd.z16 ?_)));(case side2=>exact (Kd.zI HO103.out).2.1);rintro e w36 ⟨v106,rfl,ho0,hb⟩;refine ⟨_,rfl,?_⟩;have n0_:=z2.mk (Kd.z1C (by (with_reducible repeat (first|apply Kd.zj|apply Kd.zk|apply Kd.zo));exact HO103.out) (Kd.z1v ho0) hb);have n1_:=z2.mk (Kd.z1o (Kd.z21 ho0 (Kd.R_lt (by (with_reducible repeat (first|apply Kd.zj|apply Kd.zk|apply Kd.zo));exact HO103.out))) (zc (by repeat (first|(with_reducible first|exact HB.out|apply z4|apply z1|apply z3)|exact HB.out))));have n2_:=z2.mk (za (by repeat (first|(with_reducible first|exact HB.out|apply z4|apply z1|apply z3)|exact HB.out)) hb);clear HO103;clear HB;have HO103:=n0_;have HO107:=n1_;have HB:=n2_;clear n0_ n1_ n2_;(try clear hb);(try clear hb2);(try clear hk);(try clear hi);(try clear ho0);obtain ⟨Ao37,co37,eo37⟩:=Kd.z1s HO107.out;subst eo37)|((with_reducible refine zm (f:=73) rfl ?_);refine goesL_ (some 16) rfl rfl Try.func73 (by kernel_rfl) rfl #[.slice Ao37 t104.length co37,.int .i64 1] rfl (by (try simp only [List.map_toArray,List.map_cons,List.map_nil]);first|done|rfl|(simp only [List.length_drop,List.length_take];rfl)) ?_;(with_reducible refine (z1p.calls k _ _ t104 1 t108 t111 _ ?side1 ?side2 A2.out).mono ?_);(case side1=>repeat (first|exact (Kd.zI HO107.out).2.2|(with_reducible refine Kd.zS ?_ _)|(with_reducible refine Kd.zT ?_ _)|(with_reducible refine Kd.z16 ?_)));(case side2=>exact (Kd.zI HO107.out).2.1);rintro e w38 ⟨v109,rfl,ho0,hb⟩;refine ⟨_,rfl,?_⟩;have n0_:=z2.mk (Kd.zE (by (with_reducible repeat (first|apply Kd.zj|apply Kd.zk|apply Kd.zo));exact HO103.out) hb);have n1_:=z2.mk (Kd.zE (by (with_reducible repeat (first|apply Kd.zj|apply Kd.zk|apply Kd.zo));exact HO107.out) hb);have n2_:=z2.mk (Kd.z3V (Kd.z5i (ok':=fun k_=>some k_ ≠ (.slice Ao35 y101.length co35 : Value).ownBlock ∧ some k_ ≠ (.slice Ao37 t104.length co37 : Value).ownBlock) ho0 (fun k_ hk_=>⟨(Kd.fresh' (Kd.R_lt (by (with_reducible repeat (first|apply Kd.zj|apply Kd.zk|apply Kd.zo));exact HO103.out)) k_ hk_),(Kd.fresh' (Kd.R_lt (by (with_reducible repeat (first|apply Kd.zj|apply Kd.zk|apply Kd.zo));exact HO107.out)) k_ hk_)⟩)) (zc (by repeat (first|(with_reducible first|exact HB.out|apply z4|apply z1|apply z3)|exact HB.out))));have n3_:=z2.mk (za (by repeat (first|(with_reducible first|exact HB.out|apply z4|apply z1|apply z3)|exact HB.out)) hb);clear HO103;clear HO107;clear HB;have HO103:=n0_;have HO107:=n1_;have HO110:=n2_;have HB:=n3_;clear n0_ n1_ n2_ n3_;(try clear hb);(try clear hb2);(try clear hk);(try clear hi);(try clear ho0)))
   go_ret
   exact ⟨by first|rfl|(simp [zh,zi] <;> rfl)|(simp [*,zh,zi] <;> rfl),by repeat (first|(with_reducible first|exact HB.out|apply z4|apply z1|apply z3)|exact HB.out)⟩
 rw [if_pos c3] at H
 have c3b0 : (t105 == 0) = true:=beq_iff_eq.mpr c3
 have c3b1 : (t105 != 0) = false:=bne_eq_false_iff_eq.mpr c3
 clear c3
 by_cases c4 : t111 = 0
 rotate_left
 · rw [if_neg c4] at H
   have c4b0 : (t111 == 0) = false:=beq_eq_false_iff_ne.mpr c4
   have c4b1 : (t111 != 0) = true:=bne_iff_ne.mpr c4
   obtain rfl:=Option.some.inj H
   go_enter Try.func19,Try.ntmps19
   go_wp2_with (first|((with_reducible refine zO (N:=10) rfl ?_);(try (refine z2g (by rfl) ?_;dsimp only));refine Kd.z4R k30 _ 30 ?hg (N:=10) ?hd (xs:=([(⟨0,1⟩ : S30),(⟨0,2⟩ : S30),(⟨0,3⟩ : S30),(⟨0,0⟩ : S30)] : List (S30))) (inner:=[.int .u64 0,.int .u64 1,.int .u64 0,.int .u64 2,.int .u64 0,.int .u64 3,.int .u64 0,.int .u64 0]) (ok:=fun _=>True) (okp:=fun _=>True) ?hr ?hp (fun _ hk=>hk) trivial (Below.refl _ _) (Nat.le_refl _) (by simp) ?_;(case hd=>rfl);(case hg=>rfl);(case hr=>first|(go_simp;done)|(go_simp;rfl));(case hp=>exact (Reps.c2 (show Kd.M k30 _ _ _ (⟨0,1⟩ : S30) [.int .u64 0,.int .u64 1] from (z1E _ _ _ (⟨0,1⟩ : S30) )) (Reps.c2 (show Kd.M k30 _ _ _ (⟨0,2⟩ : S30) [.int .u64 0,.int .u64 2] from (z1E _ _ _ (⟨0,2⟩ : S30) )) (Reps.c2 (show Kd.M k30 _ _ _ (⟨0,3⟩ : S30) [.int .u64 0,.int .u64 3] from (z1E _ _ _ (⟨0,3⟩ : S30) )) (Reps.c2 (show Kd.M k30 _ _ _ (⟨0,0⟩ : S30) [.int .u64 0,.int .u64 0] from (z1E _ _ _ (⟨0,0⟩ : S30) )) (Reps.none _ _))))));intro v102 w27 ho28 hb hg_ hnew_;clear hg_ hnew_;(first|rw [← Ny101.out] at ho28|(simp only [Int.reduceToNat] at ho28;rw [← Ny101.out] at ho28));have n0_:=z2.mk (Kd.z1o ho28 (zc (by repeat (first|(with_reducible first|exact HB.out|apply z4|apply z1|apply z3)|exact HB.out))));have n1_:=z2.mk (za (by repeat (first|(with_reducible first|exact HB.out|apply z4|apply z1|apply z3)|exact HB.out)) hb);clear HB;have HO103:=n0_;have HB:=n1_;clear n0_ n1_;clear hb ho28;obtain ⟨Ao29,co29,eo29⟩:=Kd.z1s HO103.out;subst eo29)|((with_reducible refine zm (f:=72) rfl ?_);refine goesL_ (some 11) rfl rfl Try.func72 (by kernel_rfl) rfl #[.int .i64 1,.int .i64 3,.slice Ao29 y101.length co29] rfl (by (try simp only [List.map_toArray,List.map_cons,List.map_nil]);first|done|rfl|(simp only [List.length_drop,List.length_take];rfl)) ?_;(with_reducible refine (zC.calls k 1 3 _ _ y101 t104 t105 _ ?side1 ?side2 A1.out).mono ?_);(case side1=>repeat (first|exact (Kd.zI HO103.out).2.2|(with_reducible refine Kd.zS ?_ _)|(with_reducible refine Kd.zT ?_ _)|(with_reducible refine Kd.z16 ?_)));(case side2=>exact (Kd.zI HO103.out).2.1);rintro e w30 ⟨v106,rfl,ho0,hb⟩;refine ⟨_,rfl,?_⟩;have n0_:=z2.mk (Kd.z1C (by (with_reducible repeat (first|apply Kd.zj|apply Kd.zk|apply Kd.zo));exact HO103.out) (Kd.z1v ho0) hb);have n1_:=z2.mk (Kd.z1o (Kd.z21 ho0 (Kd.R_lt (by (with_reducible repeat (first|apply Kd.zj|apply Kd.zk|apply Kd.zo));exact HO103.out))) (zc (by repeat (first|(with_reducible first|exact HB.out|apply z4|apply z1|apply z3)|exact HB.out))));have n2_:=z2.mk (za (by repeat (first|(with_reducible first|exact HB.out|apply z4|apply z1|apply z3)|exact HB.out)) hb);clear HO103;clear HB;have HO103:=n0_;have HO107:=n1_;have HB:=n2_;clear n0_ n1_ n2_;(try clear hb);(try clear hb2);(try clear hk);(try clear hi);(try clear ho0);obtain ⟨Ao31,co31,eo31⟩:=Kd.z1s HO107.out;subst eo31)|((with_reducible refine zm (f:=73) rfl ?_);refine goesL_ (some 16) rfl rfl Try.func73 (by kernel_rfl) rfl #[.slice Ao31 t104.length co31,.int .i64 1] rfl (by (try simp only [List.map_toArray,List.map_cons,List.map_nil]);first|done|rfl|(simp only [List.length_drop,List.length_take];rfl)) ?_;(with_reducible refine (z1p.calls k _ _ t104 1 t108 t111 _ ?side1 ?side2 A2.out).mono ?_);(case side1=>repeat (first|exact (Kd.zI HO107.out).2.2|(with_reducible refine Kd.zS ?_ _)|(with_reducible refine Kd.zT ?_ _)|(with_reducible refine Kd.z16 ?_)));(case side2=>exact (Kd.zI HO107.out).2.1);rintro e w32 ⟨v109,rfl,ho0,hb⟩;refine ⟨_,rfl,?_⟩;have n0_:=z2.mk (Kd.zE (by (with_reducible repeat (first|apply Kd.zj|apply Kd.zk|apply Kd.zo));exact HO103.out) hb);have n1_:=z2.mk (Kd.zE (by (with_reducible repeat (first|apply Kd.zj|apply Kd.zk|apply Kd.zo));exact HO107.out) hb);have n2_:=z2.mk (Kd.z3V (Kd.z5i (ok':=fun k_=>some k_ ≠ (.slice Ao29 y101.length co29 : Value).ownBlock ∧ some k_ ≠ (.slice Ao31 t104.length co31 : Value).ownBlock) ho0 (fun k_ hk_=>⟨(Kd.fresh' (Kd.R_lt (by (with_reducible repeat (first|apply Kd.zj|apply Kd.zk|apply Kd.zo));exact HO103.out)) k_ hk_),(Kd.fresh' (Kd.R_lt (by (with_reducible repeat (first|apply Kd.zj|apply Kd.zk|apply Kd.zo));exact HO107.out)) k_ hk_)⟩)) (zc (by repeat (first|(with_reducible first|exact HB.out|apply z4|apply z1|apply z3)|exact HB.out))));have n3_:=z2.mk (za (by repeat (first|(with_reducible first|exact HB.out|apply z4|apply z1|apply z3)|exact HB.out)) hb);clear HO103;clear HO107;clear HB;have HO103:=n0_;have HO107:=n1_;have HO110:=n2_;have HB:=n3_;clear n0_ n1_ n2_ n3_;(try clear hb);(try clear hb2);(try clear hk);(try clear hi);(try clear ho0)))
   go_ret
   exact ⟨by first|rfl|(simp [zh,zi] <;> rfl)|(simp [*,zh,zi] <;> rfl),by repeat (first|(with_reducible first|exact HB.out|apply z4|apply z1|apply z3)|exact HB.out)⟩
 rw [if_pos c4] at H
 have c4b0 : (t111 == 0) = true:=beq_iff_eq.mpr c4
 have c4b1 : (t111 != 0) = false:=bne_eq_false_iff_eq.mpr c4
 clear c4
 by_cases c5 : (t104.length : Int) = 1
 rotate_left
 · rw [if_neg c5] at H
   have c5b0 : ((t104.length : Int) == 1) = false:=beq_eq_false_iff_ne.mpr c5
   have c5b1 : ((t104.length : Int) != 1) = true:=bne_iff_ne.mpr c5
   obtain rfl:=Option.some.inj H
   go_enter Try.func19,Try.ntmps19
   go_wp2_with (first|((with_reducible refine zO (N:=10) rfl ?_);(try (refine z2g (by rfl) ?_;dsimp only));refine Kd.z4R k30 _ 30 ?hg (N:=10) ?hd (xs:=([(⟨0,1⟩ : S30),(⟨0,2⟩ : S30),(⟨0,3⟩ : S30),(⟨0,0⟩ : S30)] : List (S30))) (inner:=[.int .u64 0,.int .u64 1,.int .u64 0,.int .u64 2,.int .u64 0,.int .u64 3,.int .u64 0,.int .u64 0]) (ok:=fun _=>True) (okp:=fun _=>True) ?hr ?hp (fun _ hk=>hk) trivial (Below.refl _ _) (Nat.le_refl _) (by simp) ?_;(case hd=>rfl);(case hg=>rfl);(case hr=>first|(go_simp;done)|(go_simp;rfl));(case hp=>exact (Reps.c2 (show Kd.M k30 _ _ _ (⟨0,1⟩ : S30) [.int .u64 0,.int .u64 1] from (z1E _ _ _ (⟨0,1⟩ : S30) )) (Reps.c2 (show Kd.M k30 _ _ _ (⟨0,2⟩ : S30) [.int .u64 0,.int .u64 2] from (z1E _ _ _ (⟨0,2⟩ : S30) )) (Reps.c2 (show Kd.M k30 _ _ _ (⟨0,3⟩ : S30) [.int .u64 0,.int .u64 3] from (z1E _ _ _ (⟨0,3⟩ : S30) )) (Reps.c2 (show Kd.M k30 _ _ _ (⟨0,0⟩ : S30) [.int .u64 0,.int .u64 0] from (z1E _ _ _ (⟨0,0⟩ : S30) )) (Reps.none _ _))))));intro v102 w21 ho22 hb hg_ hnew_;clear hg_ hnew_;(first|rw [← Ny101.out] at ho22|(simp only [Int.reduceToNat] at ho22;rw [← Ny101.out] at ho22));have n0_:=z2.mk (Kd.z1o ho22 (zc (by repeat (first|(with_reducible first|exact HB.out|apply z4|apply z1|apply z3)|exact HB.out))));have n1_:=z2.mk (za (by repeat (first|(with_reducible first|exact HB.out|apply z4|apply z1|apply z3)|exact HB.out)) hb);clear HB;have HO103:=n0_;have HB:=n1_;clear n0_ n1_;clear hb ho22;obtain ⟨Ao23,co23,eo23⟩:=Kd.z1s HO103.out;subst eo23)|((with_reducible refine zm (f:=72) rfl ?_);refine goesL_ (some 11) rfl rfl Try.func72 (by kernel_rfl) rfl #[.int .i64 1,.int .i64 3,.slice Ao23 y101.length co23] rfl (by (try simp only [List.map_toArray,List.map_cons,List.map_nil]);first|done|rfl|(simp only [List.length_drop,List.length_take];rfl)) ?_;(with_reducible refine (zC.calls k 1 3 _ _ y101 t104 t105 _ ?side1 ?side2 A1.out).mono ?_);(case side1=>repeat (first|exact (Kd.zI HO103.out).2.2|(with_reducible refine Kd.zS ?_ _)|(with_reducible refine Kd.zT ?_ _)|(with_reducible refine Kd.z16 ?_)));(case side2=>exact (Kd.zI HO103.out).2.1);rintro e w24 ⟨v106,rfl,ho0,hb⟩;refine ⟨_,rfl,?_⟩;have n0_:=z2.mk (Kd.z1C (by (with_reducible repeat (first|apply Kd.zj|apply Kd.zk|apply Kd.zo));exact HO103.out) (Kd.z1v ho0) hb);have n1_:=z2.mk (Kd.z1o (Kd.z21 ho0 (Kd.R_lt (by (with_reducible repeat (first|apply Kd.zj|apply Kd.zk|apply Kd.zo));exact HO103.out))) (zc (by repeat (first|(with_reducible first|exact HB.out|apply z4|apply z1|apply z3)|exact HB.out))));have n2_:=z2.mk (za (by repeat (first|(with_reducible first|exact HB.out|apply z4|apply z1|apply z3)|exact HB.out)) hb);clear HO103;clear HB;have HO103:=n0_;have HO107:=n1_;have HB:=n2_;clear n0_ n1_ n2_;(try clear hb);(try clear hb2);(try clear hk);(try clear hi);(try clear ho0);obtain ⟨Ao25,co25,eo25⟩:=Kd.z1s HO107.out;subst eo25)|((with_reducible refine zm (f:=73) rfl ?_);refine goesL_ (some 16) rfl rfl Try.func73 (by kernel_rfl) rfl #[.slice Ao25 t104.length co25,.int .i64 1] rfl (by (try simp only [List.map_toArray,List.map_cons,List.map_nil]);first|done|rfl|(simp only [List.length_drop,List.length_take];rfl)) ?_;(with_reducible refine (z1p.calls k _ _ t104 1 t108 t111 _ ?side1 ?side2 A2.out).mono ?_);(case side1=>repeat (first|exact (Kd.zI HO107.out).2.2|(with_reducible refine Kd.zS ?_ _)|(with_reducible refine Kd.zT ?_ _)|(with_reducible refine Kd.z16 ?_)));(case side2=>exact (Kd.zI HO107.out).2.1);rintro e w26 ⟨v109,rfl,ho0,hb⟩;refine ⟨_,rfl,?_⟩;have n0_:=z2.mk (Kd.zE (by (with_reducible repeat (first|apply Kd.zj|apply Kd.zk|apply Kd.zo));exact HO103.out) hb);have n1_:=z2.mk (Kd.zE (by (with_reducible repeat (first|apply Kd.zj|apply Kd.zk|apply Kd.zo));exact HO107.out) hb);have n2_:=z2.mk (Kd.z3V (Kd.z5i (ok':=fun k_=>some k_ ≠ (.slice Ao23 y101.length co23 : Value).ownBlock ∧ some k_ ≠ (.slice Ao25 t104.length co25 : Value).ownBlock) ho0 (fun k_ hk_=>⟨(Kd.fresh' (Kd.R_lt (by (with_reducible repeat (first|apply Kd.zj|apply Kd.zk|apply Kd.zo));exact HO103.out)) k_ hk_),(Kd.fresh' (Kd.R_lt (by (with_reducible repeat (first|apply Kd.zj|apply Kd.zk|apply Kd.zo));exact HO107.out)) k_ hk_)⟩)) (zc (by repeat (first|(with_reducible first|exact HB.out|apply z4|apply z1|apply z3)|exact HB.out))));have n3_:=z2.mk (za (by repeat (first|(with_reducible first|exact HB.out|apply z4|apply z1|apply z3)|exact HB.out)) hb);clear HO103;clear HO107;clear HB;have HO103:=n0_;have HO107:=n1_;have HO110:=n2_;have HB:=n3_;clear n0_ n1_ n2_ n3_;(try clear hb);(try clear hb2);(try clear hk);(try clear hi);(try clear ho0)))
   go_ret
   exact ⟨by first|rfl|(simp [zh,zi] <;> rfl)|(simp [*,zh,zi] <;> rfl),by repeat (first|(with_reducible first|exact HB.out|apply z4|apply z1|apply z3)|exact HB.out)⟩
 rw [if_pos c5] at H
 have c5b0 : ((t104.length : Int) == 1) = true:=beq_iff_eq.mpr c5
 have c5b1 : ((t104.length : Int) != 1) = false:=bne_eq_false_iff_eq.mpr c5
 clear c5
 by_cases c6 : 0 < (t104.length : Int)
 rotate_left
 · rw [if_neg c6] at H
   exact absurd H (by simp)
 rw [if_pos c6] at H
 have c6b0 : decide (0 < (t104.length : Int)) = true:=decide_eq_true c6
 have c6b1 : decide (0 < t104.length) = true:=decide_eq_true (by omega)
 clear c6
 by_cases c7 : (((zq t104 0).f0) == 0 && (((zq t104 0).f1) == 57)) = true
 · rw [if_pos c7] at H
   have c7b0 : (((zq t104 0).f0) == 0 && (((zq t104 0).f1) == 57)) = true:=c7
   (try (have c7b1 : decide (((zq t104 0).f0) = 0 && (((zq t104 0).f1) == 57)) = true:=by simpa using c7))
   (try (have c7b2 : (((zq t104 0).f0) == 0 && (((zq t104 0).f1) == 57)) = true:=by simpa using c7))
   clear c7
   obtain rfl:=Option.some.inj H
   go_enter Try.func19,Try.ntmps19
   go_wp2_with (first|((with_reducible refine zO (N:=10) rfl ?_);(try (refine z2g (by rfl) ?_;dsimp only));refine Kd.z4R k30 _ 30 ?hg (N:=10) ?hd (xs:=([(⟨0,1⟩ : S30),(⟨0,2⟩ : S30),(⟨0,3⟩ : S30),(⟨0,0⟩ : S30)] : List (S30))) (inner:=[.int .u64 0,.int .u64 1,.int .u64 0,.int .u64 2,.int .u64 0,.int .u64 3,.int .u64 0,.int .u64 0]) (ok:=fun _=>True) (okp:=fun _=>True) ?hr ?hp (fun _ hk=>hk) trivial (Below.refl _ _) (Nat.le_refl _) (by simp) ?_;(case hd=>rfl);(case hg=>rfl);(case hr=>first|(go_simp;done)|(go_simp;rfl));(case hp=>exact (Reps.c2 (show Kd.M k30 _ _ _ (⟨0,1⟩ : S30) [.int .u64 0,.int .u64 1] from (z1E _ _ _ (⟨0,1⟩ : S30) )) (Reps.c2 (show Kd.M k30 _ _ _ (⟨0,2⟩ : S30) [.int .u64 0,.int .u64 2] from (z1E _ _ _ (⟨0,2⟩ : S30) )) (Reps.c2 (show Kd.M k30 _ _ _ (⟨0,3⟩ : S30) [.int .u64 0,.int .u64 3] from (z1E _ _ _ (⟨0,3⟩ : S30) )) (Reps.c2 (show Kd.M k30 _ _ _ (⟨0,0⟩ : S30) [.int .u64 0,.int .u64 0] from (z1E _ _ _ (⟨0,0⟩ : S30) )) (Reps.none _ _))))));intro v102 w8 ho9 hb hg_ hnew_;clear hg_ hnew_;(first|rw [← Ny101.out] at ho9|(simp only [Int.reduceToNat] at ho9;rw [← Ny101.out] at ho9));have n0_:=z2.mk (Kd.z1o ho9 (zc (by repeat (first|(with_reducible first|exact HB.out|apply z4|apply z1|apply z3)|exact HB.out))));have n1_:=z2.mk (za (by repeat (first|(with_reducible first|exact HB.out|apply z4|apply z1|apply z3)|exact HB.out)) hb);clear HB;have HO103:=n0_;have HB:=n1_;clear n0_ n1_;clear hb ho9;obtain ⟨Ao10,co10,eo10⟩:=Kd.z1s HO103.out;subst eo10)|((with_reducible refine zm (f:=72) rfl ?_);refine goesL_ (some 11) rfl rfl Try.func72 (by kernel_rfl) rfl #[.int .i64 1,.int .i64 3,.slice Ao10 y101.length co10] rfl (by (try simp only [List.map_toArray,List.map_cons,List.map_nil]);first|done|rfl|(simp only [List.length_drop,List.length_take];rfl)) ?_;(with_reducible refine (zC.calls k 1 3 _ _ y101 t104 t105 _ ?side1 ?side2 A1.out).mono ?_);(case side1=>repeat (first|exact (Kd.zI HO103.out).2.2|(with_reducible refine Kd.zS ?_ _)|(with_reducible refine Kd.zT ?_ _)|(with_reducible refine Kd.z16 ?_)));(case side2=>exact (Kd.zI HO103.out).2.1);rintro e w11 ⟨v106,rfl,ho0,hb⟩;refine ⟨_,rfl,?_⟩;have n0_:=z2.mk (Kd.z1C (by (with_reducible repeat (first|apply Kd.zj|apply Kd.zk|apply Kd.zo));exact HO103.out) (Kd.z1v ho0) hb);have n1_:=z2.mk (Kd.z1o (Kd.z21 ho0 (Kd.R_lt (by (with_reducible repeat (first|apply Kd.zj|apply Kd.zk|apply Kd.zo));exact HO103.out))) (zc (by repeat (first|(with_reducible first|exact HB.out|apply z4|apply z1|apply z3)|exact HB.out))));have n2_:=z2.mk (za (by repeat (first|(with_reducible first|exact HB.out|apply z4|apply z1|apply z3)|exact HB.out)) hb);clear HO103;clear HB;have HO103:=n0_;have HO107:=n1_;have HB:=n2_;clear n0_ n1_ n2_;(try clear hb);(try clear hb2);(try clear hk);(try clear hi);(try clear ho0);obtain ⟨Ao12,co12,eo12⟩:=Kd.z1s HO107.out;subst eo12)|((with_reducible refine zm (f:=73) rfl ?_);refine goesL_ (some 16) rfl rfl Try.func73 (by kernel_rfl) rfl #[.slice Ao12 t104.length co12,.int .i64 1] rfl (by (try simp only [List.map_toArray,List.map_cons,List.map_nil]);first|done|rfl|(simp only [List.length_drop,List.length_take];rfl)) ?_;(with_reducible refine (z1p.calls k _ _ t104 1 t108 t111 _ ?side1 ?side2 A2.out).mono ?_);(case side1=>repeat (first|exact (Kd.zI HO107.out).2.2|(with_reducible refine Kd.zS ?_ _)|(with_reducible refine Kd.zT ?_ _)|(with_reducible refine Kd.z16 ?_)));(case side2=>exact (Kd.zI HO107.out).2.1);rintro e w13 ⟨v109,rfl,ho0,hb⟩;refine ⟨_,rfl,?_⟩;have n0_:=z2.mk (Kd.zE (by (with_reducible repeat (first|apply Kd.zj|apply Kd.zk|apply Kd.zo));exact HO103.out) hb);have n1_:=z2.mk (Kd.zE (by (with_reducible repeat (first|apply Kd.zj|apply Kd.zk|apply Kd.zo));exact HO107.out) hb);have n2_:=z2.mk (Kd.z3V (Kd.z5i (ok':=fun k_=>some k_ ≠ (.slice Ao10 y101.length co10 : Value).ownBlock ∧ some k_ ≠ (.slice Ao12 t104.length co12 : Value).ownBlock) ho0 (fun k_ hk_=>⟨(Kd.fresh' (Kd.R_lt (by (with_reducible repeat (first|apply Kd.zj|apply Kd.zk|apply Kd.zo));exact HO103.out)) k_ hk_),(Kd.fresh' (Kd.R_lt (by (with_reducible repeat (first|apply Kd.zj|apply Kd.zk|apply Kd.zo));exact HO107.out)) k_ hk_)⟩)) (zc (by repeat (first|(with_reducible first|exact HB.out|apply z4|apply z1|apply z3)|exact HB.out))));have n3_:=z2.mk (za (by repeat (first|(with_reducible first|exact HB.out|apply z4|apply z1|apply z3)|exact HB.out)) hb);clear HO103;clear HO107;clear HB;have HO103:=n0_;have HO107:=n1_;have HO110:=n2_;have HB:=n3_;clear n0_ n1_ n2_ n3_;(try clear hb);(try clear hb2);(try clear hk);(try clear hi);(try clear ho0);have p112 : 0 ≤ (0 : Int):=(by omega);have q112 : 0 < (t104.length : Int):=of_decide_eq_true (by first|(with_reducible assumption)|assumption);obtain ⟨ad112,e112,hx112_0,hx112_1⟩:=z2o (Kd.zI HO107.out).2.2 0 p112 q112;cases e112;have qi112 : (0 < t104.length) = True:=eq_true (by omega);(try rw [show ((0 : Int)).toNat = 0 from rfl] at hx112_0);(try rw [show 0 * 2 = 0 from rfl] at hx112_0);(try rw [Addr.add_zero'] at hx112_0);(try rw [show ((0 : Int)).toNat = 0 from rfl] at hx112_1);(try rw [show 0 * 2 = 0 from rfl] at hx112_1);(try rw [Addr.add_zero'] at hx112_1);replace p112:=eq_true p112;replace q112:=eq_true q112;obtain ⟨Ao14,co14,eo14⟩:=Kd.N_slice HO110.out;subst eo14))
   go_ret
   exact ⟨by first|rfl|(simp [zh,zi] <;> rfl)|(simp [*,zh,zi] <;> rfl),by repeat (first|(with_reducible first|exact HB.out|apply z4|apply z1|apply z3)|exact HB.out)⟩
 rw [if_neg c7] at H
 have c7b0 : (((zq t104 0).f0) == 0 && (((zq t104 0).f1) == 57)) = false:=by simpa using c7
 (try (have c7b1 : decide (((zq t104 0).f0) = 0 && (((zq t104 0).f1) == 57)) = false:=by simpa using c7))
 (try (have c7b2 : (((zq t104 0).f0) == 0 && (((zq t104 0).f1) == 57)) = false:=by simpa using c7))
 (try (have c7b3 : ¬ (((zq t104 0).f0) = 0 && (((zq t104 0).f1) == 57)):=by simpa using c7))
 clear c7
 obtain rfl:=Option.some.inj H
 go_enter Try.func19,Try.ntmps19
 go_wp2_with (first|((with_reducible refine zO (N:=10) rfl ?_);(try (refine z2g (by rfl) ?_;dsimp only));refine Kd.z4R k30 _ 30 ?hg (N:=10) ?hd (xs:=([(⟨0,1⟩ : S30),(⟨0,2⟩ : S30),(⟨0,3⟩ : S30),(⟨0,0⟩ : S30)] : List (S30))) (inner:=[.int .u64 0,.int .u64 1,.int .u64 0,.int .u64 2,.int .u64 0,.int .u64 3,.int .u64 0,.int .u64 0]) (ok:=fun _=>True) (okp:=fun _=>True) ?hr ?hp (fun _ hk=>hk) trivial (Below.refl _ _) (Nat.le_refl _) (by simp) ?_;(case hd=>rfl);(case hg=>rfl);(case hr=>first|(go_simp;done)|(go_simp;rfl));(case hp=>exact (Reps.c2 (show Kd.M k30 _ _ _ (⟨0,1⟩ : S30) [.int .u64 0,.int .u64 1] from (z1E _ _ _ (⟨0,1⟩ : S30) )) (Reps.c2 (show Kd.M k30 _ _ _ (⟨0,2⟩ : S30) [.int .u64 0,.int .u64 2] from (z1E _ _ _ (⟨0,2⟩ : S30) )) (Reps.c2 (show Kd.M k30 _ _ _ (⟨0,3⟩ : S30) [.int .u64 0,.int .u64 3] from (z1E _ _ _ (⟨0,3⟩ : S30) )) (Reps.c2 (show Kd.M k30 _ _ _ (⟨0,0⟩ : S30) [.int .u64 0,.int .u64 0] from (z1E _ _ _ (⟨0,0⟩ : S30) )) (Reps.none _ _))))));intro v102 w15 ho16 hb hg_ hnew_;clear hg_ hnew_;(first|rw [← Ny101.out] at ho16|(simp only [Int.reduceToNat] at ho16;rw [← Ny101.out] at ho16));have n0_:=z2.mk (Kd.z1o ho16 (zc (by repeat (first|(with_reducible first|exact HB.out|apply z4|apply z1|apply z3)|exact HB.out))));have n1_:=z2.mk (za (by repeat (first|(with_reducible first|exact HB.out|apply z4|apply z1|apply z3)|exact HB.out)) hb);clear HB;have HO103:=n0_;have HB:=n1_;clear n0_ n1_;clear hb ho16;obtain ⟨Ao17,co17,eo17⟩:=Kd.z1s HO103.out;subst eo17)|((with_reducible refine zm (f:=72) rfl ?_);refine goesL_ (some 11) rfl rfl Try.func72 (by kernel_rfl) rfl #[.int .i64 1,.int .i64 3,.slice Ao17 y101.length co17] rfl (by (try simp only [List.map_toArray,List.map_cons,List.map_nil]);first|done|rfl|(simp only [List.length_drop,List.length_take];rfl)) ?_;(with_reducible refine (zC.calls k 1 3 _ _ y101 t104 t105 _ ?side1 ?side2 A1.out).mono ?_);(case side1=>repeat (first|exact (Kd.zI HO103.out).2.2|(with_reducible refine Kd.zS ?_ _)|(with_reducible refine Kd.zT ?_ _)|(with_reducible refine Kd.z16 ?_)));(case side2=>exact (Kd.zI HO103.out).2.1);rintro e w18 ⟨v106,rfl,ho0,hb⟩;refine ⟨_,rfl,?_⟩;have n0_:=z2.mk (Kd.z1C (by (with_reducible repeat (first|apply Kd.zj|apply Kd.zk|apply Kd.zo));exact HO103.out) (Kd.z1v ho0) hb);have n1_:=z2.mk (Kd.z1o (Kd.z21 ho0 (Kd.R_lt (by (with_reducible repeat (first|apply Kd.zj|apply Kd.zk|apply Kd.zo));exact HO103.out))) (zc (by repeat (first|(with_reducible first|exact HB.out|apply z4|apply z1|apply z3)|exact HB.out))));have n2_:=z2.mk (za (by repeat (first|(with_reducible first|exact HB.out|apply z4|apply z1|apply z3)|exact HB.out)) hb);clear HO103;clear HB;have HO103:=n0_;have HO107:=n1_;have HB:=n2_;clear n0_ n1_ n2_;(try clear hb);(try clear hb2);(try clear hk);(try clear hi);(try clear ho0);obtain ⟨Ao19,co19,eo19⟩:=Kd.z1s HO107.out;subst eo19)|((with_reducible refine zm (f:=73) rfl ?_);refine goesL_ (some 16) rfl rfl Try.func73 (by kernel_rfl) rfl #[.slice Ao19 t104.length co19,.int .i64 1] rfl (by (try simp only [List.map_toArray,List.map_cons,List.map_nil]);first|done|rfl|(simp only [List.length_drop,List.length_take];rfl)) ?_;(with_reducible refine (z1p.calls k _ _ t104 1 t108 t111 _ ?side1 ?side2 A2.out).mono ?_);(case side1=>repeat (first|exact (Kd.zI HO107.out).2.2|(with_reducible refine Kd.zS ?_ _)|(with_reducible refine Kd.zT ?_ _)|(with_reducible refine Kd.z16 ?_)));(case side2=>exact (Kd.zI HO107.out).2.1);rintro e w20 ⟨v109,rfl,ho0,hb⟩;refine ⟨_,rfl,?_⟩;have n0_:=z2.mk (Kd.zE (by (with_reducible repeat (first|apply Kd.zj|apply Kd.zk|apply Kd.zo));exact HO103.out) hb);have n1_:=z2.mk (Kd.zE (by (with_reducible repeat (first|apply Kd.zj|apply Kd.zk|apply Kd.zo));exact HO107.out) hb);have n2_:=z2.mk (Kd.z3V (Kd.z5i (ok':=fun k_=>some k_ ≠ (.slice Ao17 y101.length co17 : Value).ownBlock ∧ some k_ ≠ (.slice Ao19 t104.length co19 : Value).ownBlock) ho0 (fun k_ hk_=>⟨(Kd.fresh' (Kd.R_lt (by (with_reducible repeat (first|apply Kd.zj|apply Kd.zk|apply Kd.zo));exact HO103.out)) k_ hk_),(Kd.fresh' (Kd.R_lt (by (with_reducible repeat (first|apply Kd.zj|apply Kd.zk|apply Kd.zo));exact HO107.out)) k_ hk_)⟩)) (zc (by repeat (first|(with_reducible first|exact HB.out|apply z4|apply z1|apply z3)|exact HB.out))));have n3_:=z2.mk (za (by repeat (first|(with_reducible first|exact HB.out|apply z4|apply z1|apply z3)|exact HB.out)) hb);clear HO103;clear HO107;clear HB;have HO103:=n0_;have HO107:=n1_;have HO110:=n2_;have HB:=n3_;clear n0_ n1_ n2_ n3_;(try clear hb);(try clear hb2);(try clear hk);(try clear hi);(try clear ho0);have p112 : 0 ≤ (0 : Int):=(by omega);have q112 : 0 < (t104.length : Int):=of_decide_eq_true (by first|(with_reducible assumption)|assumption);obtain ⟨ad112,e112,hx112_0,hx112_1⟩:=z2o (Kd.zI HO107.out).2.2 0 p112 q112;cases e112;have qi112 : (0 < t104.length) = True:=eq_true (by omega);(try rw [show ((0 : Int)).toNat = 0 from rfl] at hx112_0);(try rw [show 0 * 2 = 0 from rfl] at hx112_0);(try rw [Addr.add_zero'] at hx112_0);(try rw [show ((0 : Int)).toNat = 0 from rfl] at hx112_1);(try rw [show 0 * 2 = 0 from rfl] at hx112_1);(try rw [Addr.add_zero'] at hx112_1);replace p112:=eq_true p112;replace q112:=eq_true q112))
 go_ret
 exact ⟨by first|rfl|(simp [zh,zi] <;> rfl)|(simp [*,zh,zi] <;> rfl),by repeat (first|(with_reducible first|exact HB.out|apply z4|apply z1|apply z3)|exact HB.out)⟩
end Go.Proofs.Ytkhmpaooinpfoaa.P
namespace Go.Proofs.Ytkhmpaooinpfoaa.P
open Go.RowKit Go.Proofs.YtkhmpaooinpfoaaW.PrintWords Go.Proofs.YtkhmpaooinpfoaaW.PrintLast Go.Proofs.YtkhmpaooinpfoaaW.PrintMore
attribute [local go_sem] z17 z19 z1j z1k zZ z10 z18 z1a   -- for this text's walks alone
set_option linter.unusedVariables false
set_option linter.unusedSimpArgs false
def z1c.q (l0 : List (List S30)) (x : List S30) : Bool:=(x.length : Int) == ((z1g l0 0).length : Int)
def z1c.f (l0 : List (List S30)) : Option Bool:=some (l0.all (z1c.q l0))
set_option maxHeartbeats 800000 in
set_option maxRecDepth 100000 in
theorem z1c.clo (A0 : Option Addr) (c0 : Nat) (l0 : List (List S30)) (A : Option Addr) (c : Nat) (x : List S30) (g : Nat) (w : World) (hg : w.heap[g]? = some (.cells #[.slice A0 l0.length c0] 44 (0,0))) (hr0 : Kd.C (Kd.slice 30 k30) w A0 l0.length l0) (h0 : 0 < l0.length) :
 Calls Try.prog 115 #[.slice A x.length c,.pointer (some ⟨g,0,none⟩)] w fun e w'=>e = .returned (.bool (!(z1c.q l0 x))) ∧ Below w.heap.size w w':=by
 have HB:=z2.mk (Below.refl w.heap.size w)
 obtain ⟨ad,B0,d0,e205,hx0,hl0,g0⟩:=z3s hr0 0 (by omega) (by omega)
 cases e205
 (try rw [show ((0 : Int)).toNat = 0 from rfl] at hx0)
 (try rw [Addr.add_zero'] at hx0)
 have hc0 : w.cell? ⟨g,0,none⟩ = some (.slice (some ad) l0.length c0):=(z9 hg 0).trans rfl
 have p3 : ((0 : Int) < (l0.length : Int)) = True:=eq_true (by omega)
 have p4 : (0 < l0.length) = True:=eq_true h0
 clear hr0 hl0 g0 hg
 go_enter Try.func115,Try.ntmps115
 go_wp2
 go_ret
 exact ⟨rfl,by first|exact HB.out|exact (Drawn0.refl _).below|(apply Below.refl)⟩
theorem z1c.drop (l0 l : List (List S30)) (i : Nat) (h : i < l.length) : (l.drop i).all (z1c.q l0) = (z1c.q l0 (z1g l (i : Int)) && (l.drop (i + 1)).all (z1c.q l0)):=by
 rw [List.drop_eq_getElem_cons h]
 have e : z1g l (i : Int) = l[i]:=by unfold z1g;rw [Int.toNat_natCast,List.getD_eq_getElem?_getD,List.getElem?_eq_getElem h];rfl
 rw [e];rfl
set_option maxHeartbeats 800000 in
set_option maxRecDepth 100000 in
theorem z1c.idx (A0 : Option Addr) (c0 : Nat) (l0 : List (List S30)) (g : Nat) (w : World) (hr : Kd.C (Kd.slice 30 k30) w A0 l0.length l0) (hg : w.heap[g]? = some (.cells #[.slice A0 l0.length c0] 44 (0,0))) :
 Calls Try.prog 138 #[.slice A0 l0.length c0,.func (.func 115) #[] #[.pointer (some ⟨g,0,none⟩)]] w fun e w'=>(∃ i : Int,e = .returned (.int .i64 i) ∧ decide (i ≥ 0) = !(l0.all (z1c.q l0))) ∧ Below w.heap.size w w':=by
 have HB:=z2.mk (Below.refl w.heap.size w)
 have HG:=z2.mk hg
 have HR:=z2.mk hr
 have HM:=z2.mk (Kd.z6H hr)
 clear hg hr
 go_enter Try.func138,Try.ntmps138
 go_wp2
 go_loopg [8] l0.length (fun kq v8 w'=>∃ (i : Nat),v8 = .int .i64 i ∧ z2 (i + kq = l0.length) ∧ z2 ((l0.drop i).all (z1c.q l0) = l0.all (z1c.q l0)) ∧ z2 (w'.heap[g]? = some (.cells #[.slice A0 l0.length c0] 44 (0,0))) ∧ z2 (Below w.heap.size w w'))
 case atStart=>exact ⟨0,rfl,⟨by omega⟩,⟨rfl⟩,HG,HB⟩
 case round =>
  obtain ⟨i,rfl,HK,HAi,HGi,HBi⟩:=hrel
  clear HG HB
  by_cases hlt : i < l0.length
  rotate_left
  · have p0 : decide (i < l0.length) = false:=decide_eq_false hlt
    have p1 : decide ((i : Int) < (l0.length : Int)) = false:=decide_eq_false (by omega)
    have hr : l0.all (z1c.q l0) = true:=by
     have h1:=HAi.out
     rw [List.drop_eq_nil_of_le (by omega)] at h1
     exact h1.symm
    clear hlt HAi
    have HD:=z2.mk hr
    clear hr
    go_wp2
    go_ret
    exact ⟨⟨-1,rfl,by rw [HD.out];decide⟩,HBi.out⟩
  have hd:=z1c.drop l0 l0 i hlt
  rw [HAi.out] at hd
  have HC:=z2.mk (Kd.z1h HR.out HBi.out)
  obtain ⟨ad,B0,d0,e205,hx0,hl0,g0⟩:=z3s HC.out (i : Int) (by omega) (by omega)
  cases e205
  rw [Int.toNat_natCast] at hx0
  have p0 : decide (i < l0.length) = true:=decide_eq_true hlt
  have p1 : decide ((i : Int) < (l0.length : Int)) = true:=decide_eq_true (by omega)
  have p2 : (0 ≤ (i : Int)) = True:=eq_true (by omega)
  have p3 : ((i : Int) < (l0.length : Int)) = True:=eq_true (by omega)
  clear hl0 g0 hlt
  go_wp2_with fail
  refine (z1c.clo _ c0 l0 _ _ (z1g l0 (i : Int)) g _ HGi.out HC.out (by have h9:=of_decide_eq_true p0;omega)).mono ?_
  rintro e w1 ⟨rfl,hb1⟩
  have n0_:=z2.mk (za HBi.out hb1)
  have n1_:=z2.mk (ze (g:=g) (o:=(.cells #[.slice (some ad) l0.length c0] 44 (0,0))) HGi.out hb1)
  clear HBi HGi hb1 hx0
  cases hq : z1c.q l0 (z1g l0 (i : Int)) with
  | true =>
   rw [hq,Bool.true_and] at hd
   have HE:=z2.mk hd.symm
   clear hd HAi
   simp only [Bool.not_true]
   go_wp2
   have hi : wrap64 ((i : Int) + 1) = ((i + 1 : Nat) : Int):=by
    have:=HM.out;have:=HK.out;have h9:=of_decide_eq_true p0;unfold wrap64;omega
   go_roundg (l0.length - i - 1)
   case measure=>have:=HK.out;have h9:=of_decide_eq_true p0;omega
   case rel=>exact ⟨i + 1,congrArg (Value.int .i64) hi,⟨by have:=HK.out;have h9:=of_decide_eq_true p0;omega⟩,HE,n1_,n0_⟩
  | false =>
   rw [hq,Bool.false_and] at hd
   have HD:=z2.mk hd
   clear hd HAi
   simp only [Bool.not_false]
   go_wp2
   go_ret
   exact ⟨⟨(i : Int),rfl,by rw [HD.out];simp⟩,n0_.out⟩
set_option maxHeartbeats 800000 in
set_option maxRecDepth 100000 in
theorem z1c.cont (A0 : Option Addr) (c0 : Nat) (l0 : List (List S30)) (g : Nat) (w : World) (hr : Kd.C (Kd.slice 30 k30) w A0 l0.length l0) (hg : w.heap[g]? = some (.cells #[.slice A0 l0.length c0] 44 (0,0))) :
 Calls Try.prog 114 #[.slice A0 l0.length c0,.func (.func 115) #[] #[.pointer (some ⟨g,0,none⟩)]] w fun e w'=>e = .returned (.bool (!(l0.all (z1c.q l0)))) ∧ Below w.heap.size w w':=by
 have HB:=z2.mk (Below.refl w.heap.size w)
 have HG:=z2.mk hg
 have HR:=z2.mk hr
 clear hg hr
 go_enter Try.func114,Try.ntmps114
 go_wp2_with fail
 refine (z1c.idx A0 c0 l0 g _ HR.out HG.out).mono ?_
 rintro e w1 ⟨⟨i,rfl,hi⟩,hb1⟩
 have hb:=z2.mk hb1
 have hj:=z2.mk hi
 clear hb1 hi
 go_wp2
 go_ret
 exact ⟨by rw [← hj.out];rfl,hb.out⟩
set_option maxHeartbeats 800000 in
set_option maxRecDepth 100000 in
theorem z1c.calls (A0 : Option Addr) (c0 : Nat) (l0 : List (List S30)) (r : Bool) (w : World) (hr0 : Kd.C (Kd.slice 30 k30) w A0 l0.length l0) (hc0 : l0.length ≤ c0) (h : z1c.f l0 = some r) :
 Calls Try.prog 74 #[.slice A0 l0.length c0] w fun e w'=>e = .returned (.bool r) ∧ Below w.heap.size w w':=by
 have hmf : ∀ (fn : Fn) (first cap : Array Value) (w : World),(Instr.makeFunc fn first cap).run Try.prog w = .ok (.func fn first cap) w:=fun _ _ _ _=>rfl
 have HB:=z2.mk (Below.refl w.heap.size w)
 have HR:=z2.mk hr0
 obtain rfl:=Option.some.inj h
 clear h hr0
 go_enter Try.func74,Try.ntmps74
 go_wp2_with (first
  | ((with_reducible refine zO (N:=1) rfl ?_);refine zM ?hg (N:=1) ?hd (cs:=#[.slice A0 l0.length c0]) (t:=44) ?hr ?_;(case hd=>rfl);(case hg=>rfl);(case hr=>first|(go_simp;done)|(go_simp;rfl));intro gb hgb w1_ hbox hb;have n0_:=z2.mk (za HB.out hb);have n1_:=z2.mk hbox;have n2_:=z2.mk (Kd.z1h HR.out hb);have hc1 : w1_.cell? ⟨gb,0,none⟩ = some (.slice A0 l0.length c0):=(z9 hbox 0).trans rfl;clear HB HR hbox hb hgb;have HB:=n0_;have HG:=n1_;have HR:=n2_;clear n0_ n1_ n2_)
  | ((with_reducible refine zm (f:=114) rfl ?_);refine goesL_ (some 5) rfl rfl Try.func114 (by kernel_rfl) rfl #[.slice A0 l0.length c0,.func (.func 115) #[] #[.pointer (some ⟨gb,0,none⟩)]] rfl (by (try simp only [List.map_toArray,List.map_cons,List.map_nil]);first|done|rfl) ?_;(with_reducible refine (z1c.cont A0 c0 l0 gb _ HR.out HG.out).mono ?_);rintro e w2_ ⟨rfl,hb2⟩;refine ⟨_,rfl,?_⟩;have n0_:=z2.mk (za HB.out hb2);clear HB hb2;have HB:=n0_;clear n0_))
 go_ret
 exact ⟨by simp,HB.out⟩
end Go.Proofs.Ytkhmpaooinpfoaa.P

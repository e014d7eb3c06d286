/- WeaveGathers: small elements gathered into great ones and scattered are what the document says, there and back; for all levels, up to 140 elements. Own text. -/
import Derived.Test.YtngcaphdkgihmaaRows
import Derived.WalkKit
import Derived.ProofKit
import Derived.OpenShut
import Derived.ShutString
import Derived.ChangeOld
import Derived.Below
import Derived.SizedLaws
import Derived.Carry
import Derived.Test.YtngcaphdkgihmaaMWeaveGathersb
import Derived.Test.YtngcaphdkgihmaaMWeaveGathersc
import Derived.Test.YtngcaphdkgihmaaMWeaveGathersd
namespace Go.Proofs.Ytngcaphdkgihmaa.P
open Go.RowKit Go.Proofs.YtngcaphdkgihmaaW.PrintWords Go.Proofs.YtngcaphdkgihmaaW.PrintLast Go.Proofs.YtngcaphdkgihmaaW.PrintMore
attribute [local go_sem] zW zY z15 z16 zQ zR zX zZ   -- for this text's walks alone
set_option linter.unusedVariables false
set_option linter.unusedSimpArgs false
def zp.f : Nat → Int → Int → Option (Int)
 | 0,_,_=>none
 | k + 1,a0,a1=>if a0 < 0 then (some a1) else (if 0 ≤ (IntKind.u64.wrap (a0)) then ((zP.f a0).bind fun t101=>((zP.f a0).bind fun t102=>((zp.f k (wrap64 (a0 - 1)) (Go.bits .and .u64 (shr .u64 a1 (shl .u64 1 (IntKind.u64.wrap (a0)))) t101)).bind fun t103=>(some (Go.bits .or .u64 (shl .u64 (Go.bits .xor .u64 (Go.bits .and .u64 a1 t102) t103) (shl .u64 1 (IntKind.u64.wrap (a0)))) (Go.bits .and .u64 (shr .u64 a1 (shl .u64 1 (IntKind.u64.wrap (a0)))) t101)))))) else (none))
theorem zp.z13 : ∀ k,(∀ y0 y1,LeO (zp.f k y0 y1) (zp.f (k + 1) y0 y1))
 | 0=>fun _ _ r h=>by simp [zp.f] at h
 | k + 1=>by
  have ih0:=zp.z13 k
  · intro y0 y1
    unfold zp.f
    repeat' first
    | (with_reducible exact ih0 _ _)
    | (with_reducible exact LeO.refl _)
    | (with_reducible exact LeO.none _)
    | (with_reducible refine LeO.ite ?_ ?_)
    | (with_reducible refine LeO.bind ?_ (fun _=>?_))
    | exact ih0 _ _
    | exact LeO.none _
    | refine LeO.ite ?_ ?_
    | refine LeO.bind ?_ (fun _=>?_)
theorem zp.mono : ∀ a0 a1 k,LeO (zp.f k a0 a1) (zp.f (k + 1) a0 a1):=by
 intro a0 a1 k
 have ih0:=zp.z13 k
 exact ih0 a0 a1
set_option maxHeartbeats 8000000 in
set_option maxRecDepth 100000 in
theorem zp.calls (k : Nat) : ∀ (a0 : Int) (a1 : Int) (r : Int) (w : World) (h : zp.f k a0 a1 = some r),
 Calls Try.prog 103 #[.int .i64 a0,.int .u64 a1] w fun e w'=>e = .returned (.int .u64 r) ∧ Below w.heap.size w w':=by
 induction k using Nat.strongRecOn with
 | _ k ih =>
 intro a0 a1 r w h
 cases k with
 | zero=>exact absurd h (by simp [zp.f])
 | succ k =>
 simp only [zp.f] at h
 have HB:=z3.mk (Below.refl w.heap.size w)
 have H : (if a0 < 0 then (some a1) else (if 0 ≤ (IntKind.u64.wrap (a0)) then ((zP.f a0).bind fun t101=>((zP.f a0).bind fun t102=>((zp.f k (wrap64 (a0 - 1)) (Go.bits .and .u64 (shr .u64 a1 (shl .u64 1 (IntKind.u64.wrap (a0)))) t101)).bind fun t103=>(some (Go.bits .or .u64 (shl .u64 (Go.bits .xor .u64 (Go.bits .and .u64 a1 t102) t103) (shl .u64 1 (IntKind.u64.wrap (a0)))) (Go.bits .and .u64 (shr .u64 a1 (shl .u64 1 (IntKind.u64.wrap (a0)))) t101)))))) else (none))) = some r:=h
 clear h
 by_cases c3 : a0 < 0
 · rw [if_pos c3] at H
   have c3b0 : decide (a0 < 0) = true:=decide_eq_true c3
   clear c3
   obtain rfl:=Option.some.inj H
   go_enter Try.func103,Try.ntmps103
   go_wp2
   go_ret
   exact ⟨by first|rfl|(simp [zg,zh] <;> rfl)|(simp [*,zg,zh] <;> rfl),by repeat (first|(with_reducible first|exact HB.out|apply z2|apply z0|apply z1)|exact HB.out)⟩
 rw [if_neg c3] at H
 have c3b0 : decide (a0 < 0) = false:=decide_eq_false c3
 clear c3
 obtain ⟨ji4,hji4⟩ : ∃ j_ : Int,(IntKind.u64.wrap (a0)) = j_:=⟨_,rfl⟩
 replace H : (if 0 ≤ (ji4) then ((zP.f a0).bind fun t101=>((zP.f a0).bind fun t102=>((zp.f k (wrap64 (a0 - 1)) (Go.bits .and .u64 (shr .u64 a1 (shl .u64 1 (ji4))) t101)).bind fun t103=>(some (Go.bits .or .u64 (shl .u64 (Go.bits .xor .u64 (Go.bits .and .u64 a1 t102) t103) (shl .u64 1 (ji4))) (Go.bits .and .u64 (shr .u64 a1 (shl .u64 1 (ji4))) t101)))))) else (none)) = some r:=by first|(rw [hji4] at H;exact H)|(simp only [hji4] at H ⊢;exact H)
 by_cases c5 : 0 ≤ (ji4)
 rotate_left
 · rw [if_neg c5] at H
   exact absurd H (by simp)
 rw [if_pos c5] at H
 have c5b0:=eq_true c5
 have c5b1 : decide (0 ≤ (ji4)) = true:=decide_eq_true c5
 clear c5
 obtain ⟨ji6,hji6⟩ : ∃ j_ : Int,(shl .u64 1 (ji4)) = j_:=⟨_,rfl⟩
 replace H : ((zP.f a0).bind fun t101=>((zP.f a0).bind fun t102=>((zp.f k (wrap64 (a0 - 1)) (Go.bits .and .u64 (shr .u64 a1 (ji6)) t101)).bind fun t103=>(some (Go.bits .or .u64 (shl .u64 (Go.bits .xor .u64 (Go.bits .and .u64 a1 t102) t103) (ji6)) (Go.bits .and .u64 (shr .u64 a1 (ji6)) t101)))))) = some r:=by first|(rw [hji6] at H;exact H)|(simp only [hji6] at H ⊢;exact H)
 have hji6_ : (IntKind.u64.wrap (1 * 2 ^ min (ji4).toNat 64)) = ji6:=hji6
 have hji6z : (ji4) ≤ 64 → (IntKind.u64.wrap (1 * 2 ^ (ji4).toNat)) = ji6:=z1a hji6
 have hji6n0 : 0 ≤ ji6:=by rw [← hji6];exact Int.emod_nonneg _ (by decide)
 have hji6n1 : decide (0 ≤ ji6) = true:=decide_eq_true hji6n0
 replace hji6n0:=eq_true hji6n0
 have hji6u : (IntKind.u64.wrap (2 ^ min (ji4).toNat 64)) = ji6:=by have h_:=hji6_;rw [Int.one_mul] at h_;exact h_
 have hji6v : (ji4) ≤ 64 → (IntKind.u64.wrap (2 ^ (ji4).toNat)) = ji6:=fun hle_=>by have h_:=hji6z hle_;rw [Int.one_mul] at h_;exact h_
 obtain ⟨ji7,hji7⟩ : ∃ j_ : Int,(shr .u64 a1 (ji6)) = j_:=⟨_,rfl⟩
 replace H : ((zP.f a0).bind fun t101=>((zP.f a0).bind fun t102=>((zp.f k (wrap64 (a0 - 1)) (Go.bits .and .u64 (ji7) t101)).bind fun t103=>(some (Go.bits .or .u64 (shl .u64 (Go.bits .xor .u64 (Go.bits .and .u64 a1 t102) t103) (ji6)) (Go.bits .and .u64 (ji7) t101)))))) = some r:=by first|(rw [hji7] at H;exact H)|(simp only [hji7] at H ⊢;exact H)
 have hji7_ : (a1 / 2 ^ min (ji6).toNat 64) = ji7:=hji7
 have hji7z : (ji6) ≤ 64 → (a1 / 2 ^ (ji6).toNat) = ji7:=z1B hji7
 replace H:=Option.bind_eq_some_iff.mp H
 obtain ⟨t101,A80,H⟩:=H
 replace H : ((zP.f a0).bind fun t102=>((zp.f k (wrap64 (a0 - 1)) (Go.bits .and .u64 (ji7) t101)).bind fun t103=>(some (Go.bits .or .u64 (shl .u64 (Go.bits .xor .u64 (Go.bits .and .u64 a1 t102) t103) (ji6)) (Go.bits .and .u64 (ji7) t101))))) = some r:=H
 have A8:=z3.mk A80
 clear A80
 replace H:=Option.bind_eq_some_iff.mp H
 obtain ⟨t102,A90,H⟩:=H
 replace H : ((zp.f k (wrap64 (a0 - 1)) (Go.bits .and .u64 (ji7) t101)).bind fun t103=>(some (Go.bits .or .u64 (shl .u64 (Go.bits .xor .u64 (Go.bits .and .u64 a1 t102) t103) (ji6)) (Go.bits .and .u64 (ji7) t101)))) = some r:=H
 have A9:=z3.mk A90
 clear A90
 replace H:=Option.bind_eq_some_iff.mp H
 obtain ⟨t103,A100,H⟩:=H
 replace H : (some (Go.bits .or .u64 (shl .u64 (Go.bits .xor .u64 (Go.bits .and .u64 a1 t102) t103) (ji6)) (Go.bits .and .u64 (ji7) t101))) = some r:=H
 have A10:=z3.mk A100
 clear A100
 obtain ⟨ji11,hji11⟩ : ∃ j_ : Int,(shl .u64 (Go.bits .xor .u64 (Go.bits .and .u64 a1 t102) t103) (ji6)) = j_:=⟨_,rfl⟩
 replace H : (some (Go.bits .or .u64 (ji11) (Go.bits .and .u64 (ji7) t101))) = some r:=by first|(rw [hji11] at H;exact H)|(simp only [hji11] at H ⊢;exact H)
 (try rw [hji11] at A8)
 (try rw [hji11] at A9)
 (try rw [hji11] at A10)
 have hji11_ : (IntKind.u64.wrap ((Go.bits .xor .u64 (Go.bits .and .u64 a1 t102) t103) * 2 ^ min (ji6).toNat 64)) = ji11:=hji11
 have hji11z : (ji6) ≤ 64 → (IntKind.u64.wrap ((Go.bits .xor .u64 (Go.bits .and .u64 a1 t102) t103) * 2 ^ (ji6).toNat)) = ji11:=z1a hji11
 have hji11n0 : 0 ≤ ji11:=by rw [← hji11];exact Int.emod_nonneg _ (by decide)
 have hji11n1 : decide (0 ≤ ji11) = true:=decide_eq_true hji11n0
 replace hji11n0:=eq_true hji11n0
 obtain rfl:=Option.some.inj H
 go_enter Try.func103,Try.ntmps103
 go_wp2_with (first|((with_reducible refine zl (f:=108) rfl ?_);refine goesL_ (some 18) rfl rfl Try.func108 (by kernel_rfl) rfl #[.int .i64 a0] rfl (by (try simp only [List.map_toArray,List.map_cons,List.map_nil]);first|done|rfl|(simp only [List.length_drop,List.length_take];rfl)) ?_;(with_reducible refine (zP.calls a0 t101 _ A8.out).mono ?_);rintro e w12 ⟨rfl,hb⟩;refine ⟨_,rfl,?_⟩;have n0_:=z3.mk (zb (by repeat (first|(with_reducible first|exact HB.out|apply z2|apply z0|apply z1)|exact HB.out)) hb);clear HB;have HB:=n0_;clear n0_;(try clear hb);(try clear hb2);(try clear hk);(try clear hi))|((with_reducible refine zl (f:=108) rfl ?_);refine goesL_ (some 22) rfl rfl Try.func108 (by kernel_rfl) rfl #[.int .i64 a0] rfl (by (try simp only [List.map_toArray,List.map_cons,List.map_nil]);first|done|rfl|(simp only [List.length_drop,List.length_take];rfl)) ?_;(with_reducible refine (zP.calls a0 t102 _ A9.out).mono ?_);rintro e w13 ⟨rfl,hb⟩;refine ⟨_,rfl,?_⟩;have n0_:=z3.mk (zb (by repeat (first|(with_reducible first|exact HB.out|apply z2|apply z0|apply z1)|exact HB.out)) hb);clear HB;have HB:=n0_;clear n0_;(try clear hb);(try clear hb2);(try clear hk);(try clear hi))|((with_reducible refine zl (f:=103) rfl ?_);refine goesL_ (some 28) rfl rfl Try.func103 (by kernel_rfl) rfl #[.int .i64 (wrap64 (a0 - 1)),.int .u64 (Go.bits .and .u64 (ji7) t101)] rfl (by (try simp only [List.map_toArray,List.map_cons,List.map_nil]);first|done|(simp only [hji7];rfl)|rfl|(simp only [List.length_drop,List.length_take];rfl)) ?_;(with_reducible refine (ih k (by omega) (wrap64 (a0 - 1)) (Go.bits .and .u64 (ji7) t101) t103 _ A10.out).mono ?_);rintro e w14 ⟨rfl,hb⟩;refine ⟨_,rfl,?_⟩;have n0_:=z3.mk (zb (by repeat (first|(with_reducible first|exact HB.out|apply z2|apply z0|apply z1)|exact HB.out)) hb);clear HB;have HB:=n0_;clear n0_;(try clear hb);(try clear hb2);(try clear hk);(try clear hi)))
 go_ret
 exact ⟨by first|rfl|(simp [zg,zh] <;> rfl)|(simp only [← hji4,← hji6,← hji7,← hji11];first|rfl|(simp [zg,zh] <;> rfl))|(simp [*,zg,zh] <;> rfl),by repeat (first|(with_reducible first|exact HB.out|apply z2|apply z0|apply z1)|exact HB.out)⟩
end Go.Proofs.Ytngcaphdkgihmaa.P
namespace Go.Proofs.Ytngcaphdkgihmaa.P
open Go.RowKit Go.Proofs.YtngcaphdkgihmaaW.PrintWords Go.Proofs.YtngcaphdkgihmaaW.PrintLast Go.Proofs.YtngcaphdkgihmaaW.PrintMore
attribute [local go_sem] zW zY z15 z16 zQ zR zX zZ   -- for this text's walks alone
set_option linter.unusedVariables false
set_option linter.unusedSimpArgs false
def zw.f (k : Nat) (a0 : Int) (a1_0 : Int) (a1_1 : Int) : Option (Int × Int):=if a0 < 6 then ((zp.f k a0 a1_0).bind fun t103=>((zp.f k a0 a1_1).bind fun t104=>(some (t103,t104)))) else ((zp.f k 5 a1_0).bind fun t105=>(some (Go.bits .xor .u64 a1_1 t105,a1_0)))
theorem zw.mono : ∀ a0 a1 a2 k,LeO (zw.f k a0 a1 a2) (zw.f (k + 1) a0 a1 a2):=by
 intro a0 a1 a2 k
 unfold zw.f
 repeat' first
  | (with_reducible exact zp.mono _ _ _)
  | (with_reducible exact LeO.refl _)
  | (with_reducible exact LeO.none _)
  | (with_reducible refine LeO.ite ?_ ?_)
  | (with_reducible refine LeO.bind ?_ (fun _=>?_))
  | exact zp.mono _ _ _
  | exact LeO.none _
  | refine LeO.ite ?_ ?_
  | refine LeO.bind ?_ (fun _=>?_)
def zw.T2 : Bool × List (List Nat × List Nat):=(true,[([],[]),([],[]),([1],[1]),([0,2],[0,2]),([],[]),([],[]),([5],[5]),([4,6,3],[4,6]),([3,7],[3,7]),([8,7,0,1,2,3,4,5,6,7,8],[8])])
def zw.B2 : List Nat:=[0,0,2,7,0,0,32,127,255,511]
theorem zw.tab2 : rtab .any (opsOf Try.f95 2) = zw.T2:=by kernel_rfl
theorem zw.bits2 : waitsOk zw.T2.2 zw.B2 = true:=by kernel_rfl
def zw.T3 : Bool × List (List Nat × List Nat):=(true,[([],[]),([0],[0]),([],[]),([2],[2]),([3],[3]),([1,4],[1,4]),([],[]),([6],[6]),([5,7],[5,7]),([8,4,0,1,2,3,4,5,6,7,8],[8])])
def zw.B3 : List Nat:=[0,1,0,4,12,31,0,64,255,511]
theorem zw.tab3 : rtab .any (opsOf Try.f95 3) = zw.T3:=by kernel_rfl
theorem zw.bits3 : waitsOk zw.T3.2 zw.B3 = true:=by kernel_rfl
set_option maxHeartbeats 8000000 in
set_option maxRecDepth 100000 in
theorem zw.calls (k : Nat) (a0 : Int) (a1_0 : Int) (a1_1 : Int) (r1 : Int) (r2 : Int) (w : World) (h : zw.f k a0 a1_0 a1_1 = some (r1,r2)) :
 Calls Try.prog 95 #[.int .i64 a0,.agg #[.int .u64 a1_0,.int .u64 a1_1]] w fun e w'=>e = .returned (.agg #[.int .u64 r1,.int .u64 r2]) ∧ Below w.heap.size w w':=by
 have hu61:=Try.underlying61
 have HB:=z3.mk (Below.refl w.heap.size w)
 have H : (if a0 < 6 then ((zp.f k a0 a1_0).bind fun t103=>((zp.f k a0 a1_1).bind fun t104=>(some (t103,t104)))) else ((zp.f k 5 a1_0).bind fun t105=>(some (Go.bits .xor .u64 a1_1 t105,a1_0)))) = some (r1,r2):=h
 clear h
 by_cases c3 : a0 < 6
 rotate_left
 · rw [if_neg c3] at H
   have c3b0 : decide (a0 < 6) = false:=decide_eq_false c3
   clear c3
   replace H:=Option.bind_eq_some_iff.mp H
   obtain ⟨t105,A130,H⟩:=H
   replace H : (some (Go.bits .xor .u64 a1_1 t105,a1_0)) = some (r1,r2):=H
   have A13:=z3.mk A130
   clear A130
   simp only [Option.some.injEq,Prod.mk.injEq] at H
   obtain ⟨rfl,rfl⟩:=H
   go_enter Try.func95,Try.ntmps95
   try go_wp2_with (first|((with_reducible refine zE (N:=3) rfl ?_);refine zC ?hg (N:=3) ?hd (cs:=#[.int .u64 a1_0,.int .u64 a1_1]) (t:=61) ?hr ?_;(case hd=>rfl);(case hg=>rfl);(case hr=>first|(go_simp;done)|(go_simp;rfl));intro gb101 hg w14 hbox hb;have n0_:=z3.mk (zb (by repeat (first|(with_reducible first|exact HB.out|apply z2|apply z0|apply z1)|exact HB.out)) hb);have n1_:=z3.mk (hbox);have n2_:=z3.mk ((by rw [hg];exact (zc (by repeat (first|(with_reducible first|exact HB.out|apply z2|apply z0|apply z1)|exact HB.out))) : w.heap.size ≤ gb101));have n3_:=z3.mk ((by rw [hg];exact (zc (by repeat (first|(with_reducible first|exact HB.out|apply z2|apply z0|apply z1)|exact HB.out))) : w.heap.size ≤ gb101));clear HB;have HB:=n0_;have BK101:=n1_;have GW101:=n2_;have GE101:=n3_;clear n0_ n1_ n2_ n3_;clear hb hbox hg)|((with_reducible refine zE (N:=4) rfl ?_);refine zC ?hg (N:=4) ?hd (cs:=#[.int .u64 0,.int .u64 0]) (t:=61) ?hr ?_;(case hd=>rfl);(case hg=>rfl);(case hr=>first|(go_simp;done)|(go_simp;rfl));intro gb102 hg w15 hbox hb;have n0_:=z3.mk (zn (g:=gb101) (o:=.cells #[.int .u64 a1_0,.int .u64 a1_1] 61 (0,0)) (by (with_reducible repeat (first|refine z5 ?_ _|refine z8 ?_|refine z4 ?_ _));exact BK101.out) hb);have n1_:=z3.mk (zb (by repeat (first|(with_reducible first|exact HB.out|apply z2|apply z0|apply z1|refine z6 ?_ GE101.out)|exact HB.out)) hb);have n2_:=z3.mk (hbox);have n3_:=z3.mk ((by rw [hg];exact (zc (by repeat (first|(with_reducible first|exact HB.out|apply z2|apply z0|apply z1|refine z6 ?_ GE101.out)|exact HB.out))) : w.heap.size ≤ gb102));have n4_:=z3.mk ((by rw [hg];exact (zc (by repeat (first|(with_reducible first|exact HB.out|apply z2|apply z0|apply z1|refine z6 ?_ GE101.out)|exact HB.out))) : w.heap.size ≤ gb102));have n5_:=z3.mk ((by rw [hg];exact Nat.ne_of_lt (zO (g:=gb101) (o:=.cells #[.int .u64 a1_0,.int .u64 a1_1] 61 (0,0)) (by (with_reducible repeat (first|refine z5 ?_ _|refine z8 ?_|refine z4 ?_ _));exact BK101.out)) : gb101 ≠ gb102));have n6_:=z3.mk ((by rw [hg];exact Nat.ne_of_gt (zO (g:=gb101) (o:=.cells #[.int .u64 a1_0,.int .u64 a1_1] 61 (0,0)) (by (with_reducible repeat (first|refine z5 ?_ _|refine z8 ?_|refine z4 ?_ _));exact BK101.out)) : gb102 ≠ gb101));clear BK101;clear HB;have BK101:=n0_;have HB:=n1_;have BK102:=n2_;have GW102:=n3_;have GE102:=n4_;have NB101_102:=n5_;have NB102_101:=n6_;clear n0_ n1_ n2_ n3_ n4_ n5_ n6_;clear hb hbox hg))
   have n0_:=z3.mk (z8 BK101.out)
   have n1_:=z3.mk (z8 BK102.out)
   have n2_:=z3.mk (z1 HB.out)
   clear BK101
   clear BK102
   clear HB
   have BK101:=n0_
   have BK102:=n1_
   have HB:=n2_
   clear n0_ n1_ n2_
   refine start_ (n:=10) (S:=fun w'=>w'.cell? ⟨gb101,0,none⟩ = some (.int .u64 a1_0) ∧ w'.cell? ⟨gb101,1,none⟩ = some (.int .u64 a1_1)) (ds:=[]) #[false,false,false,false,false,false,false,false,false,false] (by kernel_rfl) rfl rfl ⟨(ze BK101.out 0).trans rfl,(ze BK101.out 1).trans rfl⟩ (fun hHeld=>?_);refine z1C zw.tab3 zw.bits3 (fun HT_ HW_=>?_)
   generalize w15.drew = w16 at BK101 BK102 HB hHeld ⊢
   refine pure_ (i:=0) (N:=some 16) (v:=?_) (a':=?_) #[true,false,false,false,false,false,false,false,false,false] rfl rfl (zK HT_.out (by kernel_rfl)) (fun _ _ _ h=>h) (Or.inl ⟨by rfl,?_⟩) ?_ ?_
   rotate_left
   · intro w'
     go_simp
     with_reducible rfl
   rotate_left
   · simp only [Act.put,List.setIfInBounds_toArray,List.set_cons_zero,List.set_cons_succ,zD,zI]
     rfl
   refine pure_ (i:=2) (N:=some 18) (v:=?_) (a':=?_) #[true,false,true,false,false,false,false,false,false,false] rfl rfl (zK HT_.out (by kernel_rfl)) (fun _ _ _ h=>h) (Or.inl ⟨by rfl,?_⟩) ?_ ?_
   rotate_left
   · intro w'
     go_simp
     with_reducible rfl
   rotate_left
   · simp only [Act.put,List.setIfInBounds_toArray,List.set_cons_zero,List.set_cons_succ,zD,zI]
     rfl
   refine pure_ (i:=6) (N:=some 22) (v:=?_) (a':=?_) #[true,false,true,false,false,false,true,false,false,false] rfl rfl (zK HT_.out (by kernel_rfl)) (fun _ _ _ h=>h) (Or.inl ⟨by rfl,?_⟩) ?_ ?_
   rotate_left
   · intro w'
     go_simp
     with_reducible rfl
   rotate_left
   · simp only [Act.put,List.setIfInBounds_toArray,List.set_cons_zero,List.set_cons_succ,zD,zI]
     rfl
   refine take_ (i:=1) (N:=some 17) (v:=?_) (a':=?_) #[true,true,true,false,false,false,true,false,false,false] rfl rfl (z1m HT_.out HW_.out (by kernel_rfl)) (fun _ _ _ h=>h) (Or.inl ⟨by rfl,?_⟩) hHeld ?_ ?_
   rotate_left
   · rintro w' ⟨s0,s1⟩
     go_simp
     with_reducible rfl
   rotate_left
   · simp only [Act.put,List.setIfInBounds_toArray,List.set_cons_zero,List.set_cons_succ,zD,zI]
     rfl
   refine take_ (i:=3) (N:=some 19) (v:=?_) (a':=?_) #[true,true,true,true,false,false,true,false,false,false] rfl rfl (z1m HT_.out HW_.out (by kernel_rfl)) (fun _ _ _ h=>h) (Or.inl ⟨by rfl,?_⟩) hHeld ?_ ?_
   rotate_left
   · rintro w' ⟨s0,s1⟩
     go_simp
     with_reducible rfl
   rotate_left
   · simp only [Act.put,List.setIfInBounds_toArray,List.set_cons_zero,List.set_cons_succ,zD,zI]
     rfl
   refine take_ (i:=7) (N:=some 23) (v:=?_) (a':=?_) #[true,true,true,true,false,false,true,true,false,false] rfl rfl (z1m HT_.out HW_.out (by kernel_rfl)) (fun _ _ _ h=>h) (Or.inl ⟨by rfl,?_⟩) hHeld ?_ ?_
   rotate_left
   · rintro w' ⟨s0,s1⟩
     go_simp
     with_reducible rfl
   rotate_left
   · simp only [Act.put,List.setIfInBounds_toArray,List.set_cons_zero,List.set_cons_succ,zD,zI]
     rfl
   refine one_ (i:=4) (N:=some 20) #[true,true,true,true,true,false,true,true,false,false] rfl rfl (z1t HT_.out (by kernel_rfl)) (by decide) (fun K hK=>?_)
   refine goes_ Try.func103 (by kernel_rfl) rfl #[.int .i64 5,.int .u64 a1_0] (by rfl) rfl rfl (by (try simp only [List.map_toArray,List.map_cons,List.map_nil]);first|done|rfl|(simp only [List.length_drop,List.length_take];rfl)) ?_
   with_reducible refine (zp.calls k 5 a1_0 t105 _ A13.out).mono ?_
   rintro e w17 ⟨rfl,hb⟩
   refine ⟨_,rfl,?_⟩
   have n0_:=z3.mk (zn (g:=gb101) (o:=.cells #[.int .u64 a1_0,.int .u64 a1_1] 61 (0,0)) (by (with_reducible repeat (first|refine z5 ?_ _|refine z8 ?_|refine z4 ?_ _));exact BK101.out) hb)
   have n1_:=z3.mk (zn (g:=gb102) (o:=.cells #[.int .u64 0,.int .u64 0] 61 (0,0)) (by (with_reducible repeat (first|refine z5 ?_ _|refine z8 ?_|refine z4 ?_ _));exact BK102.out) hb)
   have n2_:=z3.mk (zb (by repeat (first|(with_reducible first|exact HB.out|apply z2|apply z0|apply z1|refine z6 ?_ GE101.out|refine z6 ?_ GE102.out)|exact HB.out)) hb)
   clear BK101
   clear BK102
   clear HB
   have BK101:=n0_
   have BK102:=n1_
   have HB:=n2_
   clear n0_ n1_ n2_
   (try clear hb)
   (try clear hb2)
   (try clear hk)
   (try clear hi)
   refine hK.out _ _ ⟨(ze BK101.out 0).trans rfl,(ze BK101.out 1).trans rfl⟩ (fun hHeld=>?_)
   clear hK K
   refine norm_ (a':=?_) ?_ ?_
   rotate_left
   · show Act.put _ (some 20) _ = _
     simp only [Act.put,List.setIfInBounds_toArray,List.set_cons_zero,List.set_cons_succ,zD,zI]
     rfl
   refine pure_ (i:=5) (N:=some 21) (v:=?_) (a':=?_) #[true,true,true,true,true,true,true,true,false,false] rfl rfl (zK HT_.out (by kernel_rfl)) (fun _ _ _ h=>h) (Or.inl ⟨by rfl,?_⟩) ?_ ?_
   rotate_left
   · intro w'
     go_simp
     with_reducible rfl
   rotate_left
   · simp only [Act.put,List.setIfInBounds_toArray,List.set_cons_zero,List.set_cons_succ,zD,zI]
     rfl
   refine pure_ (i:=8) (N:=some 24) (v:=?_) (a':=?_) #[true,true,true,true,true,true,true,true,true,false] rfl rfl (zK HT_.out (by kernel_rfl)) (fun _ _ _ h=>h) (Or.inl ⟨by rfl,?_⟩) ?_ ?_
   rotate_left
   · intro w'
     go_simp
     with_reducible rfl
   rotate_left
   · simp only [Act.put,List.setIfInBounds_toArray,List.set_cons_zero,List.set_cons_succ,zD,zI]
     rfl
   refine one_ (i:=9) (N:=none) #[true,true,true,true,true,true,true,true,true,true] rfl rfl (z1t HT_.out (by kernel_rfl)) (by decide) (fun K hK=>?_)
   have hs18 : w17.cell? ⟨gb102,0,none⟩ = some (.int .u64 0):=(ze BK102.out 0).trans rfl
   have hfs18:=zd BK102.out 0
   have hns18_0:=NB101_102.out
   have hms18_0:=NB102_101.out
   have hs19 : w17.cell? ⟨gb102,1,none⟩ = some (.int .u64 0):=(ze BK102.out 1).trans rfl
   have hfs19:=zd BK102.out 1
   have hns19_0:=NB101_102.out
   have hms19_0:=NB102_101.out
   refine skip_ (w1:=?_) (by rfl) rfl ?_ ?_
   rotate_left
   · go_simp
     rfl
   refine hK.out _ _ ⟨((z1h (p:=⟨gb102,_,none⟩) NB101_102.out _).trans (((z1h (p:=⟨gb102,_,none⟩) NB101_102.out _).trans (hHeld.1)))),((z1h (p:=⟨gb102,_,none⟩) NB101_102.out _).trans (((z1h (p:=⟨gb102,_,none⟩) NB101_102.out _).trans (hHeld.2))))⟩ (fun hHeld=>?_)
   clear hK K
   refine done_ (z1Z HT_.out (by kernel_rfl)) ?_
   try go_wp2
   refine bodyPost_ret (results_cell_row rfl _ _ gb102 61 #[.int .u64 (Go.bits .xor .u64 a1_1 t105),.int .u64 a1_0] (0,0) _ rfl (by (with_reducible repeat (first|refine z5 ?_ _|refine z8 ?_|refine z4 ?_ _));refine zN (cs:=#[.int .u64 (Go.bits .xor .u64 a1_1 t105),.int .u64 0]) ?_ 1 _ rfl;(with_reducible repeat (first|refine z5 ?_ _|refine z8 ?_|refine z4 ?_ _));refine zN (cs:=#[.int .u64 0,.int .u64 0]) ?_ 0 _ rfl;(with_reducible repeat (first|refine z5 ?_ _|refine z8 ?_|refine z4 ?_ _));exact BK102.out) Try.underlying61 rfl (by kernel_rfl)) rfl ?_
   exact ⟨by first|rfl|(simp [zg,zh] <;> rfl)|(simp [*,zg,zh] <;> rfl),by repeat (first|(with_reducible first|exact HB.out|apply z2|apply z0|apply z1|refine z6 ?_ GE101.out|refine z6 ?_ GE102.out)|exact HB.out)⟩
 rw [if_pos c3] at H
 have c3b0 : decide (a0 < 6) = true:=decide_eq_true c3
 clear c3
 replace H:=Option.bind_eq_some_iff.mp H
 obtain ⟨t103,A40,H⟩:=H
 replace H : ((zp.f k a0 a1_1).bind fun t104=>(some (t103,t104))) = some (r1,r2):=H
 have A4:=z3.mk A40
 clear A40
 replace H:=Option.bind_eq_some_iff.mp H
 obtain ⟨t104,A50,H⟩:=H
 replace H : (some (t103,t104)) = some (r1,r2):=H
 have A5:=z3.mk A50
 clear A50
 simp only [Option.some.injEq,Prod.mk.injEq] at H
 obtain ⟨rfl,rfl⟩:=H
 go_enter Try.func95,Try.ntmps95
 try go_wp2_with (first|((with_reducible refine zE (N:=3) rfl ?_);refine zC ?hg (N:=3) ?hd (cs:=#[.int .u64 a1_0,.int .u64 a1_1]) (t:=61) ?hr ?_;(case hd=>rfl);(case hg=>rfl);(case hr=>first|(go_simp;done)|(go_simp;rfl));intro gb101 hg w6 hbox hb;have n0_:=z3.mk (zb (by repeat (first|(with_reducible first|exact HB.out|apply z2|apply z0|apply z1)|exact HB.out)) hb);have n1_:=z3.mk (hbox);have n2_:=z3.mk ((by rw [hg];exact (zc (by repeat (first|(with_reducible first|exact HB.out|apply z2|apply z0|apply z1)|exact HB.out))) : w.heap.size ≤ gb101));have n3_:=z3.mk ((by rw [hg];exact (zc (by repeat (first|(with_reducible first|exact HB.out|apply z2|apply z0|apply z1)|exact HB.out))) : w.heap.size ≤ gb101));clear HB;have HB:=n0_;have BK101:=n1_;have GW101:=n2_;have GE101:=n3_;clear n0_ n1_ n2_ n3_;clear hb hbox hg)|((with_reducible refine zE (N:=4) rfl ?_);refine zC ?hg (N:=4) ?hd (cs:=#[.int .u64 0,.int .u64 0]) (t:=61) ?hr ?_;(case hd=>rfl);(case hg=>rfl);(case hr=>first|(go_simp;done)|(go_simp;rfl));intro gb102 hg w7 hbox hb;have n0_:=z3.mk (zn (g:=gb101) (o:=.cells #[.int .u64 a1_0,.int .u64 a1_1] 61 (0,0)) (by (with_reducible repeat (first|refine z5 ?_ _|refine z8 ?_|refine z4 ?_ _));exact BK101.out) hb);have n1_:=z3.mk (zb (by repeat (first|(with_reducible first|exact HB.out|apply z2|apply z0|apply z1|refine z6 ?_ GE101.out)|exact HB.out)) hb);have n2_:=z3.mk (hbox);have n3_:=z3.mk ((by rw [hg];exact (zc (by repeat (first|(with_reducible first|exact HB.out|apply z2|apply z0|apply z1|refine z6 ?_ GE101.out)|exact HB.out))) : w.heap.size ≤ gb102));have n4_:=z3.mk ((by rw [hg];exact (zc (by repeat (first|(with_reducible first|exact HB.out|apply z2|apply z0|apply z1|refine z6 ?_ GE101.out)|exact HB.out))) : w.heap.size ≤ gb102));have n5_:=z3.mk ((by rw [hg];exact Nat.ne_of_lt (zO (g:=gb101) (o:=.cells #[.int .u64 a1_0,.int .u64 a1_1] 61 (0,0)) (by (with_reducible repeat (first|refine z5 ?_ _|refine z8 ?_|refine z4 ?_ _));exact BK101.out)) : gb101 ≠ gb102));have n6_:=z3.mk ((by rw [hg];exact Nat.ne_of_gt (zO (g:=gb101) (o:=.cells #[.int .u64 a1_0,.int .u64 a1_1] 61 (0,0)) (by (with_reducible repeat (first|refine z5 ?_ _|refine z8 ?_|refine z4 ?_ _));exact BK101.out)) : gb102 ≠ gb101));clear BK101;clear HB;have BK101:=n0_;have HB:=n1_;have BK102:=n2_;have GW102:=n3_;have GE102:=n4_;have NB101_102:=n5_;have NB102_101:=n6_;clear n0_ n1_ n2_ n3_ n4_ n5_ n6_;clear hb hbox hg))
 have n0_:=z3.mk (z8 BK101.out)
 have n1_:=z3.mk (z8 BK102.out)
 have n2_:=z3.mk (z1 HB.out)
 clear BK101
 clear BK102
 clear HB
 have BK101:=n0_
 have BK102:=n1_
 have HB:=n2_
 clear n0_ n1_ n2_
 refine start_ (n:=10) (S:=fun w'=>w'.cell? ⟨gb101,0,none⟩ = some (.int .u64 a1_0) ∧ w'.cell? ⟨gb101,1,none⟩ = some (.int .u64 a1_1)) (ds:=[]) #[false,false,false,false,false,false,false,false,false,false] (by kernel_rfl) rfl rfl ⟨(ze BK101.out 0).trans rfl,(ze BK101.out 1).trans rfl⟩ (fun hHeld=>?_);refine z1C zw.tab2 zw.bits2 (fun HT_ HW_=>?_)
 generalize w7.drew = w8 at BK101 BK102 HB hHeld ⊢
 refine pure_ (i:=0) (N:=some 7) (v:=?_) (a':=?_) #[true,false,false,false,false,false,false,false,false,false] rfl rfl (zK HT_.out (by kernel_rfl)) (fun _ _ _ h=>h) (Or.inl ⟨by rfl,?_⟩) ?_ ?_
 rotate_left
 · intro w'
   go_simp
   with_reducible rfl
 rotate_left
 · simp only [Act.put,List.setIfInBounds_toArray,List.set_cons_zero,List.set_cons_succ,zD,zI]
   rfl
 refine pure_ (i:=1) (N:=some 8) (v:=?_) (a':=?_) #[true,true,false,false,false,false,false,false,false,false] rfl rfl (zK HT_.out (by kernel_rfl)) (fun _ _ _ h=>h) (Or.inl ⟨by rfl,?_⟩) ?_ ?_
 rotate_left
 · intro w'
   go_simp
   with_reducible rfl
 rotate_left
 · simp only [Act.put,List.setIfInBounds_toArray,List.set_cons_zero,List.set_cons_succ,zD,zI]
   rfl
 refine pure_ (i:=4) (N:=some 11) (v:=?_) (a':=?_) #[true,true,false,false,true,false,false,false,false,false] rfl rfl (zK HT_.out (by kernel_rfl)) (fun _ _ _ h=>h) (Or.inl ⟨by rfl,?_⟩) ?_ ?_
 rotate_left
 · intro w'
   go_simp
   with_reducible rfl
 rotate_left
 · simp only [Act.put,List.setIfInBounds_toArray,List.set_cons_zero,List.set_cons_succ,zD,zI]
   rfl
 refine pure_ (i:=5) (N:=some 12) (v:=?_) (a':=?_) #[true,true,false,false,true,true,false,false,false,false] rfl rfl (zK HT_.out (by kernel_rfl)) (fun _ _ _ h=>h) (Or.inl ⟨by rfl,?_⟩) ?_ ?_
 rotate_left
 · intro w'
   go_simp
   with_reducible rfl
 rotate_left
 · simp only [Act.put,List.setIfInBounds_toArray,List.set_cons_zero,List.set_cons_succ,zD,zI]
   rfl
 refine take_ (i:=2) (N:=some 9) (v:=?_) (a':=?_) #[true,true,true,false,true,true,false,false,false,false] rfl rfl (z1m HT_.out HW_.out (by kernel_rfl)) (fun _ _ _ h=>h) (Or.inl ⟨by rfl,?_⟩) hHeld ?_ ?_
 rotate_left
 · rintro w' ⟨s0,s1⟩
   go_simp
   with_reducible rfl
 rotate_left
 · simp only [Act.put,List.setIfInBounds_toArray,List.set_cons_zero,List.set_cons_succ,zD,zI]
   rfl
 refine take_ (i:=6) (N:=some 13) (v:=?_) (a':=?_) #[true,true,true,false,true,true,true,false,false,false] rfl rfl (z1m HT_.out HW_.out (by kernel_rfl)) (fun _ _ _ h=>h) (Or.inl ⟨by rfl,?_⟩) hHeld ?_ ?_
 rotate_left
 · rintro w' ⟨s0,s1⟩
   go_simp
   with_reducible rfl
 rotate_left
 · simp only [Act.put,List.setIfInBounds_toArray,List.set_cons_zero,List.set_cons_succ,zD,zI]
   rfl
 refine one_ (i:=3) (N:=some 10) #[true,true,true,true,true,true,true,false,false,false] rfl rfl (z1t HT_.out (by kernel_rfl)) (by decide) (fun K hK=>?_)
 refine goes_ Try.func103 (by kernel_rfl) rfl #[.int .i64 a0,.int .u64 a1_0] (by rfl) rfl rfl (by (try simp only [List.map_toArray,List.map_cons,List.map_nil]);first|done|rfl|(simp only [List.length_drop,List.length_take];rfl)) ?_
 with_reducible refine (zp.calls k a0 a1_0 t103 _ A4.out).mono ?_
 rintro e w9 ⟨rfl,hb⟩
 refine ⟨_,rfl,?_⟩
 have n0_:=z3.mk (zn (g:=gb101) (o:=.cells #[.int .u64 a1_0,.int .u64 a1_1] 61 (0,0)) (by (with_reducible repeat (first|refine z5 ?_ _|refine z8 ?_|refine z4 ?_ _));exact BK101.out) hb)
 have n1_:=z3.mk (zn (g:=gb102) (o:=.cells #[.int .u64 0,.int .u64 0] 61 (0,0)) (by (with_reducible repeat (first|refine z5 ?_ _|refine z8 ?_|refine z4 ?_ _));exact BK102.out) hb)
 have n2_:=z3.mk (zb (by repeat (first|(with_reducible first|exact HB.out|apply z2|apply z0|apply z1|refine z6 ?_ GE101.out|refine z6 ?_ GE102.out)|exact HB.out)) hb)
 clear BK101
 clear BK102
 clear HB
 have BK101:=n0_
 have BK102:=n1_
 have HB:=n2_
 clear n0_ n1_ n2_
 (try clear hb)
 (try clear hb2)
 (try clear hk)
 (try clear hi)
 refine hK.out _ _ ⟨(ze BK101.out 0).trans rfl,(ze BK101.out 1).trans rfl⟩ (fun hHeld=>?_)
 clear hK K
 refine norm_ (a':=?_) ?_ ?_
 rotate_left
 · show Act.put _ (some 10) _ = _
   simp only [Act.put,List.setIfInBounds_toArray,List.set_cons_zero,List.set_cons_succ,zD,zI]
   rfl
 refine one_ (i:=7) (N:=some 14) #[true,true,true,true,true,true,true,true,false,false] rfl rfl (z1t HT_.out (by kernel_rfl)) (by decide) (fun K hK=>?_)
 refine goes_ Try.func103 (by kernel_rfl) rfl #[.int .i64 a0,.int .u64 a1_1] (by rfl) rfl rfl (by (try simp only [List.map_toArray,List.map_cons,List.map_nil]);first|done|rfl|(simp only [List.length_drop,List.length_take];rfl)) ?_
 with_reducible refine (zp.calls k a0 a1_1 t104 _ A5.out).mono ?_
 rintro e w10 ⟨rfl,hb⟩
 refine ⟨_,rfl,?_⟩
 have n0_:=z3.mk (zn (g:=gb101) (o:=.cells #[.int .u64 a1_0,.int .u64 a1_1] 61 (0,0)) (by (with_reducible repeat (first|refine z5 ?_ _|refine z8 ?_|refine z4 ?_ _));exact BK101.out) hb)
 have n1_:=z3.mk (zn (g:=gb102) (o:=.cells #[.int .u64 0,.int .u64 0] 61 (0,0)) (by (with_reducible repeat (first|refine z5 ?_ _|refine z8 ?_|refine z4 ?_ _));exact BK102.out) hb)
 have n2_:=z3.mk (zb (by repeat (first|(with_reducible first|exact HB.out|apply z2|apply z0|apply z1|refine z6 ?_ GE101.out|refine z6 ?_ GE102.out)|exact HB.out)) hb)
 clear BK101
 clear BK102
 clear HB
 have BK101:=n0_
 have BK102:=n1_
 have HB:=n2_
 clear n0_ n1_ n2_
 (try clear hb)
 (try clear hb2)
 (try clear hk)
 (try clear hi)
 refine hK.out _ _ ⟨(ze BK101.out 0).trans rfl,(ze BK101.out 1).trans rfl⟩ (fun hHeld=>?_)
 clear hK K
 refine norm_ (a':=?_) ?_ ?_
 rotate_left
 · show Act.put _ (some 14) _ = _
   simp only [Act.put,List.setIfInBounds_toArray,List.set_cons_zero,List.set_cons_succ,zD,zI]
   rfl
 refine pure_ (i:=8) (N:=some 15) (v:=?_) (a':=?_) #[true,true,true,true,true,true,true,true,true,false] rfl rfl (zK HT_.out (by kernel_rfl)) (fun _ _ _ h=>h) (Or.inl ⟨by rfl,?_⟩) ?_ ?_
 rotate_left
 · intro w'
   go_simp
   with_reducible rfl
 rotate_left
 · simp only [Act.put,List.setIfInBounds_toArray,List.set_cons_zero,List.set_cons_succ,zD,zI]
   rfl
 refine one_ (i:=9) (N:=none) #[true,true,true,true,true,true,true,true,true,true] rfl rfl (z1t HT_.out (by kernel_rfl)) (by decide) (fun K hK=>?_)
 have hs11 : w10.cell? ⟨gb102,0,none⟩ = some (.int .u64 0):=(ze BK102.out 0).trans rfl
 have hfs11:=zd BK102.out 0
 have hns11_0:=NB101_102.out
 have hms11_0:=NB102_101.out
 have hs12 : w10.cell? ⟨gb102,1,none⟩ = some (.int .u64 0):=(ze BK102.out 1).trans rfl
 have hfs12:=zd BK102.out 1
 have hns12_0:=NB101_102.out
 have hms12_0:=NB102_101.out
 refine skip_ (w1:=?_) (by rfl) rfl ?_ ?_
 rotate_left
 · go_simp
   rfl
 refine hK.out _ _ ⟨((z1h (p:=⟨gb102,_,none⟩) NB101_102.out _).trans (((z1h (p:=⟨gb102,_,none⟩) NB101_102.out _).trans (hHeld.1)))),((z1h (p:=⟨gb102,_,none⟩) NB101_102.out _).trans (((z1h (p:=⟨gb102,_,none⟩) NB101_102.out _).trans (hHeld.2))))⟩ (fun hHeld=>?_)
 clear hK K
 refine done_ (z1Z HT_.out (by kernel_rfl)) ?_
 try go_wp2
 refine bodyPost_ret (results_cell_row rfl _ _ gb102 61 #[.int .u64 t103,.int .u64 t104] (0,0) _ rfl (by (with_reducible repeat (first|refine z5 ?_ _|refine z8 ?_|refine z4 ?_ _));refine zN (cs:=#[.int .u64 t103,.int .u64 0]) ?_ 1 _ rfl;(with_reducible repeat (first|refine z5 ?_ _|refine z8 ?_|refine z4 ?_ _));refine zN (cs:=#[.int .u64 0,.int .u64 0]) ?_ 0 _ rfl;(with_reducible repeat (first|refine z5 ?_ _|refine z8 ?_|refine z4 ?_ _));exact BK102.out) Try.underlying61 rfl (by kernel_rfl)) rfl ?_
 exact ⟨by first|rfl|(simp [zg,zh] <;> rfl)|(simp [*,zg,zh] <;> rfl),by repeat (first|(with_reducible first|exact HB.out|apply z2|apply z0|apply z1|refine z6 ?_ GE101.out|refine z6 ?_ GE102.out)|exact HB.out)⟩
end Go.Proofs.Ytngcaphdkgihmaa.P
namespace Go.Proofs.Ytngcaphdkgihmaa.P
open Go.RowKit Go.Proofs.YtngcaphdkgihmaaW.PrintWords Go.Proofs.YtngcaphdkgihmaaW.PrintLast Go.Proofs.YtngcaphdkgihmaaW.PrintMore
attribute [local go_sem] zW zY z15 z16 zQ zR zX zZ   -- for this text's walks alone
set_option linter.unusedVariables false
set_option linter.unusedSimpArgs false
mutual
def zi.l0 : Nat → Int → Int → Int → Int → Int → Int → Int → Option (Int × Int)
 | 0,_,_,_,_,_,_,_=>none
 | k + 1,x6,x102000,x102001,x103000,x103001,x105000,x105001=>if x6 < 128 then ((zv.f k x103000 x103001 x6).bind fun t105=>(if t105 = true then (zi.l1 k x6 0 x102000 x102001 x103000 x103001 x105000 x105001 x102000 x102001) else (zi.l0 k (wrap64 (x6 + 1)) x102000 x102001 x103000 x103001 x105000 x105001))) else (some (x105000,x105001))
def zi.l1 : Nat → Int → Int → Int → Int → Int → Int → Int → Int → Int → Int → Option (Int × Int)
 | 0,_,_,_,_,_,_,_,_,_,_=>none
 | k + 1,x6,x8,x102000,x102001,x103000,x103001,x105000,x105001,x107000,x107001=>if x8 < 7 then (if 0 ≤ (IntKind.u64.wrap (x8)) then (if (Go.bits .and .i64 (shr .i64 x6 (IntKind.u64.wrap (x8))) 1) = 1 then ((zw.f k x8 x107000 x107001).bind fun bt107=>(zi.l1 k x6 (wrap64 (x8 + 1)) x102000 x102001 x103000 x103001 x105000 x105001 bt107.1 bt107.2)) else (zi.l1 k x6 (wrap64 (x8 + 1)) x102000 x102001 x103000 x103001 x105000 x105001 x107000 x107001)) else (none)) else ((zJ.f x105000 x105001 x107000 x107001).bind fun bt109=>(zi.l0 k (wrap64 (x6 + 1)) x102000 x102001 x103000 x103001 bt109.1 bt109.2))
end
def zi.f (k : Nat) (a0_0 : Int) (a0_1 : Int) (a1_0 : Int) (a1_1 : Int) : Option (Int × Int):=zi.l0 k 0 a0_0 a0_1 a1_0 a1_1 0 0
theorem zi.z13 : ∀ k,(∀ y0 y1 y2 y3 y4 y5 y6,LeO (zi.l0 k y0 y1 y2 y3 y4 y5 y6) (zi.l0 (k + 1) y0 y1 y2 y3 y4 y5 y6)) ∧ (∀ y0 y1 y2 y3 y4 y5 y6 y7 y8 y9,LeO (zi.l1 k y0 y1 y2 y3 y4 y5 y6 y7 y8 y9) (zi.l1 (k + 1) y0 y1 y2 y3 y4 y5 y6 y7 y8 y9))
 | 0=>⟨fun _ _ _ _ _ _ _ r h=>by simp [zi.l0] at h,fun _ _ _ _ _ _ _ _ _ _ r h=>by simp [zi.l1] at h⟩
 | k + 1=>by
  obtain ⟨ih0,ih1⟩:=zi.z13 k
  refine ⟨?_,?_⟩
  · intro y0 y1 y2 y3 y4 y5 y6
    unfold zi.l0
    repeat' first
    | (with_reducible exact ih0 _ _ _ _ _ _ _)
    | (with_reducible exact ih1 _ _ _ _ _ _ _ _ _ _)
    | (with_reducible exact zv.mono _ _ _ _)
    | (with_reducible exact zw.mono _ _ _ _)
    | (with_reducible exact LeO.refl _)
    | (with_reducible exact LeO.none _)
    | (with_reducible refine LeO.ite ?_ ?_)
    | (with_reducible refine LeO.bind ?_ (fun _=>?_))
    | exact ih0 _ _ _ _ _ _ _
    | exact ih1 _ _ _ _ _ _ _ _ _ _
    | exact zv.mono _ _ _ _
    | exact zw.mono _ _ _ _
    | exact LeO.none _
    | refine LeO.ite ?_ ?_
    | refine LeO.bind ?_ (fun _=>?_)
  · intro y0 y1 y2 y3 y4 y5 y6 y7 y8 y9
    unfold zi.l1
    repeat' first
    | (with_reducible exact ih0 _ _ _ _ _ _ _)
    | (with_reducible exact ih1 _ _ _ _ _ _ _ _ _ _)
    | (with_reducible exact zv.mono _ _ _ _)
    | (with_reducible exact zw.mono _ _ _ _)
    | (with_reducible exact LeO.refl _)
    | (with_reducible exact LeO.none _)
    | (with_reducible refine LeO.ite ?_ ?_)
    | (with_reducible refine LeO.bind ?_ (fun _=>?_))
    | exact ih0 _ _ _ _ _ _ _
    | exact ih1 _ _ _ _ _ _ _ _ _ _
    | exact zv.mono _ _ _ _
    | exact zw.mono _ _ _ _
    | exact LeO.none _
    | refine LeO.ite ?_ ?_
    | refine LeO.bind ?_ (fun _=>?_)
theorem zi.mono : ∀ a0 a1 a2 a3 k,LeO (zi.f k a0 a1 a2 a3) (zi.f (k + 1) a0 a1 a2 a3):=by
 intro a0 a1 a2 a3 k
 obtain ⟨ih0,ih1⟩:=zi.z13 k
 unfold zi.f
 repeat' first
  | (with_reducible exact ih0 _ _ _ _ _ _ _)
  | (with_reducible exact ih1 _ _ _ _ _ _ _ _ _ _)
  | (with_reducible exact zv.mono _ _ _ _)
  | (with_reducible exact zw.mono _ _ _ _)
  | (with_reducible exact LeO.refl _)
  | (with_reducible exact LeO.none _)
  | (with_reducible refine LeO.ite ?_ ?_)
  | (with_reducible refine LeO.bind ?_ (fun _=>?_))
  | exact ih0 _ _ _ _ _ _ _
  | exact ih1 _ _ _ _ _ _ _ _ _ _
  | exact zv.mono _ _ _ _
  | exact zw.mono _ _ _ _
  | exact LeO.none _
  | refine LeO.ite ?_ ?_
  | refine LeO.bind ?_ (fun _=>?_)
set_option maxHeartbeats 8000000 in
set_option maxRecDepth 100000 in
theorem zi.calls (k : Nat) (a0_0 : Int) (a0_1 : Int) (a1_0 : Int) (a1_1 : Int) (r1 : Int) (r2 : Int) (w : World) (h : zi.f k a0_0 a0_1 a1_0 a1_1 = some (r1,r2)) :
 Calls Try.prog 79 #[.agg #[.int .u64 a0_0,.int .u64 a0_1],.agg #[.int .u64 a1_0,.int .u64 a1_1]] w fun e w'=>e = .returned (.agg #[.int .u64 r1,.int .u64 r2]) ∧ Below w.heap.size w w':=by
 have hu61:=Try.underlying61
 have HB:=z3.mk (Below.refl w.heap.size w)
 have H : (zi.l0 k 0 a0_0 a0_1 a1_0 a1_1 0 0) = some (r1,r2):=h
 clear h
 have H':=z3.mk H
 clear H
 go_enter Try.func79,Try.ntmps79
 go_wp2_with (first|((with_reducible refine zE (N:=2) rfl ?_);refine zC ?hg (N:=2) ?hd (cs:=#[.int .u64 a0_0,.int .u64 a0_1]) (t:=61) ?hr ?_;(case hd=>rfl);(case hg=>rfl);(case hr=>first|(go_simp;done)|(go_simp;rfl));intro gb101 hg w3 hbox hb;have n0_:=z3.mk (zb (by repeat (first|(with_reducible first|exact HB.out|apply z2|apply z0|apply z1)|exact HB.out)) hb);have n1_:=z3.mk (hbox);have n2_:=z3.mk ((by rw [hg];exact (zc (by repeat (first|(with_reducible first|exact HB.out|apply z2|apply z0|apply z1)|exact HB.out))) : w.heap.size ≤ gb101));have n3_:=z3.mk ((by rw [hg];exact (zc (by repeat (first|(with_reducible first|exact HB.out|apply z2|apply z0|apply z1)|exact HB.out))) : w.heap.size ≤ gb101));clear HB;have HB:=n0_;have BK101:=n1_;have GW101:=n2_;have GE101:=n3_;clear n0_ n1_ n2_ n3_;clear hb hbox hg)|((with_reducible refine zE (N:=3) rfl ?_);refine zC ?hg (N:=3) ?hd (cs:=#[.int .u64 a1_0,.int .u64 a1_1]) (t:=61) ?hr ?_;(case hd=>rfl);(case hg=>rfl);(case hr=>first|(go_simp;done)|(go_simp;rfl));intro gb102 hg w4 hbox hb;have n0_:=z3.mk (zn (g:=gb101) (o:=.cells #[.int .u64 a0_0,.int .u64 a0_1] 61 (0,0)) (by (with_reducible repeat (first|refine z5 ?_ _|refine z8 ?_|refine z4 ?_ _));exact BK101.out) hb);have n1_:=z3.mk (zb (by repeat (first|(with_reducible first|exact HB.out|apply z2|apply z0|apply z1|refine z6 ?_ GE101.out)|exact HB.out)) hb);have n2_:=z3.mk (hbox);have n3_:=z3.mk ((by rw [hg];exact (zc (by repeat (first|(with_reducible first|exact HB.out|apply z2|apply z0|apply z1|refine z6 ?_ GE101.out)|exact HB.out))) : w.heap.size ≤ gb102));have n4_:=z3.mk ((by rw [hg];exact (zc (by repeat (first|(with_reducible first|exact HB.out|apply z2|apply z0|apply z1|refine z6 ?_ GE101.out)|exact HB.out))) : w.heap.size ≤ gb102));have n5_:=z3.mk ((by rw [hg];exact Nat.ne_of_lt (zO (g:=gb101) (o:=.cells #[.int .u64 a0_0,.int .u64 a0_1] 61 (0,0)) (by (with_reducible repeat (first|refine z5 ?_ _|refine z8 ?_|refine z4 ?_ _));exact BK101.out)) : gb101 ≠ gb102));have n6_:=z3.mk ((by rw [hg];exact Nat.ne_of_gt (zO (g:=gb101) (o:=.cells #[.int .u64 a0_0,.int .u64 a0_1] 61 (0,0)) (by (with_reducible repeat (first|refine z5 ?_ _|refine z8 ?_|refine z4 ?_ _));exact BK101.out)) : gb102 ≠ gb101));clear BK101;clear HB;have BK101:=n0_;have HB:=n1_;have BK102:=n2_;have GW102:=n3_;have GE102:=n4_;have NB101_102:=n5_;have NB102_101:=n6_;clear n0_ n1_ n2_ n3_ n4_ n5_ n6_;clear hb hbox hg)|((with_reducible refine zE (N:=4) rfl ?_);refine zC ?hg (N:=4) ?hd (cs:=#[.int .u64 0,.int .u64 0]) (t:=61) ?hr ?_;(case hd=>rfl);(case hg=>rfl);(case hr=>first|(go_simp;done)|(go_simp;rfl));intro gb103 hg w5 hbox hb;have n0_:=z3.mk (zn (g:=gb101) (o:=.cells #[.int .u64 a0_0,.int .u64 a0_1] 61 (0,0)) (by (with_reducible repeat (first|refine z5 ?_ _|refine z8 ?_|refine z4 ?_ _));exact BK101.out) hb);have n1_:=z3.mk (zn (g:=gb102) (o:=.cells #[.int .u64 a1_0,.int .u64 a1_1] 61 (0,0)) (by (with_reducible repeat (first|refine z5 ?_ _|refine z8 ?_|refine z4 ?_ _));exact BK102.out) hb);have n2_:=z3.mk (zb (by repeat (first|(with_reducible first|exact HB.out|apply z2|apply z0|apply z1|refine z6 ?_ GE101.out|refine z6 ?_ GE102.out)|exact HB.out)) hb);have n3_:=z3.mk (hbox);have n4_:=z3.mk ((by rw [hg];exact (zc (by repeat (first|(with_reducible first|exact HB.out|apply z2|apply z0|apply z1|refine z6 ?_ GE101.out|refine z6 ?_ GE102.out)|exact HB.out))) : w.heap.size ≤ gb103));have n5_:=z3.mk ((by rw [hg];exact (zc (by repeat (first|(with_reducible first|exact HB.out|apply z2|apply z0|apply z1|refine z6 ?_ GE101.out|refine z6 ?_ GE102.out)|exact HB.out))) : w.heap.size ≤ gb103));have n6_:=z3.mk ((by rw [hg];exact Nat.ne_of_lt (zO (g:=gb101) (o:=.cells #[.int .u64 a0_0,.int .u64 a0_1] 61 (0,0)) (by (with_reducible repeat (first|refine z5 ?_ _|refine z8 ?_|refine z4 ?_ _));exact BK101.out)) : gb101 ≠ gb103));have n7_:=z3.mk ((by rw [hg];exact Nat.ne_of_gt (zO (g:=gb101) (o:=.cells #[.int .u64 a0_0,.int .u64 a0_1] 61 (0,0)) (by (with_reducible repeat (first|refine z5 ?_ _|refine z8 ?_|refine z4 ?_ _));exact BK101.out)) : gb103 ≠ gb101));have n8_:=z3.mk ((by rw [hg];exact Nat.ne_of_lt (zO (g:=gb102) (o:=.cells #[.int .u64 a1_0,.int .u64 a1_1] 61 (0,0)) (by (with_reducible repeat (first|refine z5 ?_ _|refine z8 ?_|refine z4 ?_ _));exact BK102.out)) : gb102 ≠ gb103));have n9_:=z3.mk ((by rw [hg];exact Nat.ne_of_gt (zO (g:=gb102) (o:=.cells #[.int .u64 a1_0,.int .u64 a1_1] 61 (0,0)) (by (with_reducible repeat (first|refine z5 ?_ _|refine z8 ?_|refine z4 ?_ _));exact BK102.out)) : gb103 ≠ gb102));clear BK101;clear BK102;clear HB;have BK101:=n0_;have BK102:=n1_;have HB:=n2_;have BK103:=n3_;have GW103:=n4_;have GE103:=n5_;have NB101_103:=n6_;have NB103_101:=n7_;have NB102_103:=n8_;have NB103_102:=n9_;clear n0_ n1_ n2_ n3_ n4_ n5_ n6_ n7_ n8_ n9_;clear hb hbox hg)|((with_reducible refine zE (N:=5) rfl ?_);refine zC ?hg (N:=5) ?hd (cs:=#[.int .u64 0,.int .u64 0]) (t:=61) ?hr ?_;(case hd=>rfl);(case hg=>rfl);(case hr=>first|(go_simp;done)|(go_simp;rfl));intro gb104 hg w6 hbox hb;have n0_:=z3.mk (zn (g:=gb101) (o:=.cells #[.int .u64 a0_0,.int .u64 a0_1] 61 (0,0)) (by (with_reducible repeat (first|refine z5 ?_ _|refine z8 ?_|refine z4 ?_ _));exact BK101.out) hb);have n1_:=z3.mk (zn (g:=gb102) (o:=.cells #[.int .u64 a1_0,.int .u64 a1_1] 61 (0,0)) (by (with_reducible repeat (first|refine z5 ?_ _|refine z8 ?_|refine z4 ?_ _));exact BK102.out) hb);have n2_:=z3.mk (zn (g:=gb103) (o:=.cells #[.int .u64 0,.int .u64 0] 61 (0,0)) (by (with_reducible repeat (first|refine z5 ?_ _|refine z8 ?_|refine z4 ?_ _));exact BK103.out) hb);have n3_:=z3.mk (zb (by repeat (first|(with_reducible first|exact HB.out|apply z2|apply z0|apply z1|refine z6 ?_ GE101.out|refine z6 ?_ GE102.out|refine z6 ?_ GE103.out)|exact HB.out)) hb);have n4_:=z3.mk (hbox);have n5_:=z3.mk ((by rw [hg];exact (zc (by repeat (first|(with_reducible first|exact HB.out|apply z2|apply z0|apply z1|refine z6 ?_ GE101.out|refine z6 ?_ GE102.out|refine z6 ?_ GE103.out)|exact HB.out))) : w.heap.size ≤ gb104));have n6_:=z3.mk ((by rw [hg];exact (zc (by repeat (first|(with_reducible first|exact HB.out|apply z2|apply z0|apply z1|refine z6 ?_ GE101.out|refine z6 ?_ GE102.out|refine z6 ?_ GE103.out)|exact HB.out))) : w.heap.size ≤ gb104));have n7_:=z3.mk ((by rw [hg];exact Nat.ne_of_lt (zO (g:=gb101) (o:=.cells #[.int .u64 a0_0,.int .u64 a0_1] 61 (0,0)) (by (with_reducible repeat (first|refine z5 ?_ _|refine z8 ?_|refine z4 ?_ _));exact BK101.out)) : gb101 ≠ gb104));have n8_:=z3.mk ((by rw [hg];exact Nat.ne_of_gt (zO (g:=gb101) (o:=.cells #[.int .u64 a0_0,.int .u64 a0_1] 61 (0,0)) (by (with_reducible repeat (first|refine z5 ?_ _|refine z8 ?_|refine z4 ?_ _));exact BK101.out)) : gb104 ≠ gb101));have n9_:=z3.mk ((by rw [hg];exact Nat.ne_of_lt (zO (g:=gb102) (o:=.cells #[.int .u64 a1_0,.int .u64 a1_1] 61 (0,0)) (by (with_reducible repeat (first|refine z5 ?_ _|refine z8 ?_|refine z4 ?_ _));exact BK102.out)) : gb102 ≠ gb104));have n10_:=z3.mk ((by rw [hg];exact Nat.ne_of_gt (zO (g:=gb102) (o:=.cells #[.int .u64 a1_0,.int .u64 a1_1] 61 (0,0)) (by (with_reducible repeat (first|refine z5 ?_ _|refine z8 ?_|refine z4 ?_ _));exact BK102.out)) : gb104 ≠ gb102));have n11_:=z3.mk ((by rw [hg];exact Nat.ne_of_lt (zO (g:=gb103) (o:=.cells #[.int .u64 0,.int .u64 0] 61 (0,0)) (by (with_reducible repeat (first|refine z5 ?_ _|refine z8 ?_|refine z4 ?_ _));exact BK103.out)) : gb103 ≠ gb104));have n12_:=z3.mk ((by rw [hg];exact Nat.ne_of_gt (zO (g:=gb103) (o:=.cells #[.int .u64 0,.int .u64 0] 61 (0,0)) (by (with_reducible repeat (first|refine z5 ?_ _|refine z8 ?_|refine z4 ?_ _));exact BK103.out)) : gb104 ≠ gb103));clear BK101;clear BK102;clear BK103;clear HB;have BK101:=n0_;have BK102:=n1_;have BK103:=n2_;have HB:=n3_;have BK104:=n4_;have GW104:=n5_;have GE104:=n6_;have NB101_104:=n7_;have NB104_101:=n8_;have NB102_104:=n9_;have NB104_102:=n10_;have NB103_104:=n11_;have NB104_103:=n12_;clear n0_ n1_ n2_ n3_ n4_ n5_ n6_ n7_ n8_ n9_ n10_ n11_ n12_;clear hb hbox hg))
 go_loopg [6] k (fun kq v6 w'=>∃ (x6_1 : Int) (x105000_1 : Int) (x105001_1 : Int),v6 = .int .i64 x6_1 ∧ z3 (zi.l0 kq x6_1 a0_0 a0_1 a1_0 a1_1 x105000_1 x105001_1 = some (r1,r2)) ∧ z3 (kq ≤ k) ∧ z3 (w'.heap[gb101]? = some (.cells #[.int .u64 a0_0,.int .u64 a0_1] 61 (0,0))) ∧ z3 (w'.heap[gb102]? = some (.cells #[.int .u64 a1_0,.int .u64 a1_1] 61 (0,0))) ∧ z3 (w'.heap[gb103]? = some (.cells #[.int .u64 0,.int .u64 0] 61 (0,0))) ∧ z3 (w'.heap[gb104]? = some (.cells #[.int .u64 x105000_1,.int .u64 x105001_1] 61 (0,0))) ∧ z3 (Below w.heap.size w w'))
 case atStart=>exact ⟨(0),(0),(0),(by first|rfl|(simp;done)|(simp [*];done)),H',⟨Nat.le_refl _⟩,⟨by (with_reducible repeat (first|refine z5 ?_ _|refine z8 ?_|refine z4 ?_ _));exact BK101.out⟩,⟨by (with_reducible repeat (first|refine z5 ?_ _|refine z8 ?_|refine z4 ?_ _));exact BK102.out⟩,⟨by (with_reducible repeat (first|refine z5 ?_ _|refine z8 ?_|refine z4 ?_ _));exact BK103.out⟩,⟨by (with_reducible repeat (first|refine z5 ?_ _|refine z8 ?_|refine z4 ?_ _));exact BK104.out⟩,⟨by repeat (first|(with_reducible first|exact HB.out|apply z2|apply z0|apply z1|refine z6 ?_ GE101.out|refine z6 ?_ GE102.out|refine z6 ?_ GE103.out|refine z6 ?_ GE104.out)|exact HB.out)⟩⟩
 case round =>
  clear H'
  (try clear p2)
  obtain ⟨x6_1,x105000_1,x105001_1,rfl,HA,HK1,BK101,BK102,BK103,BK104,HB⟩:=hrel
  cases gk with
  | zero=>exact absurd HA.out (by simp [zi.l0])
  | succ k1 =>
   have H:=HA.out
   clear HA
   simp only [zi.l0] at H
   by_cases c7 : x6_1 < 128
   rotate_left
   · rw [if_neg c7] at H
     have c7b0 : decide (x6_1 < 128) = false:=decide_eq_false c7
     clear c7
     simp only [Option.some.injEq,Prod.mk.injEq] at H
     obtain ⟨rfl,rfl⟩:=H
     have hnb54:=NB104_101.out
     have hnc54:=NB101_104.out
     have hnb55:=NB104_102.out
     have hnc55:=NB102_104.out
     have hnb56:=NB104_103.out
     have hnc56:=NB103_104.out
     have hcz57_0 : wr.cell? ⟨gb104,0,none⟩ = some (.int .u64 x105000_1):=(ze BK104.out 0).trans rfl
     have hcz57_1 : wr.cell? ⟨gb104,1,none⟩ = some (.int .u64 x105001_1):=(ze BK104.out 1).trans rfl
     have hfz57_0:=zd BK104.out 0
     have hfz57_1:=zd BK104.out 1
     have hnb58:=NB103_101.out
     have hnc58:=NB101_103.out
     have hnb59:=NB103_102.out
     have hnc59:=NB102_103.out
     have hcz60_0 : wr.cell? ⟨gb103,0,none⟩ = some (.int .u64 0):=(ze BK103.out 0).trans rfl
     have hcz60_1 : wr.cell? ⟨gb103,1,none⟩ = some (.int .u64 0):=(ze BK103.out 1).trans rfl
     have hfz60_0:=zd BK103.out 0
     have hfz60_1:=zd BK103.out 1
     go_wp2
     refine bodyPost_ret (results_cell_row rfl _ _ gb103 61 #[.int .u64 x105000_1,.int .u64 x105001_1] (0,0) _ rfl (by (with_reducible repeat (first|refine z5 ?_ _|refine z8 ?_|refine z4 ?_ _));refine zN (cs:=#[.int .u64 x105000_1,.int .u64 0]) ?_ 1 _ rfl;(with_reducible repeat (first|refine z5 ?_ _|refine z8 ?_|refine z4 ?_ _));refine zN (cs:=#[.int .u64 0,.int .u64 0]) ?_ 0 _ rfl;(with_reducible repeat (first|refine z5 ?_ _|refine z8 ?_|refine z4 ?_ _));exact BK103.out) Try.underlying61 rfl (by kernel_rfl)) rfl ?_
     exact ⟨by first|rfl|(simp [zg,zh] <;> rfl)|(simp [*,zg,zh] <;> rfl),by repeat (first|(with_reducible first|exact HB.out|apply z2|apply z0|apply z1|refine z6 ?_ GE101.out|refine z6 ?_ GE102.out|refine z6 ?_ GE103.out|refine z6 ?_ GE104.out)|exact HB.out)⟩
   rw [if_pos c7] at H
   have c7b0 : decide (x6_1 < 128) = true:=decide_eq_true c7
   clear c7
   replace H:=Option.bind_eq_some_iff.mp H
   obtain ⟨t105,A80,H⟩:=H
   replace H : (if t105 = true then (zi.l1 k1 x6_1 0 a0_0 a0_1 a1_0 a1_1 x105000_1 x105001_1 a0_0 a0_1) else (zi.l0 k1 (wrap64 (x6_1 + 1)) a0_0 a0_1 a1_0 a1_1 x105000_1 x105001_1)) = some (r1,r2):=H
   have A8:=z3.mk A80
   clear A80
   by_cases c9 : t105 = true
   rotate_left
   · replace c9:=Bool.eq_false_iff.mpr c9
     subst c9
     have H1 : (zi.l0 k1 (wrap64 (x6_1 + 1)) a0_0 a0_1 a1_0 a1_1 x105000_1 x105001_1) = some (r1,r2):=by rw [if_neg (show ¬ (false = true) by decide)] at H;exact H
     clear H
     have H:=H1
     clear H1
     have H':=z3.mk H
     clear H
     have hnb49:=NB102_101.out
     have hnc49:=NB101_102.out
     have hnb50:=NB102_103.out
     have hnc50:=NB103_102.out
     have hnb51:=NB102_104.out
     have hnc51:=NB104_102.out
     have hcz52_0 : wr.cell? ⟨gb102,0,none⟩ = some (.int .u64 a1_0):=(ze BK102.out 0).trans rfl
     have hcz52_1 : wr.cell? ⟨gb102,1,none⟩ = some (.int .u64 a1_1):=(ze BK102.out 1).trans rfl
     have hfz52_0:=zd BK102.out 0
     have hfz52_1:=zd BK102.out 1
     go_wp2_with (first|((with_reducible refine zl (f:=73) rfl ?_);refine goesL_ (some 15) rfl rfl Try.func73 (by kernel_rfl) rfl #[.agg #[.int .u64 a1_0,.int .u64 a1_1],.int .i64 x6_1] rfl (by (try simp only [List.map_toArray,List.map_cons,List.map_nil]);first|done|rfl|(simp only [List.length_drop,List.length_take];rfl)) ?_;(with_reducible refine (zv.calls k1 a1_0 a1_1 x6_1 false _ A8.out).mono ?_);rintro e w53 ⟨rfl,hb⟩;refine ⟨_,rfl,?_⟩;have n0_:=z3.mk (zn (g:=gb101) (o:=.cells #[.int .u64 a0_0,.int .u64 a0_1] 61 (0,0)) (by (with_reducible repeat (first|refine z5 ?_ _|refine z8 ?_|refine z4 ?_ _));exact BK101.out) hb);have n1_:=z3.mk (zn (g:=gb102) (o:=.cells #[.int .u64 a1_0,.int .u64 a1_1] 61 (0,0)) (by (with_reducible repeat (first|refine z5 ?_ _|refine z8 ?_|refine z4 ?_ _));exact BK102.out) hb);have n2_:=z3.mk (zn (g:=gb103) (o:=.cells #[.int .u64 0,.int .u64 0] 61 (0,0)) (by (with_reducible repeat (first|refine z5 ?_ _|refine z8 ?_|refine z4 ?_ _));exact BK103.out) hb);have n3_:=z3.mk (zn (g:=gb104) (o:=.cells #[.int .u64 x105000_1,.int .u64 x105001_1] 61 (0,0)) (by (with_reducible repeat (first|refine z5 ?_ _|refine z8 ?_|refine z4 ?_ _));exact BK104.out) hb);have n4_:=z3.mk (zb (by repeat (first|(with_reducible first|exact HB.out|apply z2|apply z0|apply z1|refine z6 ?_ GE101.out|refine z6 ?_ GE102.out|refine z6 ?_ GE103.out|refine z6 ?_ GE104.out)|exact HB.out)) hb);clear BK101;clear BK102;clear BK103;clear BK104;clear HB;have BK101:=n0_;have BK102:=n1_;have BK103:=n2_;have BK104:=n3_;have HB:=n4_;clear n0_ n1_ n2_ n3_ n4_;(try clear hb);(try clear hb2);(try clear hk);(try clear hi)))
     go_roundg k1
     case measure=>have:=HK1.out;omega
     case rel=>exact ⟨(wrap64 (x6_1 + 1)),(x105000_1),(x105001_1),(by first|rfl|(simp;done)|(simp [*];done)),H',⟨by have:=HK1.out;omega⟩,⟨by (with_reducible repeat (first|refine z5 ?_ _|refine z8 ?_|refine z4 ?_ _));exact BK101.out⟩,⟨by (with_reducible repeat (first|refine z5 ?_ _|refine z8 ?_|refine z4 ?_ _));exact BK102.out⟩,⟨by (with_reducible repeat (first|refine z5 ?_ _|refine z8 ?_|refine z4 ?_ _));exact BK103.out⟩,⟨by (with_reducible repeat (first|refine z5 ?_ _|refine z8 ?_|refine z4 ?_ _));exact BK104.out⟩,⟨by repeat (first|(with_reducible first|exact HB.out|apply z2|apply z0|apply z1|refine z6 ?_ GE101.out|refine z6 ?_ GE102.out|refine z6 ?_ GE103.out|refine z6 ?_ GE104.out)|exact HB.out)⟩⟩
   subst c9
   have H1 : (zi.l1 k1 x6_1 0 a0_0 a0_1 a1_0 a1_1 x105000_1 x105001_1 a0_0 a0_1) = some (r1,r2):=by rw [if_pos rfl] at H;exact H
   clear H
   have H:=H1
   clear H1
   have H':=z3.mk H
   clear H
   have hnb10:=NB102_101.out
   have hnc10:=NB101_102.out
   have hnb11:=NB102_103.out
   have hnc11:=NB103_102.out
   have hnb12:=NB102_104.out
   have hnc12:=NB104_102.out
   have hcz13_0 : wr.cell? ⟨gb102,0,none⟩ = some (.int .u64 a1_0):=(ze BK102.out 0).trans rfl
   have hcz13_1 : wr.cell? ⟨gb102,1,none⟩ = some (.int .u64 a1_1):=(ze BK102.out 1).trans rfl
   have hfz13_0:=zd BK102.out 0
   have hfz13_1:=zd BK102.out 1
   go_wp2_with (first|((with_reducible refine zl (f:=73) rfl ?_);refine goesL_ (some 15) rfl rfl Try.func73 (by kernel_rfl) rfl #[.agg #[.int .u64 a1_0,.int .u64 a1_1],.int .i64 x6_1] rfl (by (try simp only [List.map_toArray,List.map_cons,List.map_nil]);first|done|rfl|(simp only [List.length_drop,List.length_take];rfl)) ?_;(with_reducible refine (zv.calls k1 a1_0 a1_1 x6_1 true _ A8.out).mono ?_);rintro e w14 ⟨rfl,hb⟩;refine ⟨_,rfl,?_⟩;have n0_:=z3.mk (zn (g:=gb101) (o:=.cells #[.int .u64 a0_0,.int .u64 a0_1] 61 (0,0)) (by (with_reducible repeat (first|refine z5 ?_ _|refine z8 ?_|refine z4 ?_ _));exact BK101.out) hb);have n1_:=z3.mk (zn (g:=gb102) (o:=.cells #[.int .u64 a1_0,.int .u64 a1_1] 61 (0,0)) (by (with_reducible repeat (first|refine z5 ?_ _|refine z8 ?_|refine z4 ?_ _));exact BK102.out) hb);have n2_:=z3.mk (zn (g:=gb103) (o:=.cells #[.int .u64 0,.int .u64 0] 61 (0,0)) (by (with_reducible repeat (first|refine z5 ?_ _|refine z8 ?_|refine z4 ?_ _));exact BK103.out) hb);have n3_:=z3.mk (zn (g:=gb104) (o:=.cells #[.int .u64 x105000_1,.int .u64 x105001_1] 61 (0,0)) (by (with_reducible repeat (first|refine z5 ?_ _|refine z8 ?_|refine z4 ?_ _));exact BK104.out) hb);have n4_:=z3.mk (zb (by repeat (first|(with_reducible first|exact HB.out|apply z2|apply z0|apply z1|refine z6 ?_ GE101.out|refine z6 ?_ GE102.out|refine z6 ?_ GE103.out|refine z6 ?_ GE104.out)|exact HB.out)) hb);clear BK101;clear BK102;clear BK103;clear BK104;clear HB;have BK101:=n0_;have BK102:=n1_;have BK103:=n2_;have BK104:=n3_;have HB:=n4_;clear n0_ n1_ n2_ n3_ n4_;(try clear hb);(try clear hb2);(try clear hk);(try clear hi);have hnb15:=NB101_103.out;have hnc15:=NB103_101.out;have hnb16:=NB101_104.out;have hnc16:=NB104_101.out;have hcz17_0 : w14.cell? ⟨gb101,0,none⟩ = some (.int .u64 a0_0):=(ze BK101.out 0).trans rfl;have hcz17_1 : w14.cell? ⟨gb101,1,none⟩ = some (.int .u64 a0_1):=(ze BK101.out 1).trans rfl;have hfz17_0:=zd BK101.out 0;have hfz17_1:=zd BK101.out 1)|((with_reducible refine zE (N:=7) rfl ?_);refine zC ?hg (N:=7) ?hd (cs:=#[.int .u64 0,.int .u64 0]) (t:=61) ?hr ?_;(case hd=>rfl);(case hg=>rfl);(case hr=>first|(go_simp;done)|(go_simp;rfl));intro gb106 hg w18 hbox hb;have n0_:=z3.mk (zn (g:=gb101) (o:=.cells #[.int .u64 a0_0,.int .u64 a0_1] 61 (0,0)) (by (with_reducible repeat (first|refine z5 ?_ _|refine z8 ?_|refine z4 ?_ _));exact BK101.out) hb);have n1_:=z3.mk (zn (g:=gb102) (o:=.cells #[.int .u64 a1_0,.int .u64 a1_1] 61 (0,0)) (by (with_reducible repeat (first|refine z5 ?_ _|refine z8 ?_|refine z4 ?_ _));exact BK102.out) hb);have n2_:=z3.mk (zn (g:=gb103) (o:=.cells #[.int .u64 0,.int .u64 0] 61 (0,0)) (by (with_reducible repeat (first|refine z5 ?_ _|refine z8 ?_|refine z4 ?_ _));exact BK103.out) hb);have n3_:=z3.mk (zn (g:=gb104) (o:=.cells #[.int .u64 x105000_1,.int .u64 x105001_1] 61 (0,0)) (by (with_reducible repeat (first|refine z5 ?_ _|refine z8 ?_|refine z4 ?_ _));exact BK104.out) hb);have n4_:=z3.mk (zb (by repeat (first|(with_reducible first|exact HB.out|apply z2|apply z0|apply z1|refine z6 ?_ GE101.out|refine z6 ?_ GE102.out|refine z6 ?_ GE103.out|refine z6 ?_ GE104.out)|exact HB.out)) hb);have n5_:=z3.mk (hbox);have n6_:=z3.mk ((by rw [hg];exact (zc (by repeat (first|(with_reducible first|exact HB.out|apply z2|apply z0|apply z1|refine z6 ?_ GE101.out|refine z6 ?_ GE102.out|refine z6 ?_ GE103.out|refine z6 ?_ GE104.out)|exact HB.out))) : w.heap.size ≤ gb106));have n7_:=z3.mk ((by rw [hg];exact (zc (by repeat (first|(with_reducible first|exact HB.out|apply z2|apply z0|apply z1|refine z6 ?_ GE101.out|refine z6 ?_ GE102.out|refine z6 ?_ GE103.out|refine z6 ?_ GE104.out)|exact HB.out))) : w.heap.size ≤ gb106));have n8_:=z3.mk ((by rw [hg];exact Nat.ne_of_lt (zO (g:=gb101) (o:=.cells #[.int .u64 a0_0,.int .u64 a0_1] 61 (0,0)) (by (with_reducible repeat (first|refine z5 ?_ _|refine z8 ?_|refine z4 ?_ _));exact BK101.out)) : gb101 ≠ gb106));have n9_:=z3.mk ((by rw [hg];exact Nat.ne_of_gt (zO (g:=gb101) (o:=.cells #[.int .u64 a0_0,.int .u64 a0_1] 61 (0,0)) (by (with_reducible repeat (first|refine z5 ?_ _|refine z8 ?_|refine z4 ?_ _));exact BK101.out)) : gb106 ≠ gb101));have n10_:=z3.mk ((by rw [hg];exact Nat.ne_of_lt (zO (g:=gb102) (o:=.cells #[.int .u64 a1_0,.int .u64 a1_1] 61 (0,0)) (by (with_reducible repeat (first|refine z5 ?_ _|refine z8 ?_|refine z4 ?_ _));exact BK102.out)) : gb102 ≠ gb106));have n11_:=z3.mk ((by rw [hg];exact Nat.ne_of_gt (zO (g:=gb102) (o:=.cells #[.int .u64 a1_0,.int .u64 a1_1] 61 (0,0)) (by (with_reducible repeat (first|refine z5 ?_ _|refine z8 ?_|refine z4 ?_ _));exact BK102.out)) : gb106 ≠ gb102));have n12_:=z3.mk ((by rw [hg];exact Nat.ne_of_lt (zO (g:=gb103) (o:=.cells #[.int .u64 0,.int .u64 0] 61 (0,0)) (by (with_reducible repeat (first|refine z5 ?_ _|refine z8 ?_|refine z4 ?_ _));exact BK103.out)) : gb103 ≠ gb106));have n13_:=z3.mk ((by rw [hg];exact Nat.ne_of_gt (zO (g:=gb103) (o:=.cells #[.int .u64 0,.int .u64 0] 61 (0,0)) (by (with_reducible repeat (first|refine z5 ?_ _|refine z8 ?_|refine z4 ?_ _));exact BK103.out)) : gb106 ≠ gb103));have n14_:=z3.mk ((by rw [hg];exact Nat.ne_of_lt (zO (g:=gb104) (o:=.cells #[.int .u64 x105000_1,.int .u64 x105001_1] 61 (0,0)) (by (with_reducible repeat (first|refine z5 ?_ _|refine z8 ?_|refine z4 ?_ _));exact BK104.out)) : gb104 ≠ gb106));have n15_:=z3.mk ((by rw [hg];exact Nat.ne_of_gt (zO (g:=gb104) (o:=.cells #[.int .u64 x105000_1,.int .u64 x105001_1] 61 (0,0)) (by (with_reducible repeat (first|refine z5 ?_ _|refine z8 ?_|refine z4 ?_ _));exact BK104.out)) : gb106 ≠ gb104));clear BK101;clear BK102;clear BK103;clear BK104;clear HB;have BK101:=n0_;have BK102:=n1_;have BK103:=n2_;have BK104:=n3_;have HB:=n4_;have BK106:=n5_;have GW106:=n6_;have GE106:=n7_;have NB101_106:=n8_;have NB106_101:=n9_;have NB102_106:=n10_;have NB106_102:=n11_;have NB103_106:=n12_;have NB106_103:=n13_;have NB104_106:=n14_;have NB106_104:=n15_;clear n0_ n1_ n2_ n3_ n4_ n5_ n6_ n7_ n8_ n9_ n10_ n11_ n12_ n13_ n14_ n15_;clear hb hbox hg;have hnb19:=NB106_101.out;have hnc19:=NB101_106.out;have hnb20:=NB106_102.out;have hnc20:=NB102_106.out;have hnb21:=NB106_103.out;have hnc21:=NB103_106.out;have hnb22:=NB106_104.out;have hnc22:=NB104_106.out;have hcz23_0 : w18.cell? ⟨gb106,0,none⟩ = some (.int .u64 0):=(ze BK106.out 0).trans rfl;have hcz23_1 : w18.cell? ⟨gb106,1,none⟩ = some (.int .u64 0):=(ze BK106.out 1).trans rfl;have hfz23_0:=zd BK106.out 0;have hfz23_1:=zd BK106.out 1))
   go_loopg [8] k1 (fun kq v8 w'=>∃ (x8_2 : Int) (x107000_2 : Int) (x107001_2 : Int),v8 = .int .i64 x8_2 ∧ z3 (zi.l1 kq x6_1 x8_2 a0_0 a0_1 a1_0 a1_1 x105000_1 x105001_1 x107000_2 x107001_2 = some (r1,r2)) ∧ z3 (kq ≤ k1) ∧ z3 (w'.heap[gb101]? = some (.cells #[.int .u64 a0_0,.int .u64 a0_1] 61 (0,0))) ∧ z3 (w'.heap[gb102]? = some (.cells #[.int .u64 a1_0,.int .u64 a1_1] 61 (0,0))) ∧ z3 (w'.heap[gb103]? = some (.cells #[.int .u64 0,.int .u64 0] 61 (0,0))) ∧ z3 (w'.heap[gb104]? = some (.cells #[.int .u64 x105000_1,.int .u64 x105001_1] 61 (0,0))) ∧ z3 (w'.heap[gb106]? = some (.cells #[.int .u64 x107000_2,.int .u64 x107001_2] 61 (0,0))) ∧ z3 (Below w.heap.size w w'))
   case atStart=>exact ⟨(0),(a0_0),(a0_1),(by first|rfl|(simp;done)|(simp [*];done)),H',⟨Nat.le_refl _⟩,⟨by (with_reducible repeat (first|refine z5 ?_ _|refine z8 ?_|refine z4 ?_ _));refine z1p ?_ NB101_106.out _;(with_reducible repeat (first|refine z5 ?_ _|refine z8 ?_|refine z4 ?_ _));refine z1p ?_ NB101_106.out _;(with_reducible repeat (first|refine z5 ?_ _|refine z8 ?_|refine z4 ?_ _));exact BK101.out⟩,⟨by (with_reducible repeat (first|refine z5 ?_ _|refine z8 ?_|refine z4 ?_ _));refine z1p ?_ NB102_106.out _;(with_reducible repeat (first|refine z5 ?_ _|refine z8 ?_|refine z4 ?_ _));refine z1p ?_ NB102_106.out _;(with_reducible repeat (first|refine z5 ?_ _|refine z8 ?_|refine z4 ?_ _));exact BK102.out⟩,⟨by (with_reducible repeat (first|refine z5 ?_ _|refine z8 ?_|refine z4 ?_ _));refine z1p ?_ NB103_106.out _;(with_reducible repeat (first|refine z5 ?_ _|refine z8 ?_|refine z4 ?_ _));refine z1p ?_ NB103_106.out _;(with_reducible repeat (first|refine z5 ?_ _|refine z8 ?_|refine z4 ?_ _));exact BK103.out⟩,⟨by (with_reducible repeat (first|refine z5 ?_ _|refine z8 ?_|refine z4 ?_ _));refine z1p ?_ NB104_106.out _;(with_reducible repeat (first|refine z5 ?_ _|refine z8 ?_|refine z4 ?_ _));refine z1p ?_ NB104_106.out _;(with_reducible repeat (first|refine z5 ?_ _|refine z8 ?_|refine z4 ?_ _));exact BK104.out⟩,⟨by (with_reducible repeat (first|refine z5 ?_ _|refine z8 ?_|refine z4 ?_ _));refine zN (cs:=#[.int .u64 a0_0,.int .u64 0]) ?_ 1 _ rfl;(with_reducible repeat (first|refine z5 ?_ _|refine z8 ?_|refine z4 ?_ _));refine zN (cs:=#[.int .u64 0,.int .u64 0]) ?_ 0 _ rfl;(with_reducible repeat (first|refine z5 ?_ _|refine z8 ?_|refine z4 ?_ _));exact BK106.out⟩,⟨by repeat (first|(with_reducible first|exact HB.out|apply z2|apply z0|apply z1|refine z6 ?_ GE101.out|refine z6 ?_ GE102.out|refine z6 ?_ GE103.out|refine z6 ?_ GE104.out|refine z6 ?_ GE106.out)|exact HB.out)⟩⟩
   case round =>
    clear H'
    (try clear c1);(try clear c2);(try clear p2);(try clear p6);(try clear c7);(try clear c7b0);(try clear c9);(try clear c10);(try clear c11);(try clear c12);(try clear c15);(try clear c16);(try clear c19);(try clear c20);(try clear c21);(try clear c22);(try clear hcz13_0);(try clear hcz13_1);(try clear hcz17_0);(try clear hcz17_1);(try clear hcz23_0);(try clear hcz23_1);(try clear hfz13_0);(try clear hfz13_1);(try clear hfz17_0);(try clear hfz17_1);(try clear hfz23_0);(try clear hfz23_1);(try clear p2)
    obtain ⟨x8_2,x107000_2,x107001_2,rfl,HA,HK2,BK101,BK102,BK103,BK104,BK106,HB⟩:=hrel
    cases gk with
    | zero=>exact absurd HA.out (by simp [zi.l1])
    | succ k2 =>
     have H:=HA.out
     clear HA
     simp only [zi.l1] at H
     by_cases c24 : x8_2 < 7
     rotate_left
     · rw [if_neg c24] at H
       have c24b0 : decide (x8_2 < 7) = false:=decide_eq_false c24
       clear c24
       replace H:=Option.bind_eq_some_iff.mp H
       obtain ⟨⟨t109,t110⟩,A370,H⟩:=H
       replace H : (zi.l0 k2 (wrap64 (x6_1 + 1)) a0_0 a0_1 a1_0 a1_1 t109 t110) = some (r1,r2):=H
       have A37:=z3.mk A370
       clear A370
       have H':=z3.mk H
       clear H
       have hnb38:=NB104_101.out
       have hnc38:=NB101_104.out
       have hnb39:=NB104_102.out
       have hnc39:=NB102_104.out
       have hnb40:=NB104_103.out
       have hnc40:=NB103_104.out
       have hnb41:=NB104_106.out
       have hnc41:=NB106_104.out
       have hcz42_0 : wr.cell? ⟨gb104,0,none⟩ = some (.int .u64 x105000_1):=(ze BK104.out 0).trans rfl
       have hcz42_1 : wr.cell? ⟨gb104,1,none⟩ = some (.int .u64 x105001_1):=(ze BK104.out 1).trans rfl
       have hfz42_0:=zd BK104.out 0
       have hfz42_1:=zd BK104.out 1
       have hnb43:=NB106_101.out
       have hnc43:=NB101_106.out
       have hnb44:=NB106_102.out
       have hnc44:=NB102_106.out
       have hnb45:=NB106_103.out
       have hnc45:=NB103_106.out
       have hcz46_0 : wr.cell? ⟨gb106,0,none⟩ = some (.int .u64 x107000_2):=(ze BK106.out 0).trans rfl
       have hcz46_1 : wr.cell? ⟨gb106,1,none⟩ = some (.int .u64 x107001_2):=(ze BK106.out 1).trans rfl
       have hfz46_0:=zd BK106.out 0
       have hfz46_1:=zd BK106.out 1
       go_wp2_with (first|((with_reducible refine zl (f:=74) rfl ?_);refine goesL_ (some 33) rfl rfl Try.func74 (by kernel_rfl) rfl #[.agg #[.int .u64 x105000_1,.int .u64 x105001_1],.agg #[.int .u64 x107000_2,.int .u64 x107001_2]] rfl (by (try simp only [List.map_toArray,List.map_cons,List.map_nil]);first|done|rfl|(simp only [List.length_drop,List.length_take];rfl)) ?_;(with_reducible refine (zJ.calls x105000_1 x105001_1 x107000_2 x107001_2 t109 t110 _ A37.out).mono ?_);rintro e w47 ⟨rfl,hb⟩;refine ⟨_,rfl,?_⟩;have n0_:=z3.mk (zn (g:=gb101) (o:=.cells #[.int .u64 a0_0,.int .u64 a0_1] 61 (0,0)) (by (with_reducible repeat (first|refine z5 ?_ _|refine z8 ?_|refine z4 ?_ _));exact BK101.out) hb);have n1_:=z3.mk (zn (g:=gb102) (o:=.cells #[.int .u64 a1_0,.int .u64 a1_1] 61 (0,0)) (by (with_reducible repeat (first|refine z5 ?_ _|refine z8 ?_|refine z4 ?_ _));exact BK102.out) hb);have n2_:=z3.mk (zn (g:=gb103) (o:=.cells #[.int .u64 0,.int .u64 0] 61 (0,0)) (by (with_reducible repeat (first|refine z5 ?_ _|refine z8 ?_|refine z4 ?_ _));exact BK103.out) hb);have n3_:=z3.mk (zn (g:=gb104) (o:=.cells #[.int .u64 x105000_1,.int .u64 x105001_1] 61 (0,0)) (by (with_reducible repeat (first|refine z5 ?_ _|refine z8 ?_|refine z4 ?_ _));exact BK104.out) hb);have n4_:=z3.mk (zn (g:=gb106) (o:=.cells #[.int .u64 x107000_2,.int .u64 x107001_2] 61 (0,0)) (by (with_reducible repeat (first|refine z5 ?_ _|refine z8 ?_|refine z4 ?_ _));exact BK106.out) hb);have n5_:=z3.mk (zb (by repeat (first|(with_reducible first|exact HB.out|apply z2|apply z0|apply z1|refine z6 ?_ GE101.out|refine z6 ?_ GE102.out|refine z6 ?_ GE103.out|refine z6 ?_ GE104.out|refine z6 ?_ GE106.out)|exact HB.out)) hb);clear BK101;clear BK102;clear BK103;clear BK104;clear BK106;clear HB;have BK101:=n0_;have BK102:=n1_;have BK103:=n2_;have BK104:=n3_;have BK106:=n4_;have HB:=n5_;clear n0_ n1_ n2_ n3_ n4_ n5_;(try clear hb);(try clear hb2);(try clear hk);(try clear hi);have hcz48_0 : w47.cell? ⟨gb104,0,none⟩ = some (.int .u64 x105000_1):=(ze BK104.out 0).trans rfl;have hcz48_1 : w47.cell? ⟨gb104,1,none⟩ = some (.int .u64 x105001_1):=(ze BK104.out 1).trans rfl;have hfz48_0:=zd BK104.out 0;have hfz48_1:=zd BK104.out 1))
       go_roundg k2
       case measure=>have:=HK1.out;have:=HK2.out;omega
       case rel=>exact ⟨(wrap64 (x6_1 + 1)),(t109),(t110),(by first|rfl|(simp;done)|(simp [*];done)),H',⟨by have:=HK1.out;have:=HK2.out;omega⟩,⟨by (with_reducible repeat (first|refine z5 ?_ _|refine z8 ?_|refine z4 ?_ _));refine z1p ?_ NB101_104.out _;(with_reducible repeat (first|refine z5 ?_ _|refine z8 ?_|refine z4 ?_ _));refine z1p ?_ NB101_104.out _;(with_reducible repeat (first|refine z5 ?_ _|refine z8 ?_|refine z4 ?_ _));exact BK101.out⟩,⟨by (with_reducible repeat (first|refine z5 ?_ _|refine z8 ?_|refine z4 ?_ _));refine z1p ?_ NB102_104.out _;(with_reducible repeat (first|refine z5 ?_ _|refine z8 ?_|refine z4 ?_ _));refine z1p ?_ NB102_104.out _;(with_reducible repeat (first|refine z5 ?_ _|refine z8 ?_|refine z4 ?_ _));exact BK102.out⟩,⟨by (with_reducible repeat (first|refine z5 ?_ _|refine z8 ?_|refine z4 ?_ _));refine z1p ?_ NB103_104.out _;(with_reducible repeat (first|refine z5 ?_ _|refine z8 ?_|refine z4 ?_ _));refine z1p ?_ NB103_104.out _;(with_reducible repeat (first|refine z5 ?_ _|refine z8 ?_|refine z4 ?_ _));exact BK103.out⟩,⟨by (with_reducible repeat (first|refine z5 ?_ _|refine z8 ?_|refine z4 ?_ _));refine zN (cs:=#[.int .u64 t109,.int .u64 x105001_1]) ?_ 1 _ rfl;(with_reducible repeat (first|refine z5 ?_ _|refine z8 ?_|refine z4 ?_ _));refine zN (cs:=#[.int .u64 x105000_1,.int .u64 x105001_1]) ?_ 0 _ rfl;(with_reducible repeat (first|refine z5 ?_ _|refine z8 ?_|refine z4 ?_ _));exact BK104.out⟩,⟨by repeat (first|(with_reducible first|exact HB.out|apply z2|apply z0|apply z1|refine z6 ?_ GE101.out|refine z6 ?_ GE102.out|refine z6 ?_ GE103.out|refine z6 ?_ GE104.out|refine z6 ?_ GE106.out)|exact HB.out)⟩⟩
     rw [if_pos c24] at H
     have c24b0 : decide (x8_2 < 7) = true:=decide_eq_true c24
     clear c24
     obtain ⟨ji25,hji25⟩ : ∃ j_ : Int,(IntKind.u64.wrap (x8_2)) = j_:=⟨_,rfl⟩
     replace H : (if 0 ≤ (ji25) then (if (Go.bits .and .i64 (shr .i64 x6_1 (ji25)) 1) = 1 then ((zw.f k2 x8_2 x107000_2 x107001_2).bind fun bt107=>(zi.l1 k2 x6_1 (wrap64 (x8_2 + 1)) a0_0 a0_1 a1_0 a1_1 x105000_1 x105001_1 bt107.1 bt107.2)) else (zi.l1 k2 x6_1 (wrap64 (x8_2 + 1)) a0_0 a0_1 a1_0 a1_1 x105000_1 x105001_1 x107000_2 x107001_2)) else (none)) = some (r1,r2):=by first|(rw [hji25] at H;exact H)|(simp only [hji25] at H ⊢;exact H)
     by_cases c26 : 0 ≤ (ji25)
     rotate_left
     · rw [if_neg c26] at H
       exact absurd H (by simp)
     rw [if_pos c26] at H
     have c26b0:=eq_true c26
     have c26b1 : decide (0 ≤ (ji25)) = true:=decide_eq_true c26
     clear c26
     obtain ⟨ji27,hji27⟩ : ∃ j_ : Int,(shr .i64 x6_1 (ji25)) = j_:=⟨_,rfl⟩
     replace H : (if (Go.bits .and .i64 (ji27) 1) = 1 then ((zw.f k2 x8_2 x107000_2 x107001_2).bind fun bt107=>(zi.l1 k2 x6_1 (wrap64 (x8_2 + 1)) a0_0 a0_1 a1_0 a1_1 x105000_1 x105001_1 bt107.1 bt107.2)) else (zi.l1 k2 x6_1 (wrap64 (x8_2 + 1)) a0_0 a0_1 a1_0 a1_1 x105000_1 x105001_1 x107000_2 x107001_2)) = some (r1,r2):=by first|(rw [hji27] at H;exact H)|(simp only [hji27] at H ⊢;exact H)
     have hji27_ : (x6_1 / 2 ^ min (ji25).toNat 64) = ji27:=hji27
     have hji27z : (ji25) ≤ 64 → (x6_1 / 2 ^ (ji25).toNat) = ji27:=z1B hji27
     by_cases c28 : (Go.bits .and .i64 (ji27) 1) = 1
     rotate_left
     · rw [if_neg c28] at H
       have c28b0 : ((Go.bits .and .i64 (ji27) 1) == 1) = false:=beq_eq_false_iff_ne.mpr c28
       have c28b1 : ((Go.bits .and .i64 (ji27) 1) != 1) = true:=bne_iff_ne.mpr c28
       have H':=z3.mk H
       clear H
       go_wp2
       go_roundg k2
       case measure=>have:=HK1.out;have:=HK2.out;omega
       case rel=>exact ⟨(wrap64 (x8_2 + 1)),(x107000_2),(x107001_2),(by first|rfl|(simp;done)|(simp [*];done)),H',⟨by have:=HK1.out;have:=HK2.out;omega⟩,⟨by (with_reducible repeat (first|refine z5 ?_ _|refine z8 ?_|refine z4 ?_ _));exact BK101.out⟩,⟨by (with_reducible repeat (first|refine z5 ?_ _|refine z8 ?_|refine z4 ?_ _));exact BK102.out⟩,⟨by (with_reducible repeat (first|refine z5 ?_ _|refine z8 ?_|refine z4 ?_ _));exact BK103.out⟩,⟨by (with_reducible repeat (first|refine z5 ?_ _|refine z8 ?_|refine z4 ?_ _));exact BK104.out⟩,⟨by (with_reducible repeat (first|refine z5 ?_ _|refine z8 ?_|refine z4 ?_ _));exact BK106.out⟩,⟨by repeat (first|(with_reducible first|exact HB.out|apply z2|apply z0|apply z1|refine z6 ?_ GE101.out|refine z6 ?_ GE102.out|refine z6 ?_ GE103.out|refine z6 ?_ GE104.out|refine z6 ?_ GE106.out)|exact HB.out)⟩⟩
     rw [if_pos c28] at H
     have c28b0 : ((Go.bits .and .i64 (ji27) 1) == 1) = true:=beq_iff_eq.mpr c28
     have c28b1 : ((Go.bits .and .i64 (ji27) 1) != 1) = false:=bne_eq_false_iff_eq.mpr c28
     clear c28
     replace H:=Option.bind_eq_some_iff.mp H
     obtain ⟨⟨t107,t108⟩,A290,H⟩:=H
     replace H : (zi.l1 k2 x6_1 (wrap64 (x8_2 + 1)) a0_0 a0_1 a1_0 a1_1 x105000_1 x105001_1 t107 t108) = some (r1,r2):=H
     have A29:=z3.mk A290
     clear A290
     have H':=z3.mk H
     clear H
     have hnb30:=NB106_101.out
     have hnc30:=NB101_106.out
     have hnb31:=NB106_102.out
     have hnc31:=NB102_106.out
     have hnb32:=NB106_103.out
     have hnc32:=NB103_106.out
     have hnb33:=NB106_104.out
     have hnc33:=NB104_106.out
     have hcz34_0 : wr.cell? ⟨gb106,0,none⟩ = some (.int .u64 x107000_2):=(ze BK106.out 0).trans rfl
     have hcz34_1 : wr.cell? ⟨gb106,1,none⟩ = some (.int .u64 x107001_2):=(ze BK106.out 1).trans rfl
     have hfz34_0:=zd BK106.out 0
     have hfz34_1:=zd BK106.out 1
     go_wp2_with (first|((with_reducible refine zl (f:=95) rfl ?_);refine goesL_ (some 30) rfl rfl Try.func95 (by kernel_rfl) rfl #[.int .i64 x8_2,.agg #[.int .u64 x107000_2,.int .u64 x107001_2]] rfl (by (try simp only [List.map_toArray,List.map_cons,List.map_nil]);first|done|rfl|(simp only [List.length_drop,List.length_take];rfl)) ?_;(with_reducible refine (zw.calls k2 x8_2 x107000_2 x107001_2 t107 t108 _ A29.out).mono ?_);rintro e w35 ⟨rfl,hb⟩;refine ⟨_,rfl,?_⟩;have n0_:=z3.mk (zn (g:=gb101) (o:=.cells #[.int .u64 a0_0,.int .u64 a0_1] 61 (0,0)) (by (with_reducible repeat (first|refine z5 ?_ _|refine z8 ?_|refine z4 ?_ _));exact BK101.out) hb);have n1_:=z3.mk (zn (g:=gb102) (o:=.cells #[.int .u64 a1_0,.int .u64 a1_1] 61 (0,0)) (by (with_reducible repeat (first|refine z5 ?_ _|refine z8 ?_|refine z4 ?_ _));exact BK102.out) hb);have n2_:=z3.mk (zn (g:=gb103) (o:=.cells #[.int .u64 0,.int .u64 0] 61 (0,0)) (by (with_reducible repeat (first|refine z5 ?_ _|refine z8 ?_|refine z4 ?_ _));exact BK103.out) hb);have n3_:=z3.mk (zn (g:=gb104) (o:=.cells #[.int .u64 x105000_1,.int .u64 x105001_1] 61 (0,0)) (by (with_reducible repeat (first|refine z5 ?_ _|refine z8 ?_|refine z4 ?_ _));exact BK104.out) hb);have n4_:=z3.mk (zn (g:=gb106) (o:=.cells #[.int .u64 x107000_2,.int .u64 x107001_2] 61 (0,0)) (by (with_reducible repeat (first|refine z5 ?_ _|refine z8 ?_|refine z4 ?_ _));exact BK106.out) hb);have n5_:=z3.mk (zb (by repeat (first|(with_reducible first|exact HB.out|apply z2|apply z0|apply z1|refine z6 ?_ GE101.out|refine z6 ?_ GE102.out|refine z6 ?_ GE103.out|refine z6 ?_ GE104.out|refine z6 ?_ GE106.out)|exact HB.out)) hb);clear BK101;clear BK102;clear BK103;clear BK104;clear BK106;clear HB;have BK101:=n0_;have BK102:=n1_;have BK103:=n2_;have BK104:=n3_;have BK106:=n4_;have HB:=n5_;clear n0_ n1_ n2_ n3_ n4_ n5_;(try clear hb);(try clear hb2);(try clear hk);(try clear hi);have hcz36_0 : w35.cell? ⟨gb106,0,none⟩ = some (.int .u64 x107000_2):=(ze BK106.out 0).trans rfl;have hcz36_1 : w35.cell? ⟨gb106,1,none⟩ = some (.int .u64 x107001_2):=(ze BK106.out 1).trans rfl;have hfz36_0:=zd BK106.out 0;have hfz36_1:=zd BK106.out 1))
     go_roundg k2
     case measure=>have:=HK1.out;have:=HK2.out;omega
     case rel=>exact ⟨(wrap64 (x8_2 + 1)),(t107),(t108),(by first|rfl|(simp;done)|(simp [*];done)),H',⟨by have:=HK1.out;have:=HK2.out;omega⟩,⟨by (with_reducible repeat (first|refine z5 ?_ _|refine z8 ?_|refine z4 ?_ _));refine z1p ?_ NB101_106.out _;(with_reducible repeat (first|refine z5 ?_ _|refine z8 ?_|refine z4 ?_ _));refine z1p ?_ NB101_106.out _;(with_reducible repeat (first|refine z5 ?_ _|refine z8 ?_|refine z4 ?_ _));exact BK101.out⟩,⟨by (with_reducible repeat (first|refine z5 ?_ _|refine z8 ?_|refine z4 ?_ _));refine z1p ?_ NB102_106.out _;(with_reducible repeat (first|refine z5 ?_ _|refine z8 ?_|refine z4 ?_ _));refine z1p ?_ NB102_106.out _;(with_reducible repeat (first|refine z5 ?_ _|refine z8 ?_|refine z4 ?_ _));exact BK102.out⟩,⟨by (with_reducible repeat (first|refine z5 ?_ _|refine z8 ?_|refine z4 ?_ _));refine z1p ?_ NB103_106.out _;(with_reducible repeat (first|refine z5 ?_ _|refine z8 ?_|refine z4 ?_ _));refine z1p ?_ NB103_106.out _;(with_reducible repeat (first|refine z5 ?_ _|refine z8 ?_|refine z4 ?_ _));exact BK103.out⟩,⟨by (with_reducible repeat (first|refine z5 ?_ _|refine z8 ?_|refine z4 ?_ _));refine z1p ?_ NB104_106.out _;(with_reducible repeat (first|refine z5 ?_ _|refine z8 ?_|refine z4 ?_ _));refine z1p ?_ NB104_106.out _;(with_reducible repeat (first|refine z5 ?_ _|refine z8 ?_|refine z4 ?_ _));exact BK104.out⟩,⟨by (with_reducible repeat (first|refine z5 ?_ _|refine z8 ?_|refine z4 ?_ _));refine zN (cs:=#[.int .u64 t107,.int .u64 x107001_2]) ?_ 1 _ rfl;(with_reducible repeat (first|refine z5 ?_ _|refine z8 ?_|refine z4 ?_ _));refine zN (cs:=#[.int .u64 x107000_2,.int .u64 x107001_2]) ?_ 0 _ rfl;(with_reducible repeat (first|refine z5 ?_ _|refine z8 ?_|refine z4 ?_ _));exact BK106.out⟩,⟨by repeat (first|(with_reducible first|exact HB.out|apply z2|apply z0|apply z1|refine z6 ?_ GE101.out|refine z6 ?_ GE102.out|refine z6 ?_ GE103.out|refine z6 ?_ GE104.out|refine z6 ?_ GE106.out)|exact HB.out)⟩⟩
end Go.Proofs.Ytngcaphdkgihmaa.P
/- The document's product of elements is the tower's. Own text. -/
namespace Go.Proofs.Ytngcaphdkgihmaa.Sp
open Go.RowKit Go.Proofs.YtngcaphdkgihmaaW.PrintWords Go.Proofs.YtngcaphdkgihmaaW.PrintMore Go.Proofs.Ytngcaphdkgihmaa.P Go.Proofs.Ytngcaphdkgihmaa.Ar Go.Proofs.Ytngcaphdkgihmaa.Tw
set_option linter.unusedVariables false
set_option linter.unusedSimpArgs false
theorem z5B : ∀ j : Nat, j < 6 → zP.f (j : Int) = some ((M j 6 : Nat) : Int) := by decide +kernel
theorem tw_lt {j v : Nat} (hj : j ≤ 6) (hv : v < Q 6) : tw 6 j v < Q 6 := by rw [tw_eq hj hv]; exact z17 _
theorem shlw (a w : Nat) (hw : w ≤ 64) : shl .u64 (a : Int) (w : Int) = (((a * 2 ^ w) % 2 ^ 64 : Nat) : Int) := by
  unfold shl
  have h64 : IntKind.u64.bits = 64 := rfl
  rw [h64, Int.toNat_natCast, Nat.min_eq_left hw]
  have hc : ((a : Int) * 2 ^ w) = ((a * 2 ^ w : Nat) : Int) := by simp
  rw [hc]
  simp [IntKind.wrap, IntKind.bits, IntKind.signed]
theorem z2l : ∀ (j : Nat), j ≤ 6 → ∀ (v : Nat), v < Q 6 → Ev (fun k => zp.f k ((j : Int) - 1) (v : Int)) ((tw 6 j v : Nat) : Int) := by
  intro j
  induction j with
  | zero =>
    intro _ v hv
    have h0 : (((0 : Nat) : Int) - 1) < 0 := by decide
    refine Ev.step (fun k => by rw [zp.f]) (Ev.pos h0 ?_)
    exact Ev.ret' rfl
  | succ j ih =>
    intro hj v hv
    have h32 := z1w (n := j) (by omega)
    have hw : IntKind.u64.wrap (((j + 1 : Nat) : Int) - 1) = (j : Int) := by rw [z24 (by omega) (by omega)]; omega
    have hw2 : wrap64 (((j + 1 : Nat) : Int) - 1 - 1) = (j : Int) - 1 := by rw [z1Q (by omega) (by omega)]; omega
    have hj1 : (((j + 1 : Nat) : Int) - 1) = (j : Int) := by omega
    have hQ6 : Q 6 = 2 ^ 64 := rfl
    have hM : M j 6 < 2 ^ 64 := by rw [← hQ6]; exact M_lt_Q (by omega)
    have hd : v / 2 ^ 2 ^ j < 2 ^ 64 := Nat.lt_of_le_of_lt (Nat.div_le_self _ _) hv
    have hhi : (v / 2 ^ 2 ^ j) &&& M j 6 < 2 ^ 64 := Nat.and_lt_two_pow _ hM
    have hlo : v &&& M j 6 < 2 ^ 64 := Nat.and_lt_two_pow _ hM
    have hrec := ih (by omega) _ hhi
    have htw : tw 6 j ((v / 2 ^ 2 ^ j) &&& M j 6) < 2 ^ 64 := tw_lt (by omega) hhi
    rw [hj1] at hw hw2 ⊢
    refine Ev.step (fun k => by rw [zp.f]) (Ev.neg (by omega) ?_)
    simp only [hw]
    refine Ev.pos (Int.natCast_nonneg _) (Ev.bnd0 (z5B j (by omega)) (Ev.bnd0 (z5B j (by omega)) ?_))
    simp only [z2j j (by omega), z2k v (2 ^ j) (by omega), z1N _ _ hd hM, z1N _ _ hv hM, hw2]
    refine Ev.bnd hrec (Ev.ret' ?_)
    rw [z1v _ _ hlo htw, shlw _ _ (by omega), z3v _ _ (Nat.mod_lt _ (by decide)) hhi]
    rfl
/-- The generator of a level, as an element of the greatest one. -/
def gE (m : Nat) : E := of 7 (val (gen m))
theorem tw_hi {j : Nat} (hj : j ≤ 6) (x : T 6) : tw 6 j (val x) = val (of 6 (val (gen j)) * x) := by rw [tw_eq hj (z17 x), z1s]
theorem Times_ev (j : Nat) (hj : j ≤ 6) (x : E) : Ev (fun k => zw.f k (j : Int) (hi x) (lo x)) (hi (gE (j + 1) * x), lo (gE (j + 1) * x)) := by
  unfold zw.f
  by_cases c : j < 6
  · refine Ev.pos (by omega) ?_
    have h1 := z2l (j + 1) (by omega) (val x.1) (z17 x.1)
    have h2 := z2l (j + 1) (by omega) (val x.2) (z17 x.2)
    rw [show (((j + 1 : Nat) : Int) - 1) = (j : Int) by omega] at h1 h2
    refine Ev.bnd h1 (Ev.bnd h2 (Ev.ret' ?_))
    have e : gE (j + 1) = up (of 6 (val (gen (j + 1)))) := z47 (Nat.lt_of_lt_of_le (z45 (j + 1)) (z2v (by omega)))
    rw [e, z2M, tw_hi (by omega), tw_hi (by omega)]; rfl
  · have : j = 6 := by omega
    subst this
    refine Ev.neg (by decide) ?_
    have h1 := z2l 6 (by omega) (val x.1) (z17 x.1)
    refine Ev.bnd h1 (Ev.ret' ?_)
    have e : gE 7 = gen 7 := z1s _
    have ev : of 6 (val (gen 6)) = gen 6 := z1s _
    rw [tw_hi (by omega), e, ev]
    unfold hi lo
    rw [z1v _ _ (z17 _) (z17 _), ← z1q]
    have m1 : (gen 7 * x).1 = x.2 + gen 6 * x.1 := by rw [z1I, z2c, z2d, one_mul, zero_mul, one_mul, add_zero]
    have m2 : (gen 7 * x).2 = x.1 := by rw [z1J, z2c, z2d, one_mul, zero_mul, zero_add]
    rw [m1, m2]
/-- The element with one bit. -/
def bitE (n : Nat) : E := of 7 (2 ^ n)
theorem z5i {n : Nat} (hn : n < 128) : hi (bitE n) = (if n < 64 then 0 else ((2 ^ (n - 64) : Nat) : Int)) ∧ lo (bitE n) = (if n < 64 then ((2 ^ n : Nat) : Int) else 0) := by
  unfold bitE hi lo
  rw [z1D, z1O, z1X]
  have hQ : Q 6 = 2 ^ 64 := rfl
  by_cases c : n < 64
  · have h1 : 2 ^ n < Q 6 := by rw [hQ]; exact Nat.pow_lt_pow_right (by decide) c
    rw [if_pos c, if_pos c, Nat.div_eq_of_lt h1, Nat.mod_eq_of_lt h1, z1F _ _ h1, z1P, z1r]; exact ⟨rfl, rfl⟩
  · have e : 2 ^ n = 2 ^ (n - 64) * Q 6 + 0 := by rw [hQ, ← Nat.pow_add, Nat.add_zero]; congr 1; omega
    have h2 : 2 ^ (n - 64) < Q 6 := by rw [hQ]; exact Nat.pow_lt_pow_right (by decide) (by omega)
    rw [if_neg c, if_neg c, e, z2q (z20 6), z2r (z20 6), z1F _ _ h2, z1P, z1r]; exact ⟨rfl, rfl⟩
theorem z3e (n : Nat) (hn : n < 128) : Ev (fun k => zj.f k (n : Int)) (hi (bitE n), lo (bitE n)) := by
  obtain ⟨h1, h2⟩ := z5i hn
  unfold zj.f
  refine Ev.neg (by omega) ?_
  rw [decide_eq_false (show ¬ ((n : Int) > 127) by omega), h1, h2]
  refine Ev.step (fun k => by rw [zj.j0]) (Ev.neg (by decide) ?_)
  by_cases c : n < 64
  · rw [if_pos c, if_pos c]
    refine Ev.neg (by omega) ?_
    rw [z24 (by omega) (by omega)]
    exact Ev.pos (Int.natCast_nonneg _) (Ev.ret' (by rw [z2j n (by omega)]))
  · rw [if_neg c, if_neg c]
    refine Ev.pos (by omega) ?_
    have e : IntKind.u64.wrap (wrap64 ((n : Int) - 64)) = ((n - 64 : Nat) : Int) := by
      rw [z1Q (by omega) (by omega), z24 (by omega) (by omega)]; omega
    rw [e]
    exact Ev.pos (Int.natCast_nonneg _) (Ev.ret' (by rw [z2j (n - 64) (by omega)]))
theorem z3s (x n : Nat) : (x &&& 2 ^ n ≠ 0) ↔ x.testBit n = true := by
  constructor
  · intro h
    cases hb : x.testBit n with
    | true => rfl
    | false =>
      exfalso; apply h
      apply Nat.eq_of_testBit_eq
      intro i
      rw [Nat.testBit_and, Nat.zero_testBit]
      by_cases e : i = n
      · subst e; rw [hb, Bool.false_and]
      · rw [Nat.testBit_two_pow_of_ne (by omega), Bool.and_false]
  · intro h e
    have := congrArg (fun z => z.testBit n) e
    simp only [Nat.testBit_and, Nat.testBit_two_pow_self, Bool.and_true, Nat.zero_testBit] at this
    rw [h] at this; cases this
theorem hasBits (x : E) (n : Nat) (hn : n < 128) : ((Go.bits .or .u64 (Go.bits .and .u64 (lo x) (lo (bitE n))) (Go.bits .and .u64 (hi x) (hi (bitE n)))) != 0) = (val x).testBit n := by
  obtain ⟨h1, h2⟩ := z5i hn
  have hx1 := z17 x.1
  have hx2 := z17 x.2
  have hQ : Q 6 = 2 ^ 64 := rfl
  rw [hQ] at hx1 hx2
  have hv : val x = 2 ^ 64 * val x.1 + val x.2 := by rw [z1o, hQ, Nat.mul_comm]
  rw [h1, h2, hv]
  unfold hi lo
  by_cases c : n < 64
  · rw [if_pos c, if_pos c]
    have hp : 2 ^ n < 2 ^ 64 := Nat.pow_lt_pow_right (by decide) c
    have z : (0 : Int) = ((0 : Nat) : Int) := rfl
    rw [z, z1N _ _ hx2 hp, z1N _ _ hx1 (by decide), z3v _ _ (Nat.and_lt_two_pow _ hp) (Nat.and_lt_two_pow _ (by decide)), Nat.and_zero, Nat.or_zero]
    rw [Nat.testBit_two_pow_mul_add _ hx2, if_pos c, Bool.eq_iff_iff, ← z3s, bne_iff_ne]
    exact ⟨fun h e => h (by rw [e]), fun h e => h (by exact_mod_cast e)⟩
  · rw [if_neg c, if_neg c]
    have hp : 2 ^ (n - 64) < 2 ^ 64 := Nat.pow_lt_pow_right (by decide) (by omega)
    have z : (0 : Int) = ((0 : Nat) : Int) := rfl
    rw [z, z1N _ _ hx1 hp, z1N _ _ hx2 (by decide), z3v _ _ (Nat.and_lt_two_pow _ (by decide)) (Nat.and_lt_two_pow _ hp), Nat.and_zero, Nat.zero_or]
    rw [Nat.testBit_two_pow_mul_add _ hx2, if_neg c, Bool.eq_iff_iff, ← z3s, bne_iff_ne]
    exact ⟨fun h e => h (by rw [e]), fun h e => h (by exact_mod_cast e)⟩
theorem z56 (x : E) (n : Nat) (hn : n < 128) : Ev (fun k => zv.f k (hi x) (lo x) (n : Int)) ((val x).testBit n) := by
  unfold zv.f
  exact Ev.bnd (z3e n hn) (Ev.ret' (hasBits x n hn))
theorem and_one (n j : Nat) (hn : n < 2 ^ 63) (hj : j ≤ 64) : Go.bits .and .i64 (shr .i64 (n : Int) (j : Int)) 1 = (((n / 2 ^ j) % 2 : Nat) : Int) := by
  rw [shr_i64 n j hj]
  have := z3Z (n / 2 ^ j) 1 (Nat.lt_of_le_of_lt (Nat.div_le_self _ _) hn) (by decide)
  simpa using this
theorem prod_l1 (a b acc : E) (n : Nat) (hn : n < 128) {R : Int × Int} (hk : Ev (fun k => zi.l0 k ((n + 1 : Nat) : Int) (hi a) (lo a) (hi b) (lo b) (hi (acc + gp 7 7 n * a)) (lo (acc + gp 7 7 n * a))) R) :
    ∀ (d j : Nat), j + d = 7 → Ev (fun k => zi.l1 k (n : Int) (j : Int) (hi a) (lo a) (hi b) (lo b) (hi acc) (lo acc) (hi (gp 7 j n * a)) (lo (gp 7 j n * a))) R := by
  intro d
  induction d with
  | zero =>
    intro j hj
    have : j = 7 := by omega
    subst this
    refine Ev.step (fun k => by rw [zi.l1]) (Ev.neg (by decide) (Ev.bnd0 (z3d acc _) ?_))
    simp only [z1x hn (by decide)]
    exact hk
  | succ d ih =>
    intro j hj
    have hu : IntKind.u64.wrap (j : Int) = (j : Int) := z24 (by omega) (by omega)
    have hih := ih (j + 1) (by omega)
    refine Ev.step (fun k => by rw [zi.l1]) (Ev.pos (by omega) ?_)
    simp only [hu, and_one n j (Nat.lt_trans hn (by decide)) (by omega), z1x (show j < 7 by omega) (by decide)]
    refine Ev.pos (Int.natCast_nonneg _) ?_
    have hgp : gp 7 (j + 1) n = (if n.testBit j then of 7 (val (gen (j + 1))) else 1) * gp 7 j n := rfl
    have htb : n.testBit j = decide ((n / 2 ^ j) % 2 = 1) := by rw [Nat.testBit_eq_decide_div_mod_eq]
    by_cases c : (n / 2 ^ j) % 2 = 1
    · refine Ev.pos (by omega) (Ev.bnd (Times_ev j (by omega) _) ?_)
      rw [hgp, htb, decide_eq_true c, if_pos rfl, mul_assoc] at hih
      exact hih
    · refine Ev.neg (by omega) ?_
      rw [hgp, htb, decide_eq_false c, if_neg (by decide), one_mul] at hih
      exact hih
theorem prod_l0 (a b : E) : ∀ (d n : Nat), n + d = 128 → Ev (fun k => zi.l0 k (n : Int) (hi a) (lo a) (hi b) (lo b) (hi (of 7 (val b % 2 ^ n) * a)) (lo (of 7 (val b % 2 ^ n) * a))) (hi (b * a), lo (b * a)) := by
  intro d
  induction d with
  | zero =>
    intro n hn
    have : n = 128 := by omega
    subst this
    have hb : val b % 2 ^ 128 = val b := Nat.mod_eq_of_lt (by have := z17 b; rw [z33] at this; exact this)
    rw [hb, z1s]
    exact Ev.step (fun k => by rw [zi.l0]) (Ev.neg (by decide) (Ev.ret _))
  | succ d ih =>
    intro n hn
    have hn' : n < 128 := by omega
    have hih := ih (n + 1) (by omega)
    rw [z4x (val b) n (z17 b) (by simpa using hn')] at hih
    refine Ev.step (fun k => by rw [zi.l0]) (Ev.pos (by omega) (Ev.bnd (z56 b n hn') ?_))
    cases c : (val b).testBit n with
    | true =>
      refine Ev.pos rfl ?_
      rw [c, if_pos rfl, add_mul, ← gp_bit 7 n (by simpa using hn')] at hih
      have := prod_l1 a b _ n hn' hih 7 0 (by omega)
      have e0 : gp 7 0 n * a = a := one_mul a
      rw [e0] at this
      exact this
    | false =>
      refine Ev.neg (by decide) ?_
      rw [c, if_neg (by decide), add_zero] at hih
      simp only [z1x hn' (by decide)]
      exact hih
theorem Product_ev (x y : E) : Ev (fun k => zi.f k (hi x) (lo x) (hi y) (lo y)) (hi (x * y), lo (x * y)) := by
  unfold zi.f
  have := prod_l0 x y 128 0 (by decide)
  rw [Nat.pow_zero, Nat.mod_one, z1P, zero_mul, z2e, z2g, mul_comm y x] at this
  exact this
end Go.Proofs.Ytngcaphdkgihmaa.Sp
/- Small elements gathered into great ones, and scattered: the document's way, bit by bit; and there and back. Own text. -/
namespace Go.Proofs.Ytngcaphdkgihmaa.Sp
open Go.RowKit Go.Proofs.YtngcaphdkgihmaaW.PrintWords Go.Proofs.YtngcaphdkgihmaaW.PrintMore Go.Proofs.Ytngcaphdkgihmaa.P Go.Proofs.Ytngcaphdkgihmaa.Ar Go.Proofs.Ytngcaphdkgihmaa.Tw
set_option linter.unusedVariables false
set_option linter.unusedSimpArgs false
theorem z1K (l : Nat) (h : l ≤ 7) : zt.f (l : Int) = some ((2 ^ l : Nat) : Int) := by
  unfold zt.f
  show (if 0 ≤ (l : Int) then (if (l : Int) < ((([1, 2, 4, 8, 16, 32, 64, 128] : List Int).length : Nat) : Int) then some (rd [1, 2, 4, 8, 16, 32, 64, 128] (l : Int)) else none) else none) = _
  rw [if_pos (Int.natCast_nonneg _), if_pos (by simp; omega), rdL l h]
theorem bitE_eq (n : Nat) : bitE n = of 7 (2 ^ n) := rfl
theorem z40 (v n : Nat) (hv : v < 2 ^ 128) (hn : n < 128) : of 7 (v % 2 ^ (n + 1)) = of 7 (v % 2 ^ n) + (if v.testBit n then bitE n else 0) := z4x (n := 7) v n (by rw [z33]; exact hv) (by simpa using hn)
theorem z4e {l t b m N : Nat} (hl7 : l ≤ 7) (ht7 : t ≤ 7) (eb : 2 ^ l = b) (eN : 2 ^ t = N) (hbm : b * m = N) (hb : 0 < b) (hb8 : b ≤ 128) (hN : N ≤ 128) (X : List E) (hX : X.length ≤ 1000000) (hA : AllS (l : Int) X) (A : List E) (hAl : A.length ≤ 1000000) (g gm : Nat) (egm : gm = g * m) (hg : gm + m ≤ X.length) (v : Nat) (ev : v = gv (fun j => val (X.getD (g * m + j) 0)) b m) (R : List S61 × Int)
    (h : Ev (fun q => za.l0 q (l : Int) (t : Int) (X.map toR) ((A ++ [of 7 v]).map toR) (m : Int) (wrap64 ((gm : Int) + (m : Int)))) R) :
    ∀ (d n : Nat), n + d = N → Ev (fun q => za.l1 q (l : Int) (t : Int) (X.map toR) (A.map toR) (m : Int) (gm : Int) (n : Int) (hi (of 7 (v % 2 ^ n))) (lo (of 7 (v % 2 ^ n)))) R := by
  have rb : zt.f (l : Int) = some (b : Int) := by rw [← eb]; exact z1K l hl7
  have rt : zt.f (t : Int) = some (N : Int) := by rw [← eN]; exact z1K t ht7
  have hf : ∀ j, val (X.getD (g * m + j) 0) < 2 ^ b := fun j => by rw [← eb]; exact z2I hA _
  have hlt2 := z4m (f := fun j => val (X.getD (g * m + j) 0)) (b := b) m (fun j _ => hf j)
  have hbit := z5t (f := fun j => val (X.getD (g * m + j) 0)) hb m (fun j _ => hf j)
  rw [hbm, ← ev] at hlt2 hbit
  have hv128 : v < 2 ^ 128 := Nat.lt_of_lt_of_le hlt2 (Nat.pow_le_pow_right (by decide) hN)
  have hlast : of 7 (v % 2 ^ N) = of 7 v := by rw [Nat.mod_eq_of_lt hlt2]
  have hstep : ∀ n, n < 128 → of 7 (v % 2 ^ (n + 1)) = of 7 (v % 2 ^ n) + (if v.testBit n then bitE n else 0) := fun n hn => z40 v n hv128 hn
  rw [← egm] at hbit
  clear hlt2 hv128 hf ev eb eN
  intro d
  induction d with
  | zero =>
    intro n hn
    have : n = N := by omega
    subst this
    rw [hlast]
    refine Ev.step (fun q => by rw [za.l1]) (Ev.bnd0 rt ?_)
    refine Ev.neg (by omega) ?_
    refine Ev.pos (by rw [List.length_map]; omega) ?_
    rw [List.map_append] at h
    exact h
  | succ d ih =>
    intro n hn
    have hn' : n < N := by omega
    have hdiv : n / b < m := by rw [Nat.div_lt_iff_lt_mul hb, Nat.mul_comm, hbm]; exact hn'
    have hmod : n % b < b := Nat.mod_lt n hb
    have hih := ih (n + 1) (by omega)
    rw [hstep n (by omega), hbit n hn'] at hih
    obtain ⟨q, hq⟩ : ∃ q, q = n / b := ⟨_, rfl⟩
    obtain ⟨p, hp⟩ : ∃ p, p = n % b := ⟨_, rfl⟩
    rw [← hq] at hdiv hih
    rw [← hp] at hmod hih
    have c1 : (n : Int) < (N : Int) := by omega
    have c2 : ¬ ((b : Int) = 0) := by omega
    have c3 : ((gm + q : Nat) : Int) < (((X.map toR).length : Nat) : Int) := by rw [List.length_map]; omega
    have c4 : p < 128 := by omega
    have c5 : n < 128 := by omega
    obtain ⟨e1, e2, e4⟩ : wrap64 (q : Int) = (q : Int) ∧ wrap64 ((gm : Int) + (q : Int)) = ((gm + q : Nat) : Int) ∧ wrap64 ((n : Int) + 1) = ((n + 1 : Nat) : Int) := ⟨z1Q (by omega) (by omega), z3T (by omega) (by omega), z1x hn' (show N ≤ 4611686018427387904 by omega)⟩
    have e0 : Int.tdiv (n : Int) (b : Int) = (q : Int) := by rw [hq]; exact (Int.ofNat_tdiv _ _).symm
    have e3 : Int.tmod (n : Int) (b : Int) = (p : Int) := by rw [hp]; exact (Int.ofNat_tmod _ _).symm
    refine Ev.step (fun q => by rw [za.l1]) (Ev.bnd0 rt ?_)
    refine Ev.pos c1 (Ev.bnd0 rb ?_)
    refine Ev.neg c2 ?_
    simp only [e0, e1, e2, rdR, z4M, z4N, e4]
    refine Ev.pos (Int.natCast_nonneg _) ?_
    refine Ev.pos c3 (Ev.bnd0 rb ?_)
    refine Ev.neg c2 ?_
    simp only [e3]
    refine Ev.bnd (z56 _ p c4) ?_
    cases c : (val (X.getD (gm + q) 0)).testBit p with
    | true =>
      rw [c, if_pos rfl] at hih
      exact Ev.pos rfl (Ev.bnd (z3e n c5) (Ev.bnd0 (z3d _ _) hih))
    | false =>
      rw [c, if_neg (by decide), add_zero] at hih
      exact Ev.neg (by decide) hih
theorem z4d {l t : Nat} (hlt : l ≤ t) (ht7 : t ≤ 7) (X : List E) (hX : X.length ≤ 1000000) (hA : AllS (l : Int) X) (G : Nat) (hG : X.length = G * 2 ^ (t - l)) :
    ∀ (d g : Nat), g + d = G → Ev (fun q => za.l0 q (l : Int) (t : Int) (X.map toR) ((full X (2 ^ l) (2 ^ (t - l)) g).map toR) ((2 ^ (t - l) : Nat) : Int) ((g * 2 ^ (t - l) : Nat) : Int)) ((full X (2 ^ l) (2 ^ (t - l)) G).map toR, 0) := by
  obtain ⟨hbm, ht, hb, hm⟩ := z2h hlt ht7
  have hm128 : 2 ^ (t - l) ≤ 128 := by
    have : 1 * 2 ^ (t - l) ≤ 2 ^ l * 2 ^ (t - l) := Nat.mul_le_mul_right _ hb
    omega
  intro d
  induction d with
  | zero =>
    intro g hg
    have : g = G := by omega
    subst this
    exact Ev.step (fun q => by rw [za.l0]) (Ev.neg (by rw [List.length_map]; omega) (Ev.ret _))
  | succ d ih =>
    intro g hg
    have hgm : g * 2 ^ (t - l) + 2 ^ (t - l) ≤ X.length := by
      have : (g + 1) * 2 ^ (t - l) ≤ G * 2 ^ (t - l) := Nat.mul_le_mul_right _ (by omega)
      rw [Nat.succ_mul] at this; omega
    have hgl : g ≤ X.length := by
      have : g * 1 ≤ g * 2 ^ (t - l) := Nat.mul_le_mul_left _ hm
      omega
    refine Ev.step (fun q => by rw [za.l0]) (Ev.pos (by rw [List.length_map]; omega) ?_)
    have hih := ih (g + 1) (by omega)
    rw [z43, Nat.succ_mul] at hih
    have := z4e (by omega) ht7 rfl rfl hbm hb (by have := Nat.mul_le_mul_left (2 ^ l) hm; omega) ht X hX hA (full X (2 ^ l) (2 ^ (t - l)) g) (by rw [z1u]; omega) g _ rfl hgm _ rfl _ (by
      rw [z3T (by omega) (by omega)]; exact hih) (2 ^ t) 0 (Nat.zero_add _)
    rw [Nat.pow_zero, Nat.mod_one, z1P, z2e, z2g] at this
    exact this
theorem z4c (F T : Int) (X : List E) (hX : X.length ≤ 1000000) : Ev (fun q => za.f q F T (X.map toR)) ((gathO F T X).map toR, gathErr F T X) := by
  have hj : ∀ c : Bool, c = decide (¬ LvTwo F T) → Ev (fun q => za.j0 q F T (X.map toR) [] c) ((gathO F T X).map toR, gathErr F T X) := by
    intro c hc
    refine Ev.step (fun q => by rw [za.j0]) ?_
    by_cases g : LvTwo F T
    · rw [decide_eq_false (Decidable.not_not.2 g)] at hc
      have hc' := g
      obtain ⟨⟨hF0, hF7⟩, ⟨hT0, hT7⟩, hle⟩ := hc'
      obtain ⟨l, rfl⟩ := Int.eq_ofNat_of_zero_le hF0
      obtain ⟨t, rfl⟩ := Int.eq_ofNat_of_zero_le hT0
      obtain ⟨hbm, ht, hb, hm⟩ := z2h (l := l) (t := t) (by omega) (by omega)
      have hE : gathErr (l : Int) (t : Int) X = if X.length % 2 ^ (t - l) = 0 then (if AllS (l : Int) X then 0 else 5) else 6 := by unfold gathErr; rw [if_pos g, Int.toNat_natCast, Int.toNat_natCast]
      have e1 : wrap64 (Int.tdiv ((2 ^ t : Nat) : Int) ((2 ^ l : Nat) : Int)) = ((2 ^ (t - l) : Nat) : Int) := by
        rw [← Int.ofNat_tdiv, ← hbm, Nat.mul_div_cancel_left _ hb, z1Q (by omega) ?_]
        have : 1 * 2 ^ (t - l) ≤ 2 ^ l * 2 ^ (t - l) := Nat.mul_le_mul_right _ hb
        omega
      refine Ev.neg (by rw [hc]; decide) (Ev.bnd0 (z1K t (by omega)) (Ev.bnd0 (z1K l (by omega)) (Ev.neg (by omega) ?_)))
      simp only [e1, List.length_map]
      refine Ev.neg (by omega) ?_
      by_cases c2 : X.length % 2 ^ (t - l) = 0
      · rw [if_pos c2] at hE
        refine Ev.pos (by rw [← Int.natCast_emod, c2]; rfl) (Ev.bnd (All_ev (l : Int) X hX) ?_)
        by_cases c3 : AllS (l : Int) X
        · rw [if_pos c3] at hE
          have hO : gathO (l : Int) (t : Int) X = gathS (l : Int) (t : Int) X := if_pos hE
          rw [hO, hE]
          refine Ev.pos (decide_eq_true c3) ?_
          have hG : X.length = X.length / 2 ^ (t - l) * 2 ^ (t - l) := by
            have := Nat.div_add_mod X.length (2 ^ (t - l))
            rw [c2, Nat.add_zero, Nat.mul_comm] at this; exact this.symm
          have := z4d (by omega) (by omega) X hX c3 _ hG _ 0 (Nat.zero_add _)
          rw [Nat.zero_mul] at this
          unfold gathS
          rw [Int.toNat_natCast, Int.toNat_natCast]
          exact this
        · rw [if_neg c3] at hE
          have hO : gathO (l : Int) (t : Int) X = [] := if_neg (by rw [hE]; decide)
          rw [hO, hE]
          exact Ev.neg (by simpa using c3) (Ev.ret _)
      · rw [if_neg c2] at hE
        have hO : gathO (l : Int) (t : Int) X = [] := if_neg (by rw [hE]; decide)
        rw [hO, hE]
        refine Ev.neg ?_ (Ev.ret _)
        rw [← Int.natCast_emod]; intro h; exact c2 (by omega)
    · rw [decide_eq_true g] at hc
      have hE : gathErr F T X = 1 := if_neg g
      have hO : gathO F T X = [] := if_neg (by rw [hE]; decide)
      rw [hO, hE]
      exact Ev.pos hc (Ev.ret _)
  unfold za.f
  have hiff : LvTwo F T ↔ (0 ≤ F ∧ T ≤ 7 ∧ F ≤ T) := by unfold LvTwo LvS; omega
  by_cases h0 : F < 0
  · exact Ev.pos h0 (hj true (by symm; rw [decide_eq_true_eq, hiff]; omega))
  refine Ev.neg h0 ?_
  by_cases h7 : T > 7
  · exact Ev.pos h7 (hj true (by symm; rw [decide_eq_true_eq, hiff]; omega))
  refine Ev.neg h7 (hj _ ?_)
  rw [decide_eq_decide, hiff]; omega
theorem z3R {l t b N : Nat} (hl7 : l ≤ 7) (ht7 : t ≤ 7) (eb : 2 ^ l = b) (hN : N ≤ 128) (hb : 0 < b) (X : List E) (hX : X.length ≤ 1000000) (A : List E) (hAl : A.length ≤ 1000000) (i k kb : Nat) (ek : kb = b * k) (hi' : i < X.length) (hk : kb + b ≤ N) (R : List S61 × Int)
    (h : Ev (fun q => z9.l1 q (l : Int) (t : Int) (X.map toR) ((A ++ [bitsAt (X.getD i 0) b k]).map toR) (i : Int) (wrap64 ((kb : Int) + (b : Int)))) R) :
    ∀ (d n : Nat), n + d = b → Ev (fun q => z9.l2 q (l : Int) (t : Int) (X.map toR) (A.map toR) (i : Int) (kb : Int) (n : Int)
      (hi (of 7 (val (X.getD i 0) / 2 ^ (b * k) % 2 ^ b % 2 ^ n))) (lo (of 7 (val (X.getD i 0) / 2 ^ (b * k) % 2 ^ b % 2 ^ n)))) R := by
  have rb : zt.f (l : Int) = some (b : Int) := by rw [← eb]; exact z1K l hl7
  have hbit : ∀ n, n < b → (val (X.getD i 0) / 2 ^ (b * k) % 2 ^ b).testBit n = (val (X.getD i 0)).testBit (kb + n) := by
    intro n hn
    rw [Nat.testBit_mod_two_pow, Nat.testBit_div_two_pow, Nat.add_comm, ek]; simp [hn]
  have hv : val (X.getD i 0) / 2 ^ (b * k) % 2 ^ b < 2 ^ b := Nat.mod_lt _ (Nat.two_pow_pos _)
  unfold bitsAt at h
  generalize val (X.getD i 0) / 2 ^ (b * k) % 2 ^ b = v at *
  have hv128 : v < 2 ^ 128 := Nat.lt_of_lt_of_le hv (Nat.pow_le_pow_right (by decide) (by omega))
  have hlast : of 7 (v % 2 ^ b) = of 7 v := by rw [Nat.mod_eq_of_lt hv]
  have hstep : ∀ n, n < 128 → of 7 (v % 2 ^ (n + 1)) = of 7 (v % 2 ^ n) + (if v.testBit n then bitE n else 0) := fun n hn => z40 v n hv128 hn
  clear hv hv128 eb ek
  intro d
  induction d with
  | zero =>
    intro n hn
    have : n = b := by omega
    subst this
    rw [hlast]
    refine Ev.step (fun q => by rw [z9.l2]) (Ev.bnd0 rb ?_)
    refine Ev.neg (by omega) ?_
    refine Ev.pos (by rw [List.length_map]; omega) (Ev.bnd0 rb ?_)
    rw [List.map_append] at h
    exact h
  | succ d ih =>
    intro n hn
    have hn' : n < b := by omega
    have hih := ih (n + 1) (by omega)
    have c5 : n < 128 := by omega
    rw [hstep n c5, hbit n hn'] at hih
    have c1 : (n : Int) < (b : Int) := by omega
    have c2 : (i : Int) < (((X.map toR).length : Nat) : Int) := by rw [List.length_map]; omega
    have c4 : kb + n < 128 := by omega
    obtain ⟨e1, e4⟩ : wrap64 ((kb : Int) + (n : Int)) = ((kb + n : Nat) : Int) ∧ wrap64 ((n : Int) + 1) = ((n + 1 : Nat) : Int) := ⟨z3T (by omega) (by omega), z1x hn' (show b ≤ 4611686018427387904 by omega)⟩
    refine Ev.step (fun q => by rw [z9.l2]) (Ev.bnd0 rb ?_)
    refine Ev.pos c1 ?_
    refine Ev.pos (Int.natCast_nonneg _) ?_
    refine Ev.pos c2 ?_
    simp only [e1, rdR, z4M, z4N, e4]
    refine Ev.bnd (z56 _ (kb + n) c4) ?_
    cases c : (val (X.getD i 0)).testBit (kb + n) with
    | true =>
      rw [c, if_pos rfl] at hih
      exact Ev.pos rfl (Ev.bnd (z3e n c5) (Ev.bnd0 (z3d _ _) hih))
    | false =>
      rw [c, if_neg (by decide), add_zero] at hih
      exact Ev.neg (by decide) hih
theorem z3Q {l t : Nat} (hlt : l ≤ t) (ht7 : t ≤ 7) (X : List E) (hX : X.length ≤ 1000000) (A : List E) (hAl : A.length ≤ 900000) (i : Nat) (hi' : i < X.length) (R : List S61 × Int)
    (h : Ev (fun q => z9.l0 q (l : Int) (t : Int) (X.map toR) ((A ++ scat (2 ^ l) (2 ^ (t - l)) (X.getD i 0)).map toR) (wrap64 ((i : Int) + 1))) R) :
    ∀ (d k : Nat), k + d = 2 ^ (t - l) → Ev (fun q => z9.l1 q (l : Int) (t : Int) (X.map toR) ((A ++ (List.range k).map (bitsAt (X.getD i 0) (2 ^ l))).map toR) (i : Int) ((2 ^ l * k : Nat) : Int)) R := by
  obtain ⟨hbm, ht, hb, hm⟩ := z2h hlt ht7
  have hm128 : 2 ^ (t - l) ≤ 128 := by
    have : 1 * 2 ^ (t - l) ≤ 2 ^ l * 2 ^ (t - l) := Nat.mul_le_mul_right _ hb
    omega
  intro d
  induction d with
  | zero =>
    intro k hk
    have : k = 2 ^ (t - l) := by omega
    subst this
    refine Ev.step (fun q => by rw [z9.l1]) (Ev.bnd0 (z1K t ht7) ?_)
    refine Ev.neg (by omega) ?_
    exact h
  | succ d ih =>
    intro k hk
    have hk' : k < 2 ^ (t - l) := by omega
    have hkb : 2 ^ l * k + 2 ^ l ≤ 2 ^ t := by
      have : 2 ^ l * (k + 1) ≤ 2 ^ l * 2 ^ (t - l) := Nat.mul_le_mul_left _ hk'
      rw [Nat.mul_succ] at this; omega
    have ha : A ++ (List.range (k + 1)).map (bitsAt (X.getD i 0) (2 ^ l)) = (A ++ (List.range k).map (bitsAt (X.getD i 0) (2 ^ l))) ++ [bitsAt (X.getD i 0) (2 ^ l) k] := by
      rw [List.range_succ, List.map_append, ← List.append_assoc]; rfl
    have hih := ih (k + 1) (by omega)
    rw [ha, Nat.mul_succ] at hih
    refine Ev.step (fun q => by rw [z9.l1]) (Ev.bnd0 (z1K t ht7) ?_)
    refine Ev.pos (by omega) ?_
    have := z3R (b := 2 ^ l) (N := 2 ^ t) (by omega) ht7 rfl ht hb X hX (A ++ (List.range k).map (bitsAt (X.getD i 0) (2 ^ l))) (by rw [List.length_append, List.length_map, List.length_range]; omega) i k _ rfl hi' hkb R (by
      rw [z3T (by omega) (by omega)]; exact hih) (2 ^ l) 0 (Nat.zero_add _)
    rw [Nat.pow_zero, Nat.mod_one, z1P, z2e, z2g] at this
    exact this
theorem z3P {l t : Nat} (hlt : l ≤ t) (ht7 : t ≤ 7) (X : List E) (hX : X.length ≤ 1000) : ∀ (d i : Nat), i + d = X.length → Ev (fun q => z9.l0 q (l : Int) (t : Int) (X.map toR) ((scats (2 ^ l) (2 ^ (t - l)) (X.take i)).map toR) (i : Int)) ((scats (2 ^ l) (2 ^ (t - l)) X).map toR, 0) := by
  obtain ⟨hbm, ht, hb, hm⟩ := z2h hlt ht7
  have hm128 : 2 ^ (t - l) ≤ 128 := by
    have : 1 * 2 ^ (t - l) ≤ 2 ^ l * 2 ^ (t - l) := Nat.mul_le_mul_right _ hb
    omega
  intro d
  induction d with
  | zero =>
    intro i hi
    refine Ev.step (fun q => by rw [z9.l0]) (Ev.neg (by rw [List.length_map]; omega) (Ev.ret' ?_))
    rw [List.take_of_length_le (by omega)]
  | succ d ih =>
    intro i hi
    have hi' : i < X.length := by omega
    refine Ev.step (fun q => by rw [z9.l0]) (Ev.pos (by rw [List.length_map]; omega) ?_)
    have hAl : (scats (2 ^ l) (2 ^ (t - l)) (X.take i)).length ≤ 900000 := by
      rw [z1M, List.length_take]
      have : min i X.length * 2 ^ (t - l) ≤ 1000 * 128 := Nat.mul_le_mul (by omega) hm128
      omega
    have := z3Q hlt ht7 X (by omega) (scats (2 ^ l) (2 ^ (t - l)) (X.take i)) hAl i hi' ((scats (2 ^ l) (2 ^ (t - l)) X).map toR, 0) ?_ (2 ^ (t - l)) 0 (Nat.zero_add _)
    · rw [List.range_zero, List.map_nil, List.append_nil] at this
      exact this
    · rw [z1x hi' (show X.length ≤ 4611686018427387904 by omega)]
      have hih := ih (i + 1) (by omega)
      have e : scats (2 ^ l) (2 ^ (t - l)) (X.take (i + 1)) = scats (2 ^ l) (2 ^ (t - l)) (X.take i) ++ scat (2 ^ l) (2 ^ (t - l)) (X.getD i 0) := by
        have hx : X.getD i 0 = X[i] := by rw [List.getD_eq_getElem?_getD, List.getElem?_eq_getElem hi']; rfl
        unfold scats
        rw [List.take_succ_eq_append_getElem hi', List.flatMap_append, hx]; simp
      rw [e] at hih
      exact hih
theorem z3O (F T : Int) (X : List E) (hX : X.length ≤ 1000) : Ev (fun q => z9.f q F T (X.map toR)) ((scatO F T X).map toR, scatErr F T X) := by
  have hj : ∀ c : Bool, c = decide (¬ LvTwo F T) → Ev (fun q => z9.j0 q F T (X.map toR) [] c) ((scatO F T X).map toR, scatErr F T X) := by
    intro c hc
    refine Ev.step (fun q => by rw [z9.j0]) ?_
    by_cases g : LvTwo F T
    · rw [decide_eq_false (Decidable.not_not.2 g)] at hc
      have hc' := g
      obtain ⟨⟨hF0, hF7⟩, ⟨hT0, hT7⟩, hle⟩ := hc'
      obtain ⟨l, rfl⟩ := Int.eq_ofNat_of_zero_le hF0
      obtain ⟨t, rfl⟩ := Int.eq_ofNat_of_zero_le hT0
      have hE : scatErr (l : Int) (t : Int) X = if AllS (t : Int) X then 0 else 5 := if_pos g
      refine Ev.neg (by rw [hc]; decide) (Ev.bnd (All_ev (t : Int) X (by omega)) ?_)
      by_cases c3 : AllS (t : Int) X
      · rw [if_pos c3] at hE
        have hO : scatO (l : Int) (t : Int) X = scats (2 ^ l) (2 ^ (t - l)) X := by
          unfold scatO; rw [if_pos hE, Int.toNat_natCast, Int.toNat_natCast]
        rw [hO, hE]
        exact Ev.pos (decide_eq_true c3) (z3P (by omega) (by omega) X hX X.length 0 (by omega))
      · rw [if_neg c3] at hE
        have hO : scatO (l : Int) (t : Int) X = [] := if_neg (by rw [hE]; decide)
        rw [hO, hE]
        exact Ev.neg (by simpa using c3) (Ev.ret _)
    · rw [decide_eq_true g] at hc
      have hE : scatErr F T X = 1 := if_neg g
      have hO : scatO F T X = [] := if_neg (by rw [hE]; decide)
      rw [hO, hE]
      exact Ev.pos hc (Ev.ret _)
  unfold z9.f
  have hiff : LvTwo F T ↔ (0 ≤ F ∧ T ≤ 7 ∧ F ≤ T) := by unfold LvTwo LvS; omega
  by_cases h0 : F < 0
  · exact Ev.pos h0 (hj true (by symm; rw [decide_eq_true_eq, hiff]; omega))
  refine Ev.neg h0 ?_
  by_cases h7 : T > 7
  · exact Ev.pos h7 (hj true (by symm; rw [decide_eq_true_eq, hiff]; omega))
  refine Ev.neg h7 (hj _ ?_)
  rw [decide_eq_decide, hiff]; omega
/-- There and back. -/
theorem z2i {α : Type} (f : Nat → α) (m : Nat) : ∀ G, (List.range G).flatMap (fun g => (List.range m).map fun k => f (g * m + k)) = (List.range (G * m)).map f
  | 0 => by simp
  | G + 1 => by
    rw [List.range_succ, List.flatMap_append, z2i f m G, Nat.succ_mul, List.range_add, List.map_append, List.map_map]
    simp [List.flatMap_cons, Function.comp_def]
theorem z2K {α : Type} (X : List α) (d : α) : (List.range X.length).map (fun i => X.getD i d) = X := by
  apply List.ext_getElem
  · simp
  · intro i h1 h2; simp [List.getD_eq_getElem?_getD, h2]
theorem z2J {α : Type} (f : Nat → α) (d : α) {n i : Nat} (h : i < n) : ((List.range n).map f).getD i d = f i := by
  rw [List.getD_eq_getElem?_getD]; simp [h]
theorem z4Y {l t : Nat} (hlt : l ≤ t) (ht7 : t ≤ 7) (X : List E) (hA : AllS (l : Int) X) (G : Nat) (hG : X.length = G * 2 ^ (t - l)) : scats (2 ^ l) (2 ^ (t - l)) (full X (2 ^ l) (2 ^ (t - l)) G) = X := by
  obtain ⟨hbm, ht, hb, hm⟩ := z2h hlt ht7
  conv => rhs; rw [← z2K X 0, hG, ← z2i]
  unfold scats full
  rw [List.flatMap_map]
  congr 1
  funext g
  unfold scat
  apply List.map_congr_left
  intro k hk
  have hk' : k < 2 ^ (t - l) := List.mem_range.1 hk
  have hf : ∀ j, val (X.getD (g * 2 ^ (t - l) + j) 0) < 2 ^ 2 ^ l := fun j => z2I hA _
  have hlt2 := z4m (f := fun j => val (X.getD (g * 2 ^ (t - l) + j) 0)) (b := 2 ^ l) (2 ^ (t - l)) (fun j _ => hf j)
  rw [hbm] at hlt2
  unfold bitsAt part
  rw [z2n (Nat.lt_of_lt_of_le hlt2 (Nat.pow_le_pow_right (by decide) ht)), gv_get hb (fun j _ => hf j) hk', z1s]
theorem z4L (b m : Nat) (hm : 0 < m) (X : List E) : scats b m X = (List.range (X.length * m)).map fun i => bitsAt (X.getD (i / m) 0) b (i % m) := by
  have h1 : scats b m X = scats b m ((List.range X.length).map fun i => X.getD i 0) := congrArg (scats b m) (z2K X 0).symm
  rw [h1, ← z2i (fun i => bitsAt (X.getD (i / m) 0) b (i % m)) m X.length]
  unfold scats
  rw [List.flatMap_map]
  apply congrArg (fun f => (List.range X.length).flatMap f)
  funext g
  unfold scat
  apply List.map_congr_left
  intro k hk
  have hk' : k < m := List.mem_range.1 hk
  rw [Nat.mul_comm g m, Nat.mul_add_div hm, Nat.div_eq_of_lt hk', Nat.add_zero, Nat.mul_add_mod, Nat.mod_eq_of_lt hk']
theorem z4T {l t : Nat} (hlt : l ≤ t) (ht7 : t ≤ 7) (X : List E) (hA : AllS (t : Int) X) : full (scats (2 ^ l) (2 ^ (t - l)) X) (2 ^ l) (2 ^ (t - l)) X.length = X := by
  obtain ⟨hbm, ht, hb, hm⟩ := z2h hlt ht7
  conv => rhs; rw [← z2K X 0]
  unfold full
  apply List.map_congr_left
  intro g hg
  have hg' : g < X.length := List.mem_range.1 hg
  have hv := z2I hA g
  unfold part
  have e : gv (fun j => val ((scats (2 ^ l) (2 ^ (t - l)) X).getD (g * 2 ^ (t - l) + j) 0)) (2 ^ l) (2 ^ (t - l)) = gv (fun k => val (X.getD g 0) / 2 ^ (2 ^ l * k) % 2 ^ 2 ^ l) (2 ^ l) (2 ^ (t - l)) := by
    apply z4B
    intro k hk
    have hin : g * 2 ^ (t - l) + k < X.length * 2 ^ (t - l) := by
      have : (g + 1) * 2 ^ (t - l) ≤ X.length * 2 ^ (t - l) := Nat.mul_le_mul_right _ hg'
      rw [Nat.succ_mul] at this; omega
    rw [z4L _ _ hm, z2J _ _ hin, Nat.mul_comm g (2 ^ (t - l)), Nat.mul_add_div hm, Nat.div_eq_of_lt hk, Nat.add_zero, Nat.mul_add_mod, Nat.mod_eq_of_lt hk]
    unfold bitsAt
    exact z2n (Nat.lt_of_lt_of_le (Nat.mod_lt _ (Nat.two_pow_pos _)) (Nat.pow_le_pow_right (by decide) (by have := Nat.pow_le_pow_right (n := 2) (by decide) hlt; omega)))
  rw [e, z4C _ _ hb, hbm, Nat.mod_eq_of_lt hv, z1s]
theorem z35 {l : Nat} (hl : l ≤ 7) {X : List E} (h : ∀ i, i < X.length → val (X.getD i 0) < 2 ^ 2 ^ l) : AllS (l : Int) X := by
  intro x hx
  obtain ⟨i, hi, rfl⟩ := List.mem_iff_getElem.1 hx
  have := h i hi
  rw [List.getD_eq_getElem?_getD, List.getElem?_eq_getElem hi] at this
  exact ⟨by omega, by omega, by rw [Int.toNat_natCast]; exact this⟩
theorem all_full {l t : Nat} (hlt : l ≤ t) (ht7 : t ≤ 7) (X : List E) (hA : AllS (l : Int) X) (G : Nat) : AllS (t : Int) (full X (2 ^ l) (2 ^ (t - l)) G) := by
  obtain ⟨hbm, ht, hb, hm⟩ := z2h hlt ht7
  apply z35 ht7
  intro g hg
  rw [z1u] at hg
  unfold full
  rw [z2J _ _ hg]
  have hf : ∀ j, val (X.getD (g * 2 ^ (t - l) + j) 0) < 2 ^ 2 ^ l := fun j => z2I hA _
  have hlt2 := z4m (f := fun j => val (X.getD (g * 2 ^ (t - l) + j) 0)) (b := 2 ^ l) (2 ^ (t - l)) (fun j _ => hf j)
  rw [hbm] at hlt2
  unfold part
  rw [z2n (Nat.lt_of_lt_of_le hlt2 (Nat.pow_le_pow_right (by decide) ht))]
  exact hlt2
theorem z5d {l t : Nat} (hlt : l ≤ t) (ht7 : t ≤ 7) (X : List E) : AllS (l : Int) (scats (2 ^ l) (2 ^ (t - l)) X) := by
  obtain ⟨hbm, ht, hb, hm⟩ := z2h hlt ht7
  apply z35 (by omega)
  intro i hi
  rw [z1M] at hi
  rw [z4L _ _ hm, z2J _ _ hi]
  unfold bitsAt
  rw [z2n (Nat.lt_of_lt_of_le (Nat.mod_lt _ (Nat.two_pow_pos _)) (Nat.pow_le_pow_right (by decide) (by have := Nat.pow_le_pow_right (n := 2) (by decide) hlt; omega)))]
  exact Nat.mod_lt _ (Nat.two_pow_pos _)
end Go.Proofs.Ytngcaphdkgihmaa.Sp
namespace Go.Proofs.Ytngcaphdkgihmaa.Sp
open Go.RowKit Go.Proofs.YtngcaphdkgihmaaW.PrintWords Go.Proofs.YtngcaphdkgihmaaW.PrintMore Go.Proofs.Ytngcaphdkgihmaa.P Go.Proofs.Ytngcaphdkgihmaa.Ar Go.Proofs.Ytngcaphdkgihmaa.Tw
set_option linter.unusedVariables false
theorem z2H : Ev (fun k => zB.f k) true := Ev.of zB.mono (k := 60) (by decide +kernel)
theorem z5p {F T : Int} {X : List E} (h : gathErr F T X = 0) : scatErr F T (gathO F T X) = 0 ∧ scatO F T (gathO F T X) = X ∧ (gathO F T X).length ≤ X.length := by
  have hO : gathO F T X = gathS F T X := if_pos h
  unfold gathErr at h
  by_cases c : LvTwo F T
  · rw [if_pos c] at h
    have hc := c
    obtain ⟨⟨hF0, hF7⟩, ⟨hT0, hT7⟩, hle⟩ := hc
    obtain ⟨l, rfl⟩ := Int.eq_ofNat_of_zero_le hF0
    obtain ⟨t, rfl⟩ := Int.eq_ofNat_of_zero_le hT0
    rw [Int.toNat_natCast, Int.toNat_natCast] at h
    by_cases c2 : X.length % 2 ^ (t - l) = 0
    · rw [if_pos c2] at h
      by_cases c3 : AllS (l : Int) X
      · have hG : X.length = X.length / 2 ^ (t - l) * 2 ^ (t - l) := by
          have := Nat.div_add_mod X.length (2 ^ (t - l))
          rw [c2, Nat.add_zero, Nat.mul_comm] at this; exact this.symm
        have hs : gathS (l : Int) (t : Int) X = full X (2 ^ l) (2 ^ (t - l)) (X.length / 2 ^ (t - l)) := by unfold gathS; rw [Int.toNat_natCast, Int.toNat_natCast]
        have hall : AllS (t : Int) (gathO (l : Int) (t : Int) X) := by rw [hO, hs]; exact all_full (by omega) (by omega) X c3 _
        have hE : scatErr (l : Int) (t : Int) (gathO (l : Int) (t : Int) X) = 0 := by unfold scatErr; rw [if_pos c, if_pos hall]
        refine ⟨hE, ?_, ?_⟩
        · unfold scatO
          rw [if_pos hE, Int.toNat_natCast, Int.toNat_natCast, hO, hs]
          exact z4Y (by omega) (by omega) X c3 _ hG
        · rw [hO, hs, z1u]
          exact Nat.div_le_self _ _
      · rw [if_neg c3] at h; exact absurd h (by decide)
    · rw [if_neg c2] at h; exact absurd h (by decide)
  · rw [if_neg c] at h; exact absurd h (by decide)
theorem z5O {F T : Int} {X : List E} (h : scatErr F T X = 0) : gathErr F T (scatO F T X) = 0 ∧ gathO F T (scatO F T X) = X := by
  have hO : scatO F T X = scats (2 ^ F.toNat) (2 ^ (T.toNat - F.toNat)) X := if_pos h
  unfold scatErr at h
  by_cases c : LvTwo F T
  · rw [if_pos c] at h
    have hc := c
    obtain ⟨⟨hF0, hF7⟩, ⟨hT0, hT7⟩, hle⟩ := hc
    obtain ⟨l, rfl⟩ := Int.eq_ofNat_of_zero_le hF0
    obtain ⟨t, rfl⟩ := Int.eq_ofNat_of_zero_le hT0
    rw [Int.toNat_natCast, Int.toNat_natCast] at hO
    by_cases c3 : AllS (t : Int) X
    · have hm := Nat.two_pow_pos (t - l)
      have hall : AllS (l : Int) (scatO (l : Int) (t : Int) X) := by rw [hO]; exact z5d (by omega) (by omega) X
      have hlen : (scatO (l : Int) (t : Int) X).length = X.length * 2 ^ (t - l) := by rw [hO, z1M]
      have hE : gathErr (l : Int) (t : Int) (scatO (l : Int) (t : Int) X) = 0 := by
        unfold gathErr
        rw [if_pos c, Int.toNat_natCast, Int.toNat_natCast, hlen, if_pos (Nat.mul_mod_left _ _), if_pos hall]
      refine ⟨hE, ?_⟩
      unfold gathO gathS
      rw [if_pos hE, Int.toNat_natCast, Int.toNat_natCast, hlen, Nat.mul_div_cancel _ hm, hO]
      exact z4T (by omega) (by omega) X c3
    · rw [if_neg c3] at h; exact absurd h (by decide)
  · rw [if_neg c] at h; exact absurd h (by decide)
theorem z44 (F T : Int) (X : List E) : (gathO F T X).length ≤ X.length := by
  unfold gathO
  by_cases c : gathErr F T X = 0
  · rw [if_pos c]; unfold gathS; rw [z1u]; exact Nat.div_le_self _ _
  · rw [if_neg c]; exact Nat.zero_le _
theorem z2R (F T : Int) (X : List E) (hX : X.length ≤ 1000) : (scatO F T X).length ≤ 1000000 := by
  by_cases c : scatErr F T X = 0
  · have hO : scatO F T X = scats (2 ^ F.toNat) (2 ^ (T.toNat - F.toNat)) X := if_pos c
    unfold scatErr at c
    by_cases g : LvTwo F T
    · obtain ⟨⟨hF0, hF7⟩, ⟨hT0, hT7⟩, hle⟩ := g
      have h128 : 2 ^ (T.toNat - F.toNat) ≤ 128 := Nat.pow_le_pow_right (n := 2) (by decide) (show T.toNat - F.toNat ≤ 7 by omega)
      rw [hO, z1M]
      have : X.length * 2 ^ (T.toNat - F.toNat) ≤ 1000 * 128 := Nat.mul_le_mul hX h128
      omega
    · rw [if_neg g] at c; exact absurd c (by decide)
  · have hO : scatO F T X = [] := if_neg c
    rw [hO]; exact Nat.zero_le _
theorem z3u (F T : Int) (X : List E) (hX : X.length ≤ 1000) : Ev (fun k => z7.j1 k F T (X.map toS) ((scatO F T X).map toS) (scatErr F T X)) true := by
  refine Ev.step (fun k => by rw [z7.j1]) ?_
  by_cases c : scatErr F T X = 0
  · obtain ⟨h1, h2⟩ := z5O c
    refine Ev.pos c ?_
    refine Ev.bnd (z3W F T (scatO F T X) (z2R F T X hX)) ?_
    rw [h1, h2]
    refine Ev.bnd z2H (Ev.pos rfl (Ev.pos rfl ?_))
    refine Ev.bnd (z4u X (by omega)) ?_
    refine Ev.bnd (z3E X X (by omega)) (Ev.ret' ?_)
    exact decide_eq_true rfl
  · exact Ev.neg c (Ev.bnd z2H (Ev.ret _))
theorem z4U (F T : Int) (X : List E) (hX : X.length ≤ 1000) : Ev (fun k => z7.j0 k F T (X.map toS) ((gathO F T X).map toS) (gathErr F T X) ((scatO F T X).map toS) (scatErr F T X) false) true := by
  refine Ev.step (fun k => by rw [z7.j0]) (Ev.neg (by decide) ?_)
  by_cases c : gathErr F T X = 0
  · obtain ⟨h1, h2, h3⟩ := z5p c
    refine Ev.pos c ?_
    refine Ev.bnd (z3r F T (gathO F T X) (by omega)) ?_
    rw [h1, h2]
    refine Ev.pos rfl ?_
    refine Ev.bnd (z4u X (by omega)) ?_
    refine Ev.bnd (z3E X X (by omega)) ?_
    exact Ev.pos (decide_eq_true rfl) (z3u F T X hX)
  · exact Ev.neg c (z3u F T X hX)
end Go.Proofs.Ytngcaphdkgihmaa.Sp
namespace Go.Proofs.Ytngcaphdkgihmaa.Pure
open Go.RowKit Go.Proofs.YtngcaphdkgihmaaW.PrintWords Go.Proofs.YtngcaphdkgihmaaW.PrintMore Go.Proofs.Ytngcaphdkgihmaa.P Go.Proofs.Ytngcaphdkgihmaa.Ar Go.Proofs.Ytngcaphdkgihmaa.Tw Go.Proofs.Ytngcaphdkgihmaa.Sp
theorem WeaveGathers : Stated.weaveGathers.Pure := by
  intro F T l2 h0 h1 h2
  obtain ⟨X, rfl⟩ := list_of l2 h2.1
  refine Ev.rounds (g := fun k => z7.f k F T (X.map toS)) ?_
  unfold z7.f
  rw [List.length_map]
  by_cases c1 : (X.length : Int) > 140
  · exact Ev.pos c1 (Ev.bnd z2H (Ev.ret _))
  have hX : X.length ≤ 1000 := by omega
  have hX' : X.length ≤ 1000000 := by omega
  refine Ev.neg c1 ?_
  refine Ev.bnd (z3W F T X hX') (Ev.bnd (z4u X hX') (Ev.bnd (z4c F T X hX') (Ev.bnd (z3r F T X hX) (Ev.bnd (z4u X hX') (Ev.bnd (z3O F T X hX) ?_)))))
  refine Ev.bnd (z3E _ _ (Nat.le_trans (z44 F T X) hX')) ?_
  refine Ev.pos (decide_eq_true rfl) (Ev.pos rfl ?_)
  refine Ev.bnd (z3E _ _ (z2R F T X hX)) ?_
  refine Ev.pos (decide_eq_true rfl) ?_
  have e : (scatErr F T X != scatErr F T X) = false := by simp
  simp only [e]
  exact z4U F T X hX
end Go.Proofs.Ytngcaphdkgihmaa.Pure
-- Own text, written by wip/tools/gen.py: the row of the law WeaveGathers, out of its pure statement (PureWeaveGathers) and the walk.
namespace Go.Proofs.Ytngcaphdkgihmaa.weaveGathers
open Go.ChangeShapes Go.WideShapes Go.ChangeAt Go.RowKit Go.Proofs.YtngcaphdkgihmaaW.PrintWords Go.Proofs.Ytngcaphdkgihmaa.P Go.Proofs.Ytngcaphdkgihmaa.Reads
set_option linter.unusedVariables false
set_option linter.unusedSimpArgs false
theorem own : ownKnob Try.prog.godebug = none := by kernel_rfl
theorem laidOut : laidOutB Try.prog = true := by kernel_rfl
theorem op51 : ReadsAs Try.prog 51 k51 (fun x => ((Lit.int .u64 x.f0).wf = true) ∧ ((Lit.int .u64 x.f1).wf = true)) :=
  (z5H (fun x : S51 => (x.f0, x.f1)) (fun a => ⟨⟨a.1, a.2⟩, rfl⟩) Try.underlying51 rfl (by kernel_rfl) (z5I (by kernel_rfl) (by kernel_rfl) (z5G Try.underlying49) (z5J (by kernel_rfl) (by kernel_rfl) (z5G Try.underlying49)) (by intro g hg; simp only [List.mem_cons, List.not_mem_nil, or_false] at hg; rcases hg with rfl <;> exact of_decide_eq_true (by kernel_rfl))))
theorem op37 : ReadsAs Try.prog 37 (Kd.slice 51 k51) (fun l => (∀ x_ ∈ l, ((Lit.int .u64 x_.f0).wf = true) ∧ ((Lit.int .u64 x_.f1).wf = true)) ∧ l.length ≤ maxLen) := op_slice Try.underlying37 (by kernel_rfl) op51
set_option maxRecDepth 100000 in
theorem lifted (os : Os) (started : os.Started) (H : Type) (enc : TypeId × Value → H) :
    ReturnsInHanded {} Try.checked os 7 .any (Rows.weaveGathersSpec.pre6 enc Try.prog Try.f7 Rows.weaveGathersRow.domain false) (Rows.weaveGathersSpec.post enc Try.prog Try.f7 false true false false) := by
  refine returnsInHanded_of_change_sized (C := Try.checked) own started (by kernel_rfl) Try.func7
    (ChangeSpec.witness6 (enc := enc) (C := Try.checked) false ⟨#[], #[.int .i64 0, .int .i64 0, .slice none 0 0], []⟩ 8 (by kernel_rfl) (by kernel_rfl) (by kernel_rfl) (by kernel_rfl)) ?_
  intro W base args ds gs before hval0 hW hcnd hsz0 _
  have hval : ∀ (j : Nat) t v, Try.f7.params[j]? = some t → args[j]? = some v → Value.okWide Try.prog W .any base t v := hval0
  have hW' := hW
  obtain ⟨p, q, hA0, hV, rfl, hfz, hnd⟩ := hW
  have hA : DataW.TrodAll enc Try.prog W 0 (fun _ => true) true Try.f7.params.toList args.toList ds p := hA0
  rw [Try.params7] at hA hval
  obtain ⟨v0, vs0, d0, ds0, p0, q0, hargs, rfl, rfl, h0, r0⟩ := trodAll_cons hA
  obtain ⟨v1, vs1, d1, ds1, p1, q1, rfl, rfl, rfl, h1, r1⟩ := trodAll_cons r0
  obtain ⟨v2, vs2, d2, ds2, p2, q2, rfl, rfl, rfl, h2, r2⟩ := trodAll_cons r1
  obtain ⟨rfl, rfl, rfl⟩ := trodAll_nil r2
  obtain rfl : args = #[v0, v1, v2] := by cases args; simp_all
  obtain ⟨rfl, rfl⟩ := trodVars_none hV
  have k0 := h0
  have lt0 : ∀ x ∈ p0, x.block < W.heap.size := by obtain ⟨m, hm⟩ := k0; exact DataW.trod_lt m _ _ _ hm
  obtain ⟨x0, rfl, g0⟩ := z5e Try.underlying3 (hval 0 3 v0 rfl rfl) h0
  have k1 := h1
  have lt1 : ∀ x ∈ p1, x.block < W.heap.size := by obtain ⟨m, hm⟩ := k1; exact DataW.trod_lt m _ _ _ hm
  obtain ⟨x1, rfl, g1⟩ := z5e Try.underlying3 (hval 1 3 v1 rfl rfl) h1
  have k2 := h2
  have lt2 : ∀ x ∈ p2, x.block < W.heap.size := by obtain ⟨m, hm⟩ := k2; exact DataW.trod_lt m _ _ _ hm
  obtain ⟨x2, A2, c2, rfl, hc2, hr2, g2⟩ := z5f op37 Try.underlying37 (hval 2 37 v2 rfl rfl) h2
  clear hA0 hval0 hsz0
  obtain ⟨k, hpure⟩ := Pure.WeaveGathers x0 x1 x2 g0 g1 g2
  refine (z7.calls k x0 x1 _ _ x2 true W hr2 hc2 hpure).mono fun e W' hh => ?_
  obtain ⟨rfl, bel0⟩ := hh
  have bel : Below W.heap.size W W' := bel0
  exact ⟨_, rfl, _, _, _, [], _, [], hW', trodAll_mk1 (shut_bool Try.underlying4 _), (trodAll_cons_mk (Below.trod laidOut (by kernel_rfl) (of_decide_eq_true (by kernel_rfl)) k0 bel lt0) (trodAll_cons_mk (Below.trod laidOut (by kernel_rfl) (of_decide_eq_true (by kernel_rfl)) k1 bel lt1) (trodAll_cons_mk (Below.trod laidOut (by kernel_rfl) (of_decide_eq_true (by kernel_rfl)) k2 bel lt2) trodAll_mk0))), rfl, bel.frame _, fun h => by cases h⟩
theorem over : Rows.weaveGathersRow.holds Try.pinned (OpenSpec.ofChange Rows.weaveGathersSpec) :=
  OpenClaim.holds_of_wide 7 Try.f7 rfl rfl rfl rfl rfl rfl rfl ⟨rfl, rfl, rfl, rfl, rfl⟩ rfl rfl rfl rfl rfl (by kernel_rfl) Try.func7 (by kernel_rfl)
    (of_decide_eq_true (by kernel_rfl)) (by unfold Func.isWrapper; first | (rw [if_pos (by decide +kernel)]; kernel_rfl) | (rw [if_neg (by decide +kernel)]; exact ⟨rfl, rfl⟩))
    (fun os started H enc _ => lifted os started H enc)
theorem proved : Rows.WeaveGathersSaid := over
#print axioms proved
end Go.Proofs.Ytngcaphdkgihmaa.weaveGathers
namespace Go.Proofs.Ytngcaphdkgihmaa
/-- The row, under a short name, for the claim. -/
theorem weaveGathers_holds : Rows.WeaveGathersSaid := weaveGathers.proved
end Go.Proofs.Ytngcaphdkgihmaa

/- SpanTurns: bits turned about, or the error; what is turned twice is as it was; for up to 140 elements and any number of bits. Own text. -/
import Derived.Test.YtnhbdhgbmjcjdaaRows
import Derived.WalkKit
import Derived.ProofKit
import Derived.OpenShut
import Derived.ShutString
import Derived.ChangeOld
import Derived.Below
import Derived.SizedLaws
import Derived.Carry
import Derived.Test.YtnhbdhgbmjcjdaaMSpanTurnsb
import Derived.Test.YtnhbdhgbmjcjdaaMSpanTurnsc
import Derived.Test.YtnhbdhgbmjcjdaaMSpanTurnsd
namespace Go.Proofs.Ytnhbdhgbmjcjdaa.P
open Go.RowKit Go.Proofs.YtnhbdhgbmjcjdaaW.PrintWords Go.Proofs.YtnhbdhgbmjcjdaaW.PrintLast Go.Proofs.YtnhbdhgbmjcjdaaW.PrintMore
attribute [local go_sem] zX zZ z1a z1b zL zM zY z10   -- for this text's walks alone
set_option linter.unusedVariables false
set_option linter.unusedSimpArgs false
def zo.f : Nat → Int → Int → Option (Int)
 | 0,_,_=>none
 | k + 1,a0,a1=>if a0 < 0 then (some a1) else (if 0 ≤ (IntKind.u64.wrap (a0)) then ((zR.f a0).bind fun t101=>((zR.f a0).bind fun t102=>((zo.f k (wrap64 (a0 - 1)) (Go.bits .and .u64 (shr .u64 a1 (shl .u64 1 (IntKind.u64.wrap (a0)))) t101)).bind fun t103=>(some (Go.bits .or .u64 (shl .u64 (Go.bits .xor .u64 (Go.bits .and .u64 a1 t102) t103) (shl .u64 1 (IntKind.u64.wrap (a0)))) (Go.bits .and .u64 (shr .u64 a1 (shl .u64 1 (IntKind.u64.wrap (a0)))) t101)))))) else (none))
theorem zo.z11 : ∀ k,(∀ y0 y1,LeO (zo.f k y0 y1) (zo.f (k + 1) y0 y1))
 | 0=>fun _ _ r h=>by simp [zo.f] at h
 | k + 1=>by
  have ih0:=zo.z11 k
  · intro y0 y1
    unfold zo.f
    repeat' first
    | (with_reducible exact ih0 _ _)
    | (with_reducible exact LeO.refl _)
    | (with_reducible exact LeO.none _)
    | (with_reducible refine LeO.ite ?_ ?_)
    | (with_reducible refine LeO.bind ?_ (fun _=>?_))
    | exact ih0 _ _
    | exact LeO.none _
    | refine LeO.ite ?_ ?_
    | refine LeO.bind ?_ (fun _=>?_)
theorem zo.mono : ∀ a0 a1 k,LeO (zo.f k a0 a1) (zo.f (k + 1) a0 a1):=by
 intro a0 a1 k
 have ih0:=zo.z11 k
 exact ih0 a0 a1
set_option maxHeartbeats 8000000 in
set_option maxRecDepth 100000 in
theorem zo.calls (k : Nat) : ∀ (a0 : Int) (a1 : Int) (r : Int) (w : World) (h : zo.f k a0 a1 = some r),
 Calls Try.prog 87 #[.int .i64 a0,.int .u64 a1] w fun e w'=>e = .returned (.int .u64 r) ∧ Below w.heap.size w w':=by
 induction k using Nat.strongRecOn with
 | _ k ih =>
 intro a0 a1 r w h
 cases k with
 | zero=>exact absurd h (by simp [zo.f])
 | succ k =>
 simp only [zo.f] at h
 have HB:=z1.mk (Below.refl w.heap.size w)
 have H : (if a0 < 0 then (some a1) else (if 0 ≤ (IntKind.u64.wrap (a0)) then ((zR.f a0).bind fun t101=>((zR.f a0).bind fun t102=>((zo.f k (wrap64 (a0 - 1)) (Go.bits .and .u64 (shr .u64 a1 (shl .u64 1 (IntKind.u64.wrap (a0)))) t101)).bind fun t103=>(some (Go.bits .or .u64 (shl .u64 (Go.bits .xor .u64 (Go.bits .and .u64 a1 t102) t103) (shl .u64 1 (IntKind.u64.wrap (a0)))) (Go.bits .and .u64 (shr .u64 a1 (shl .u64 1 (IntKind.u64.wrap (a0)))) t101)))))) else (none))) = some r:=h
 clear h
 by_cases c3 : a0 < 0
 · rw [if_pos c3] at H
   have c3b0 : decide (a0 < 0) = true:=decide_eq_true c3
   clear c3
   obtain rfl:=Option.some.inj H
   go_enter Try.func87,Try.ntmps87
   go_wp2
   go_ret
   exact ⟨by first|rfl|(simp [zk,zl] <;> rfl)|(simp [*,zk,zl] <;> rfl),by repeat (first|(with_reducible first|exact HB.out|apply z7|apply z3|apply z5)|exact HB.out)⟩
 rw [if_neg c3] at H
 have c3b0 : decide (a0 < 0) = false:=decide_eq_false c3
 clear c3
 obtain ⟨ji4,hji4⟩ : ∃ j_ : Int,(IntKind.u64.wrap (a0)) = j_:=⟨_,rfl⟩
 replace H : (if 0 ≤ (ji4) then ((zR.f a0).bind fun t101=>((zR.f a0).bind fun t102=>((zo.f k (wrap64 (a0 - 1)) (Go.bits .and .u64 (shr .u64 a1 (shl .u64 1 (ji4))) t101)).bind fun t103=>(some (Go.bits .or .u64 (shl .u64 (Go.bits .xor .u64 (Go.bits .and .u64 a1 t102) t103) (shl .u64 1 (ji4))) (Go.bits .and .u64 (shr .u64 a1 (shl .u64 1 (ji4))) t101)))))) else (none)) = some r:=by first|(rw [hji4] at H;exact H)|(simp only [hji4] at H ⊢;exact H)
 by_cases c5 : 0 ≤ (ji4)
 rotate_left
 · rw [if_neg c5] at H
   exact absurd H zz55
 rw [if_pos c5] at H
 have c5b0:=eq_true c5
 have c5b1 : decide (0 ≤ (ji4)) = true:=decide_eq_true c5
 clear c5
 obtain ⟨ji6,hji6⟩ : ∃ j_ : Int,(shl .u64 1 (ji4)) = j_:=⟨_,rfl⟩
 replace H : ((zR.f a0).bind fun t101=>((zR.f a0).bind fun t102=>((zo.f k (wrap64 (a0 - 1)) (Go.bits .and .u64 (shr .u64 a1 (ji6)) t101)).bind fun t103=>(some (Go.bits .or .u64 (shl .u64 (Go.bits .xor .u64 (Go.bits .and .u64 a1 t102) t103) (ji6)) (Go.bits .and .u64 (shr .u64 a1 (ji6)) t101)))))) = some r:=by first|(rw [hji6] at H;exact H)|(simp only [hji6] at H ⊢;exact H)
 have hji6_ : (IntKind.u64.wrap (1 * 2 ^ min (ji4).toNat 64)) = ji6:=hji6
 have hji6z : (ji4) ≤ 64 → (IntKind.u64.wrap (1 * 2 ^ (ji4).toNat)) = ji6:=z1x hji6
 have hji6n0 : 0 ≤ ji6:=by rw [← hji6];exact Int.emod_nonneg _ zz53
 have hji6n1 : decide (0 ≤ ji6) = true:=decide_eq_true hji6n0
 replace hji6n0:=eq_true hji6n0
 have hji6u : (IntKind.u64.wrap (2 ^ min (ji4).toNat 64)) = ji6:=by have h_:=hji6_;rw [Int.one_mul] at h_;exact h_
 have hji6v : (ji4) ≤ 64 → (IntKind.u64.wrap (2 ^ (ji4).toNat)) = ji6:=fun hle_=>by have h_:=hji6z hle_;rw [Int.one_mul] at h_;exact h_
 obtain ⟨ji7,hji7⟩ : ∃ j_ : Int,(shr .u64 a1 (ji6)) = j_:=⟨_,rfl⟩
 replace H : ((zR.f a0).bind fun t101=>((zR.f a0).bind fun t102=>((zo.f k (wrap64 (a0 - 1)) (Go.bits .and .u64 (ji7) t101)).bind fun t103=>(some (Go.bits .or .u64 (shl .u64 (Go.bits .xor .u64 (Go.bits .and .u64 a1 t102) t103) (ji6)) (Go.bits .and .u64 (ji7) t101)))))) = some r:=by first|(rw [hji7] at H;exact H)|(simp only [hji7] at H ⊢;exact H)
 have hji7_ : (a1 / 2 ^ min (ji6).toNat 64) = ji7:=hji7
 have hji7z : (ji6) ≤ 64 → (a1 / 2 ^ (ji6).toNat) = ji7:=z28 hji7
 replace H:=Option.bind_eq_some_iff.mp H
 obtain ⟨t101,A80,H⟩:=H
 replace H : ((zR.f a0).bind fun t102=>((zo.f k (wrap64 (a0 - 1)) (Go.bits .and .u64 (ji7) t101)).bind fun t103=>(some (Go.bits .or .u64 (shl .u64 (Go.bits .xor .u64 (Go.bits .and .u64 a1 t102) t103) (ji6)) (Go.bits .and .u64 (ji7) t101))))) = some r:=H
 have A8:=z1.mk A80
 clear A80
 replace H:=Option.bind_eq_some_iff.mp H
 obtain ⟨t102,A90,H⟩:=H
 replace H : ((zo.f k (wrap64 (a0 - 1)) (Go.bits .and .u64 (ji7) t101)).bind fun t103=>(some (Go.bits .or .u64 (shl .u64 (Go.bits .xor .u64 (Go.bits .and .u64 a1 t102) t103) (ji6)) (Go.bits .and .u64 (ji7) t101)))) = some r:=H
 have A9:=z1.mk A90
 clear A90
 replace H:=Option.bind_eq_some_iff.mp H
 obtain ⟨t103,A100,H⟩:=H
 replace H : (some (Go.bits .or .u64 (shl .u64 (Go.bits .xor .u64 (Go.bits .and .u64 a1 t102) t103) (ji6)) (Go.bits .and .u64 (ji7) t101))) = some r:=H
 have A10:=z1.mk A100
 clear A100
 obtain ⟨ji11,hji11⟩ : ∃ j_ : Int,(shl .u64 (Go.bits .xor .u64 (Go.bits .and .u64 a1 t102) t103) (ji6)) = j_:=⟨_,rfl⟩
 replace H : (some (Go.bits .or .u64 (ji11) (Go.bits .and .u64 (ji7) t101))) = some r:=by first|(rw [hji11] at H;exact H)|(simp only [hji11] at H ⊢;exact H)
 (try rw [hji11] at A8)
 (try rw [hji11] at A9)
 (try rw [hji11] at A10)
 have hji11_ : (IntKind.u64.wrap ((Go.bits .xor .u64 (Go.bits .and .u64 a1 t102) t103) * 2 ^ min (ji6).toNat 64)) = ji11:=hji11
 have hji11z : (ji6) ≤ 64 → (IntKind.u64.wrap ((Go.bits .xor .u64 (Go.bits .and .u64 a1 t102) t103) * 2 ^ (ji6).toNat)) = ji11:=z1x hji11
 have hji11n0 : 0 ≤ ji11:=by rw [← hji11];exact Int.emod_nonneg _ zz53
 have hji11n1 : decide (0 ≤ ji11) = true:=decide_eq_true hji11n0
 replace hji11n0:=eq_true hji11n0
 obtain rfl:=Option.some.inj H
 go_enter Try.func87,Try.ntmps87
 go_wp2_with (first|((with_reducible refine zp (f:=90) rfl ?_);refine goesL_ (some 18) rfl rfl Try.func90 zz52 rfl #[.int .i64 a0] rfl zz19 ?_;(with_reducible refine (zR.calls a0 t101 _ A8.out).mono ?_);rintro e w12 ⟨rfl,hb⟩;refine ⟨_,rfl,?_⟩;have n0_:=z1.mk (z8 zz20 hb);clear HB;have HB:=n0_;clear n0_;(try clear hb);(try clear hb2);(try clear hk);(try clear hi))|((with_reducible refine zp (f:=90) rfl ?_);refine goesL_ (some 22) rfl rfl Try.func90 zz52 rfl #[.int .i64 a0] rfl zz19 ?_;(with_reducible refine (zR.calls a0 t102 _ A9.out).mono ?_);rintro e w13 ⟨rfl,hb⟩;refine ⟨_,rfl,?_⟩;have n0_:=z1.mk (z8 zz20 hb);clear HB;have HB:=n0_;clear n0_;(try clear hb);(try clear hb2);(try clear hk);(try clear hi))|((with_reducible refine zp (f:=87) rfl ?_);refine goesL_ (some 28) rfl rfl Try.func87 zz52 rfl #[.int .i64 (wrap64 (a0 - 1)),.int .u64 (Go.bits .and .u64 (ji7) t101)] rfl (by (try simp only [List.map_toArray,List.map_cons,List.map_nil]);first|done|(simp only [hji7];rfl)|rfl|(simp only [List.length_drop,List.length_take];rfl)) ?_;(with_reducible refine (ih k zz54 (wrap64 (a0 - 1)) (Go.bits .and .u64 (ji7) t101) t103 _ A10.out).mono ?_);rintro e w14 ⟨rfl,hb⟩;refine ⟨_,rfl,?_⟩;have n0_:=z1.mk (z8 zz20 hb);clear HB;have HB:=n0_;clear n0_;(try clear hb);(try clear hb2);(try clear hk);(try clear hi)))
 go_ret
 exact ⟨by first|rfl|(simp [zk,zl] <;> rfl)|(simp only [← hji4,← hji6,← hji7,← hji11];first|rfl|(simp [zk,zl] <;> rfl))|(simp [*,zk,zl] <;> rfl),by repeat (first|(with_reducible first|exact HB.out|apply z7|apply z3|apply z5)|exact HB.out)⟩
end Go.Proofs.Ytnhbdhgbmjcjdaa.P
namespace Go.Proofs.Ytnhbdhgbmjcjdaa.P
open Go.RowKit Go.Proofs.YtnhbdhgbmjcjdaaW.PrintWords Go.Proofs.YtnhbdhgbmjcjdaaW.PrintLast Go.Proofs.YtnhbdhgbmjcjdaaW.PrintMore
attribute [local go_sem] zX zZ z1a z1b zL zM zY z10   -- for this text's walks alone
set_option linter.unusedVariables false
set_option linter.unusedSimpArgs false
def zr.f (k : Nat) (a0 : Int) (a1_0 : Int) (a1_1 : Int) : Option (Int × Int):=if a0 < 6 then ((zo.f k a0 a1_0).bind fun t103=>((zo.f k a0 a1_1).bind fun t104=>(some (t103,t104)))) else ((zo.f k 5 a1_0).bind fun t105=>(some (Go.bits .xor .u64 a1_1 t105,a1_0)))
theorem zr.mono : ∀ a0 a1 a2 k,LeO (zr.f k a0 a1 a2) (zr.f (k + 1) a0 a1 a2):=by
 intro a0 a1 a2 k
 unfold zr.f
 repeat' first
  | (with_reducible exact zo.mono _ _ _)
  | (with_reducible exact LeO.refl _)
  | (with_reducible exact LeO.none _)
  | (with_reducible refine LeO.ite ?_ ?_)
  | (with_reducible refine LeO.bind ?_ (fun _=>?_))
  | exact zo.mono _ _ _
  | exact LeO.none _
  | refine LeO.ite ?_ ?_
  | refine LeO.bind ?_ (fun _=>?_)
def zr.T2 : Bool × List (List Nat × List Nat):=(true,[([],[]),([],[]),([1],[1]),([0,2],[0,2]),([],[]),([],[]),([5],[5]),([4,6,3],[4,6]),([3,7],[3,7]),([8,7,0,1,2,3,4,5,6,7,8],[8])])
def zr.B2 : List Nat:=[0,0,2,7,0,0,32,127,255,511]
theorem zr.tab2 : rtab .any (opsOf Try.f79 2) = zr.T2:=by kernel_rfl
theorem zr.bits2 : waitsOk zr.T2.2 zr.B2 = true:=by kernel_rfl
def zr.T3 : Bool × List (List Nat × List Nat):=(true,[([],[]),([0],[0]),([],[]),([2],[2]),([3],[3]),([1,4],[1,4]),([],[]),([6],[6]),([5,7],[5,7]),([8,4,0,1,2,3,4,5,6,7,8],[8])])
def zr.B3 : List Nat:=[0,1,0,4,12,31,0,64,255,511]
theorem zr.tab3 : rtab .any (opsOf Try.f79 3) = zr.T3:=by kernel_rfl
theorem zr.bits3 : waitsOk zr.T3.2 zr.B3 = true:=by kernel_rfl
set_option maxHeartbeats 8000000 in
set_option maxRecDepth 100000 in
theorem zr.calls (k : Nat) (a0 : Int) (a1_0 : Int) (a1_1 : Int) (r1 : Int) (r2 : Int) (w : World) (h : zr.f k a0 a1_0 a1_1 = some (r1,r2)) :
 Calls Try.prog 79 #[.int .i64 a0,.agg #[.int .u64 a1_0,.int .u64 a1_1]] w fun e w'=>e = .returned (.agg #[.int .u64 r1,.int .u64 r2]) ∧ Below w.heap.size w w':=by
 have hu38:=Try.underlying38
 have HB:=z1.mk (Below.refl w.heap.size w)
 have H : (if a0 < 6 then ((zo.f k a0 a1_0).bind fun t103=>((zo.f k a0 a1_1).bind fun t104=>(some (t103,t104)))) else ((zo.f k 5 a1_0).bind fun t105=>(some (Go.bits .xor .u64 a1_1 t105,a1_0)))) = some (r1,r2):=h
 clear h
 by_cases c3 : a0 < 6
 rotate_left
 · rw [if_neg c3] at H
   have c3b0 : decide (a0 < 6) = false:=decide_eq_false c3
   clear c3
   replace H:=Option.bind_eq_some_iff.mp H
   obtain ⟨t105,A130,H⟩:=H
   replace H : (some (Go.bits .xor .u64 a1_1 t105,a1_0)) = some (r1,r2):=H
   have A13:=z1.mk A130
   clear A130
   simp only [Option.some.injEq,Prod.mk.injEq] at H
   obtain ⟨rfl,rfl⟩:=H
   go_enter Try.func79,Try.ntmps79
   try go_wp2_with (first|((with_reducible refine zC (N:=3) rfl ?_);refine zD ?hg (N:=3) ?hd (cs:=#[.int .u64 a1_0,.int .u64 a1_1]) (t:=38) ?hr ?_;(case hd=>rfl);(case hg=>rfl);(case hr=>first|(go_simp;done)|(go_simp;rfl));intro gb101 hg w14 hbox hb;have n0_:=z1.mk (z8 zz20 hb);have n1_:=z1.mk (hbox);have n2_:=z1.mk ((by rw [hg];exact (zd zz20) : w.heap.size ≤ gb101));have n3_:=z1.mk ((by rw [hg];exact (zd zz20) : w.heap.size ≤ gb101));clear HB;have HB:=n0_;have BK101:=n1_;have GW101:=n2_;have GE101:=n3_;clear n0_ n1_ n2_ n3_;clear hb hbox hg)|((with_reducible refine zC (N:=4) rfl ?_);refine zD ?hg (N:=4) ?hd (cs:=#[.int .u64 0,.int .u64 0]) (t:=38) ?hr ?_;(case hd=>rfl);(case hg=>rfl);(case hr=>first|(go_simp;done)|(go_simp;rfl));intro gb102 hg w15 hbox hb;have n0_:=z1.mk (zj (g:=gb101) (o:=.cells #[.int .u64 a1_0,.int .u64 a1_1] 38 (0,0)) zz22 hb);have n1_:=z1.mk (z8 zz16 hb);have n2_:=z1.mk (hbox);have n3_:=z1.mk ((by rw [hg];exact (zd zz16) : w.heap.size ≤ gb102));have n4_:=z1.mk ((by rw [hg];exact (zd zz16) : w.heap.size ≤ gb102));have n5_:=z1.mk ((by rw [hg];exact Nat.ne_of_lt (zP (g:=gb101) (o:=.cells #[.int .u64 a1_0,.int .u64 a1_1] 38 (0,0)) zz22) : gb101 ≠ gb102));have n6_:=z1.mk ((by rw [hg];exact Nat.ne_of_gt (zP (g:=gb101) (o:=.cells #[.int .u64 a1_0,.int .u64 a1_1] 38 (0,0)) zz22) : gb102 ≠ gb101));clear BK101;clear HB;have BK101:=n0_;have HB:=n1_;have BK102:=n2_;have GW102:=n3_;have GE102:=n4_;have NB101_102:=n5_;have NB102_101:=n6_;clear n0_ n1_ n2_ n3_ n4_ n5_ n6_;clear hb hbox hg))
   have n0_:=z1.mk (ze BK101.out)
   have n1_:=z1.mk (ze BK102.out)
   have n2_:=z1.mk (z5 HB.out)
   clear BK101
   clear BK102
   clear HB
   have BK101:=n0_
   have BK102:=n1_
   have HB:=n2_
   clear n0_ n1_ n2_
   refine start_ (n:=10) (S:=fun w'=>w'.cell? ⟨gb101,0,none⟩ = some (.int .u64 a1_0) ∧ w'.cell? ⟨gb101,1,none⟩ = some (.int .u64 a1_1)) (ds:=[]) #[false,false,false,false,false,false,false,false,false,false] zz52 rfl rfl ⟨(z4 BK101.out 0).trans rfl,(z4 BK101.out 1).trans rfl⟩ (fun hHeld=>?_);refine z1V zr.tab3 zr.bits3 (fun HT_ HW_=>?_)
   generalize w15.drew = w16 at BK101 BK102 HB hHeld ⊢
   refine pure_ (i:=0) (N:=some 16) (v:=?_) (a':=?_) #[true,false,false,false,false,false,false,false,false,false] rfl rfl (zT HT_.out zz52) (fun _ _ _ h=>h) (Or.inl ⟨by rfl,?_⟩) ?_ ?_
   rotate_left
   · intro w'
     go_simp
     with_reducible rfl
   rotate_left
   · simp only [Act.put,List.setIfInBounds_toArray,List.set_cons_zero,List.set_cons_succ,zF,zG]
     rfl
   refine pure_ (i:=2) (N:=some 18) (v:=?_) (a':=?_) #[true,false,true,false,false,false,false,false,false,false] rfl rfl (zT HT_.out zz52) (fun _ _ _ h=>h) (Or.inl ⟨by rfl,?_⟩) ?_ ?_
   rotate_left
   · intro w'
     go_simp
     with_reducible rfl
   rotate_left
   · simp only [Act.put,List.setIfInBounds_toArray,List.set_cons_zero,List.set_cons_succ,zF,zG]
     rfl
   refine pure_ (i:=6) (N:=some 22) (v:=?_) (a':=?_) #[true,false,true,false,false,false,true,false,false,false] rfl rfl (zT HT_.out zz52) (fun _ _ _ h=>h) (Or.inl ⟨by rfl,?_⟩) ?_ ?_
   rotate_left
   · intro w'
     go_simp
     with_reducible rfl
   rotate_left
   · simp only [Act.put,List.setIfInBounds_toArray,List.set_cons_zero,List.set_cons_succ,zF,zG]
     rfl
   refine take_ (i:=1) (N:=some 17) (v:=?_) (a':=?_) #[true,true,true,false,false,false,true,false,false,false] rfl rfl (z1E HT_.out HW_.out zz52) (fun _ _ _ h=>h) (Or.inl ⟨by rfl,?_⟩) hHeld ?_ ?_
   rotate_left
   · rintro w' ⟨s0,s1⟩
     go_simp
     with_reducible rfl
   rotate_left
   · simp only [Act.put,List.setIfInBounds_toArray,List.set_cons_zero,List.set_cons_succ,zF,zG]
     rfl
   refine take_ (i:=3) (N:=some 19) (v:=?_) (a':=?_) #[true,true,true,true,false,false,true,false,false,false] rfl rfl (z1E HT_.out HW_.out zz52) (fun _ _ _ h=>h) (Or.inl ⟨by rfl,?_⟩) hHeld ?_ ?_
   rotate_left
   · rintro w' ⟨s0,s1⟩
     go_simp
     with_reducible rfl
   rotate_left
   · simp only [Act.put,List.setIfInBounds_toArray,List.set_cons_zero,List.set_cons_succ,zF,zG]
     rfl
   refine take_ (i:=7) (N:=some 23) (v:=?_) (a':=?_) #[true,true,true,true,false,false,true,true,false,false] rfl rfl (z1E HT_.out HW_.out zz52) (fun _ _ _ h=>h) (Or.inl ⟨by rfl,?_⟩) hHeld ?_ ?_
   rotate_left
   · rintro w' ⟨s0,s1⟩
     go_simp
     with_reducible rfl
   rotate_left
   · simp only [Act.put,List.setIfInBounds_toArray,List.set_cons_zero,List.set_cons_succ,zF,zG]
     rfl
   refine one_ (i:=4) (N:=some 20) #[true,true,true,true,true,false,true,true,false,false] rfl rfl (z2d HT_.out zz52) zz53 (fun K hK=>?_)
   refine goes_ Try.func87 zz52 rfl #[.int .i64 5,.int .u64 a1_0] zz56 rfl rfl zz19 ?_
   with_reducible refine (zo.calls k 5 a1_0 t105 _ A13.out).mono ?_
   rintro e w17 ⟨rfl,hb⟩
   refine ⟨_,rfl,?_⟩
   have n0_:=z1.mk (zj (g:=gb101) (o:=.cells #[.int .u64 a1_0,.int .u64 a1_1] 38 (0,0)) zz22 hb)
   have n1_:=z1.mk (zj (g:=gb102) (o:=.cells #[.int .u64 0,.int .u64 0] 38 (0,0)) zz23 hb)
   have n2_:=z1.mk (z8 zz12 hb)
   clear BK101
   clear BK102
   clear HB
   have BK101:=n0_
   have BK102:=n1_
   have HB:=n2_
   clear n0_ n1_ n2_
   (try clear hb)
   (try clear hb2)
   (try clear hk)
   (try clear hi)
   refine hK.out _ _ ⟨(z4 BK101.out 0).trans rfl,(z4 BK101.out 1).trans rfl⟩ (fun hHeld=>?_)
   clear hK K
   refine norm_ (a':=?_) ?_ ?_
   rotate_left
   · show Act.put _ (some 20) _ = _
     simp only [Act.put,List.setIfInBounds_toArray,List.set_cons_zero,List.set_cons_succ,zF,zG]
     rfl
   refine pure_ (i:=5) (N:=some 21) (v:=?_) (a':=?_) #[true,true,true,true,true,true,true,true,false,false] rfl rfl (zT HT_.out zz52) (fun _ _ _ h=>h) (Or.inl ⟨by rfl,?_⟩) ?_ ?_
   rotate_left
   · intro w'
     go_simp
     with_reducible rfl
   rotate_left
   · simp only [Act.put,List.setIfInBounds_toArray,List.set_cons_zero,List.set_cons_succ,zF,zG]
     rfl
   refine pure_ (i:=8) (N:=some 24) (v:=?_) (a':=?_) #[true,true,true,true,true,true,true,true,true,false] rfl rfl (zT HT_.out zz52) (fun _ _ _ h=>h) (Or.inl ⟨by rfl,?_⟩) ?_ ?_
   rotate_left
   · intro w'
     go_simp
     with_reducible rfl
   rotate_left
   · simp only [Act.put,List.setIfInBounds_toArray,List.set_cons_zero,List.set_cons_succ,zF,zG]
     rfl
   refine one_ (i:=9) (N:=none) #[true,true,true,true,true,true,true,true,true,true] rfl rfl (z2d HT_.out zz52) zz53 (fun K hK=>?_)
   have hs18 : w17.cell? ⟨gb102,0,none⟩ = some (.int .u64 0):=(z4 BK102.out 0).trans rfl
   have hfs18:=z6 BK102.out 0
   have hns18_0:=NB101_102.out
   have hms18_0:=NB102_101.out
   have hs19 : w17.cell? ⟨gb102,1,none⟩ = some (.int .u64 0):=(z4 BK102.out 1).trans rfl
   have hfs19:=z6 BK102.out 1
   have hns19_0:=NB101_102.out
   have hms19_0:=NB102_101.out
   refine skip_ (w1:=?_) zz56 rfl ?_ ?_
   rotate_left
   · go_simp
     rfl
   refine hK.out _ _ ⟨((z1X (p:=⟨gb102,_,none⟩) NB101_102.out _).trans (((z1X (p:=⟨gb102,_,none⟩) NB101_102.out _).trans (hHeld.1)))),((z1X (p:=⟨gb102,_,none⟩) NB101_102.out _).trans (((z1X (p:=⟨gb102,_,none⟩) NB101_102.out _).trans (hHeld.2))))⟩ (fun hHeld=>?_)
   clear hK K
   refine done_ (z2x HT_.out zz52) ?_
   try go_wp2
   refine bodyPost_ret (results_cell_row rfl _ _ gb102 38 #[.int .u64 (Go.bits .xor .u64 a1_1 t105),.int .u64 a1_0] (0,0) _ rfl (by (with_reducible repeat (first|refine zc ?_ _|refine ze ?_|refine zb ?_ _));refine z18 (cs:=#[.int .u64 (Go.bits .xor .u64 a1_1 t105),.int .u64 0]) ?_ 1 _ rfl;(with_reducible repeat (first|refine zc ?_ _|refine ze ?_|refine zb ?_ _));refine z18 (cs:=#[.int .u64 0,.int .u64 0]) ?_ 0 _ rfl;(with_reducible repeat (first|refine zc ?_ _|refine ze ?_|refine zb ?_ _));exact BK102.out) Try.underlying38 rfl zz52) rfl ?_
   exact ⟨by first|rfl|(simp [zk,zl] <;> rfl)|(simp [*,zk,zl] <;> rfl),by repeat (first|(with_reducible first|exact HB.out|apply z7|apply z3|apply z5|refine zf ?_ GE101.out|refine zf ?_ GE102.out)|exact HB.out)⟩
 rw [if_pos c3] at H
 have c3b0 : decide (a0 < 6) = true:=decide_eq_true c3
 clear c3
 replace H:=Option.bind_eq_some_iff.mp H
 obtain ⟨t103,A40,H⟩:=H
 replace H : ((zo.f k a0 a1_1).bind fun t104=>(some (t103,t104))) = some (r1,r2):=H
 have A4:=z1.mk A40
 clear A40
 replace H:=Option.bind_eq_some_iff.mp H
 obtain ⟨t104,A50,H⟩:=H
 replace H : (some (t103,t104)) = some (r1,r2):=H
 have A5:=z1.mk A50
 clear A50
 simp only [Option.some.injEq,Prod.mk.injEq] at H
 obtain ⟨rfl,rfl⟩:=H
 go_enter Try.func79,Try.ntmps79
 try go_wp2_with (first|((with_reducible refine zC (N:=3) rfl ?_);refine zD ?hg (N:=3) ?hd (cs:=#[.int .u64 a1_0,.int .u64 a1_1]) (t:=38) ?hr ?_;(case hd=>rfl);(case hg=>rfl);(case hr=>first|(go_simp;done)|(go_simp;rfl));intro gb101 hg w6 hbox hb;have n0_:=z1.mk (z8 zz20 hb);have n1_:=z1.mk (hbox);have n2_:=z1.mk ((by rw [hg];exact (zd zz20) : w.heap.size ≤ gb101));have n3_:=z1.mk ((by rw [hg];exact (zd zz20) : w.heap.size ≤ gb101));clear HB;have HB:=n0_;have BK101:=n1_;have GW101:=n2_;have GE101:=n3_;clear n0_ n1_ n2_ n3_;clear hb hbox hg)|((with_reducible refine zC (N:=4) rfl ?_);refine zD ?hg (N:=4) ?hd (cs:=#[.int .u64 0,.int .u64 0]) (t:=38) ?hr ?_;(case hd=>rfl);(case hg=>rfl);(case hr=>first|(go_simp;done)|(go_simp;rfl));intro gb102 hg w7 hbox hb;have n0_:=z1.mk (zj (g:=gb101) (o:=.cells #[.int .u64 a1_0,.int .u64 a1_1] 38 (0,0)) zz22 hb);have n1_:=z1.mk (z8 zz16 hb);have n2_:=z1.mk (hbox);have n3_:=z1.mk ((by rw [hg];exact (zd zz16) : w.heap.size ≤ gb102));have n4_:=z1.mk ((by rw [hg];exact (zd zz16) : w.heap.size ≤ gb102));have n5_:=z1.mk ((by rw [hg];exact Nat.ne_of_lt (zP (g:=gb101) (o:=.cells #[.int .u64 a1_0,.int .u64 a1_1] 38 (0,0)) zz22) : gb101 ≠ gb102));have n6_:=z1.mk ((by rw [hg];exact Nat.ne_of_gt (zP (g:=gb101) (o:=.cells #[.int .u64 a1_0,.int .u64 a1_1] 38 (0,0)) zz22) : gb102 ≠ gb101));clear BK101;clear HB;have BK101:=n0_;have HB:=n1_;have BK102:=n2_;have GW102:=n3_;have GE102:=n4_;have NB101_102:=n5_;have NB102_101:=n6_;clear n0_ n1_ n2_ n3_ n4_ n5_ n6_;clear hb hbox hg))
 have n0_:=z1.mk (ze BK101.out)
 have n1_:=z1.mk (ze BK102.out)
 have n2_:=z1.mk (z5 HB.out)
 clear BK101
 clear BK102
 clear HB
 have BK101:=n0_
 have BK102:=n1_
 have HB:=n2_
 clear n0_ n1_ n2_
 refine start_ (n:=10) (S:=fun w'=>w'.cell? ⟨gb101,0,none⟩ = some (.int .u64 a1_0) ∧ w'.cell? ⟨gb101,1,none⟩ = some (.int .u64 a1_1)) (ds:=[]) #[false,false,false,false,false,false,false,false,false,false] zz52 rfl rfl ⟨(z4 BK101.out 0).trans rfl,(z4 BK101.out 1).trans rfl⟩ (fun hHeld=>?_);refine z1V zr.tab2 zr.bits2 (fun HT_ HW_=>?_)
 generalize w7.drew = w8 at BK101 BK102 HB hHeld ⊢
 refine pure_ (i:=0) (N:=some 7) (v:=?_) (a':=?_) #[true,false,false,false,false,false,false,false,false,false] rfl rfl (zT HT_.out zz52) (fun _ _ _ h=>h) (Or.inl ⟨by rfl,?_⟩) ?_ ?_
 rotate_left
 · intro w'
   go_simp
   with_reducible rfl
 rotate_left
 · simp only [Act.put,List.setIfInBounds_toArray,List.set_cons_zero,List.set_cons_succ,zF,zG]
   rfl
 refine pure_ (i:=1) (N:=some 8) (v:=?_) (a':=?_) #[true,true,false,false,false,false,false,false,false,false] rfl rfl (zT HT_.out zz52) (fun _ _ _ h=>h) (Or.inl ⟨by rfl,?_⟩) ?_ ?_
 rotate_left
 · intro w'
   go_simp
   with_reducible rfl
 rotate_left
 · simp only [Act.put,List.setIfInBounds_toArray,List.set_cons_zero,List.set_cons_succ,zF,zG]
   rfl
 refine pure_ (i:=4) (N:=some 11) (v:=?_) (a':=?_) #[true,true,false,false,true,false,false,false,false,false] rfl rfl (zT HT_.out zz52) (fun _ _ _ h=>h) (Or.inl ⟨by rfl,?_⟩) ?_ ?_
 rotate_left
 · intro w'
   go_simp
   with_reducible rfl
 rotate_left
 · simp only [Act.put,List.setIfInBounds_toArray,List.set_cons_zero,List.set_cons_succ,zF,zG]
   rfl
 refine pure_ (i:=5) (N:=some 12) (v:=?_) (a':=?_) #[true,true,false,false,true,true,false,false,false,false] rfl rfl (zT HT_.out zz52) (fun _ _ _ h=>h) (Or.inl ⟨by rfl,?_⟩) ?_ ?_
 rotate_left
 · intro w'
   go_simp
   with_reducible rfl
 rotate_left
 · simp only [Act.put,List.setIfInBounds_toArray,List.set_cons_zero,List.set_cons_succ,zF,zG]
   rfl
 refine take_ (i:=2) (N:=some 9) (v:=?_) (a':=?_) #[true,true,true,false,true,true,false,false,false,false] rfl rfl (z1E HT_.out HW_.out zz52) (fun _ _ _ h=>h) (Or.inl ⟨by rfl,?_⟩) hHeld ?_ ?_
 rotate_left
 · rintro w' ⟨s0,s1⟩
   go_simp
   with_reducible rfl
 rotate_left
 · simp only [Act.put,List.setIfInBounds_toArray,List.set_cons_zero,List.set_cons_succ,zF,zG]
   rfl
 refine take_ (i:=6) (N:=some 13) (v:=?_) (a':=?_) #[true,true,true,false,true,true,true,false,false,false] rfl rfl (z1E HT_.out HW_.out zz52) (fun _ _ _ h=>h) (Or.inl ⟨by rfl,?_⟩) hHeld ?_ ?_
 rotate_left
 · rintro w' ⟨s0,s1⟩
   go_simp
   with_reducible rfl
 rotate_left
 · simp only [Act.put,List.setIfInBounds_toArray,List.set_cons_zero,List.set_cons_succ,zF,zG]
   rfl
 refine one_ (i:=3) (N:=some 10) #[true,true,true,true,true,true,true,false,false,false] rfl rfl (z2d HT_.out zz52) zz53 (fun K hK=>?_)
 refine goes_ Try.func87 zz52 rfl #[.int .i64 a0,.int .u64 a1_0] zz56 rfl rfl zz19 ?_
 with_reducible refine (zo.calls k a0 a1_0 t103 _ A4.out).mono ?_
 rintro e w9 ⟨rfl,hb⟩
 refine ⟨_,rfl,?_⟩
 have n0_:=z1.mk (zj (g:=gb101) (o:=.cells #[.int .u64 a1_0,.int .u64 a1_1] 38 (0,0)) zz22 hb)
 have n1_:=z1.mk (zj (g:=gb102) (o:=.cells #[.int .u64 0,.int .u64 0] 38 (0,0)) zz23 hb)
 have n2_:=z1.mk (z8 zz12 hb)
 clear BK101
 clear BK102
 clear HB
 have BK101:=n0_
 have BK102:=n1_
 have HB:=n2_
 clear n0_ n1_ n2_
 (try clear hb)
 (try clear hb2)
 (try clear hk)
 (try clear hi)
 refine hK.out _ _ ⟨(z4 BK101.out 0).trans rfl,(z4 BK101.out 1).trans rfl⟩ (fun hHeld=>?_)
 clear hK K
 refine norm_ (a':=?_) ?_ ?_
 rotate_left
 · show Act.put _ (some 10) _ = _
   simp only [Act.put,List.setIfInBounds_toArray,List.set_cons_zero,List.set_cons_succ,zF,zG]
   rfl
 refine one_ (i:=7) (N:=some 14) #[true,true,true,true,true,true,true,true,false,false] rfl rfl (z2d HT_.out zz52) zz53 (fun K hK=>?_)
 refine goes_ Try.func87 zz52 rfl #[.int .i64 a0,.int .u64 a1_1] zz56 rfl rfl zz19 ?_
 with_reducible refine (zo.calls k a0 a1_1 t104 _ A5.out).mono ?_
 rintro e w10 ⟨rfl,hb⟩
 refine ⟨_,rfl,?_⟩
 have n0_:=z1.mk (zj (g:=gb101) (o:=.cells #[.int .u64 a1_0,.int .u64 a1_1] 38 (0,0)) zz22 hb)
 have n1_:=z1.mk (zj (g:=gb102) (o:=.cells #[.int .u64 0,.int .u64 0] 38 (0,0)) zz23 hb)
 have n2_:=z1.mk (z8 zz12 hb)
 clear BK101
 clear BK102
 clear HB
 have BK101:=n0_
 have BK102:=n1_
 have HB:=n2_
 clear n0_ n1_ n2_
 (try clear hb)
 (try clear hb2)
 (try clear hk)
 (try clear hi)
 refine hK.out _ _ ⟨(z4 BK101.out 0).trans rfl,(z4 BK101.out 1).trans rfl⟩ (fun hHeld=>?_)
 clear hK K
 refine norm_ (a':=?_) ?_ ?_
 rotate_left
 · show Act.put _ (some 14) _ = _
   simp only [Act.put,List.setIfInBounds_toArray,List.set_cons_zero,List.set_cons_succ,zF,zG]
   rfl
 refine pure_ (i:=8) (N:=some 15) (v:=?_) (a':=?_) #[true,true,true,true,true,true,true,true,true,false] rfl rfl (zT HT_.out zz52) (fun _ _ _ h=>h) (Or.inl ⟨by rfl,?_⟩) ?_ ?_
 rotate_left
 · intro w'
   go_simp
   with_reducible rfl
 rotate_left
 · simp only [Act.put,List.setIfInBounds_toArray,List.set_cons_zero,List.set_cons_succ,zF,zG]
   rfl
 refine one_ (i:=9) (N:=none) #[true,true,true,true,true,true,true,true,true,true] rfl rfl (z2d HT_.out zz52) zz53 (fun K hK=>?_)
 have hs11 : w10.cell? ⟨gb102,0,none⟩ = some (.int .u64 0):=(z4 BK102.out 0).trans rfl
 have hfs11:=z6 BK102.out 0
 have hns11_0:=NB101_102.out
 have hms11_0:=NB102_101.out
 have hs12 : w10.cell? ⟨gb102,1,none⟩ = some (.int .u64 0):=(z4 BK102.out 1).trans rfl
 have hfs12:=z6 BK102.out 1
 have hns12_0:=NB101_102.out
 have hms12_0:=NB102_101.out
 refine skip_ (w1:=?_) zz56 rfl ?_ ?_
 rotate_left
 · go_simp
   rfl
 refine hK.out _ _ ⟨((z1X (p:=⟨gb102,_,none⟩) NB101_102.out _).trans (((z1X (p:=⟨gb102,_,none⟩) NB101_102.out _).trans (hHeld.1)))),((z1X (p:=⟨gb102,_,none⟩) NB101_102.out _).trans (((z1X (p:=⟨gb102,_,none⟩) NB101_102.out _).trans (hHeld.2))))⟩ (fun hHeld=>?_)
 clear hK K
 refine done_ (z2x HT_.out zz52) ?_
 try go_wp2
 refine bodyPost_ret (results_cell_row rfl _ _ gb102 38 #[.int .u64 t103,.int .u64 t104] (0,0) _ rfl (by (with_reducible repeat (first|refine zc ?_ _|refine ze ?_|refine zb ?_ _));refine z18 (cs:=#[.int .u64 t103,.int .u64 0]) ?_ 1 _ rfl;(with_reducible repeat (first|refine zc ?_ _|refine ze ?_|refine zb ?_ _));refine z18 (cs:=#[.int .u64 0,.int .u64 0]) ?_ 0 _ rfl;(with_reducible repeat (first|refine zc ?_ _|refine ze ?_|refine zb ?_ _));exact BK102.out) Try.underlying38 rfl zz52) rfl ?_
 exact ⟨by first|rfl|(simp [zk,zl] <;> rfl)|(simp [*,zk,zl] <;> rfl),by repeat (first|(with_reducible first|exact HB.out|apply z7|apply z3|apply z5|refine zf ?_ GE101.out|refine zf ?_ GE102.out)|exact HB.out)⟩
end Go.Proofs.Ytnhbdhgbmjcjdaa.P
namespace Go.Proofs.Ytnhbdhgbmjcjdaa.P
open Go.RowKit Go.Proofs.YtnhbdhgbmjcjdaaW.PrintWords Go.Proofs.YtnhbdhgbmjcjdaaW.PrintLast Go.Proofs.YtnhbdhgbmjcjdaaW.PrintMore
attribute [local go_sem] zX zZ z1a z1b zL zM zY z10   -- for this text's walks alone
set_option linter.unusedVariables false
set_option linter.unusedSimpArgs false
mutual
def zh.l0 : Nat → Int → Int → Int → Int → Int → Int → Int → Option (Int × Int)
 | 0,_,_,_,_,_,_,_=>none
 | k + 1,x6,x102000,x102001,x103000,x103001,x105000,x105001=>if x6 < 128 then ((zy.f k x103000 x103001 x6).bind fun t105=>(if t105 = true then (zh.l1 k x6 0 x102000 x102001 x103000 x103001 x105000 x105001 x102000 x102001) else (zh.l0 k (wrap64 (x6 + 1)) x102000 x102001 x103000 x103001 x105000 x105001))) else (some (x105000,x105001))
def zh.l1 : Nat → Int → Int → Int → Int → Int → Int → Int → Int → Int → Int → Option (Int × Int)
 | 0,_,_,_,_,_,_,_,_,_,_=>none
 | k + 1,x6,x8,x102000,x102001,x103000,x103001,x105000,x105001,x107000,x107001=>if x8 < 7 then (if 0 ≤ (IntKind.u64.wrap (x8)) then (if (Go.bits .and .i64 (shr .i64 x6 (IntKind.u64.wrap (x8))) 1) = 1 then ((zr.f k x8 x107000 x107001).bind fun bt107=>(zh.l1 k x6 (wrap64 (x8 + 1)) x102000 x102001 x103000 x103001 x105000 x105001 bt107.1 bt107.2)) else (zh.l1 k x6 (wrap64 (x8 + 1)) x102000 x102001 x103000 x103001 x105000 x105001 x107000 x107001)) else (none)) else ((z1h.f x105000 x105001 x107000 x107001).bind fun bt109=>(zh.l0 k (wrap64 (x6 + 1)) x102000 x102001 x103000 x103001 bt109.1 bt109.2))
end
def zh.f (k : Nat) (a0_0 : Int) (a0_1 : Int) (a1_0 : Int) (a1_1 : Int) : Option (Int × Int):=zh.l0 k 0 a0_0 a0_1 a1_0 a1_1 0 0
theorem zh.z11 : ∀ k,(∀ y0 y1 y2 y3 y4 y5 y6,LeO (zh.l0 k y0 y1 y2 y3 y4 y5 y6) (zh.l0 (k + 1) y0 y1 y2 y3 y4 y5 y6)) ∧ (∀ y0 y1 y2 y3 y4 y5 y6 y7 y8 y9,LeO (zh.l1 k y0 y1 y2 y3 y4 y5 y6 y7 y8 y9) (zh.l1 (k + 1) y0 y1 y2 y3 y4 y5 y6 y7 y8 y9))
 | 0=>⟨fun _ _ _ _ _ _ _ r h=>by simp [zh.l0] at h,fun _ _ _ _ _ _ _ _ _ _ r h=>by simp [zh.l1] at h⟩
 | k + 1=>by
  obtain ⟨ih0,ih1⟩:=zh.z11 k
  refine ⟨?_,?_⟩
  · intro y0 y1 y2 y3 y4 y5 y6
    unfold zh.l0
    repeat' first
    | (with_reducible exact ih0 _ _ _ _ _ _ _)
    | (with_reducible exact ih1 _ _ _ _ _ _ _ _ _ _)
    | (with_reducible exact zy.mono _ _ _ _)
    | (with_reducible exact zr.mono _ _ _ _)
    | (with_reducible exact LeO.refl _)
    | (with_reducible exact LeO.none _)
    | (with_reducible refine LeO.ite ?_ ?_)
    | (with_reducible refine LeO.bind ?_ (fun _=>?_))
    | exact ih0 _ _ _ _ _ _ _
    | exact ih1 _ _ _ _ _ _ _ _ _ _
    | exact zy.mono _ _ _ _
    | exact zr.mono _ _ _ _
    | exact LeO.none _
    | refine LeO.ite ?_ ?_
    | refine LeO.bind ?_ (fun _=>?_)
  · intro y0 y1 y2 y3 y4 y5 y6 y7 y8 y9
    unfold zh.l1
    repeat' first
    | (with_reducible exact ih0 _ _ _ _ _ _ _)
    | (with_reducible exact ih1 _ _ _ _ _ _ _ _ _ _)
    | (with_reducible exact zy.mono _ _ _ _)
    | (with_reducible exact zr.mono _ _ _ _)
    | (with_reducible exact LeO.refl _)
    | (with_reducible exact LeO.none _)
    | (with_reducible refine LeO.ite ?_ ?_)
    | (with_reducible refine LeO.bind ?_ (fun _=>?_))
    | exact ih0 _ _ _ _ _ _ _
    | exact ih1 _ _ _ _ _ _ _ _ _ _
    | exact zy.mono _ _ _ _
    | exact zr.mono _ _ _ _
    | exact LeO.none _
    | refine LeO.ite ?_ ?_
    | refine LeO.bind ?_ (fun _=>?_)
theorem zh.mono : ∀ a0 a1 a2 a3 k,LeO (zh.f k a0 a1 a2 a3) (zh.f (k + 1) a0 a1 a2 a3):=by
 intro a0 a1 a2 a3 k
 obtain ⟨ih0,ih1⟩:=zh.z11 k
 unfold zh.f
 repeat' first
  | (with_reducible exact ih0 _ _ _ _ _ _ _)
  | (with_reducible exact ih1 _ _ _ _ _ _ _ _ _ _)
  | (with_reducible exact zy.mono _ _ _ _)
  | (with_reducible exact zr.mono _ _ _ _)
  | (with_reducible exact LeO.refl _)
  | (with_reducible exact LeO.none _)
  | (with_reducible refine LeO.ite ?_ ?_)
  | (with_reducible refine LeO.bind ?_ (fun _=>?_))
  | exact ih0 _ _ _ _ _ _ _
  | exact ih1 _ _ _ _ _ _ _ _ _ _
  | exact zy.mono _ _ _ _
  | exact zr.mono _ _ _ _
  | exact LeO.none _
  | refine LeO.ite ?_ ?_
  | refine LeO.bind ?_ (fun _=>?_)
set_option maxHeartbeats 8000000 in
set_option maxRecDepth 100000 in
theorem zh.calls (k : Nat) (a0_0 : Int) (a0_1 : Int) (a1_0 : Int) (a1_1 : Int) (r1 : Int) (r2 : Int) (w : World) (h : zh.f k a0_0 a0_1 a1_0 a1_1 = some (r1,r2)) :
 Calls Try.prog 64 #[.agg #[.int .u64 a0_0,.int .u64 a0_1],.agg #[.int .u64 a1_0,.int .u64 a1_1]] w fun e w'=>e = .returned (.agg #[.int .u64 r1,.int .u64 r2]) ∧ Below w.heap.size w w':=by
 have hu38:=Try.underlying38
 have HB:=z1.mk (Below.refl w.heap.size w)
 have H : (zh.l0 k 0 a0_0 a0_1 a1_0 a1_1 0 0) = some (r1,r2):=h
 clear h
 have H':=z1.mk H
 clear H
 go_enter Try.func64,Try.ntmps64
 go_wp2_with (first|((with_reducible refine zC (N:=2) rfl ?_);refine zD ?hg (N:=2) ?hd (cs:=#[.int .u64 a0_0,.int .u64 a0_1]) (t:=38) ?hr ?_;(case hd=>rfl);(case hg=>rfl);(case hr=>first|(go_simp;done)|(go_simp;rfl));intro gb101 hg w3 hbox hb;have n0_:=z1.mk (z8 zz20 hb);have n1_:=z1.mk (hbox);have n2_:=z1.mk ((by rw [hg];exact (zd zz20) : w.heap.size ≤ gb101));have n3_:=z1.mk ((by rw [hg];exact (zd zz20) : w.heap.size ≤ gb101));clear HB;have HB:=n0_;have BK101:=n1_;have GW101:=n2_;have GE101:=n3_;clear n0_ n1_ n2_ n3_;clear hb hbox hg)|((with_reducible refine zC (N:=3) rfl ?_);refine zD ?hg (N:=3) ?hd (cs:=#[.int .u64 a1_0,.int .u64 a1_1]) (t:=38) ?hr ?_;(case hd=>rfl);(case hg=>rfl);(case hr=>first|(go_simp;done)|(go_simp;rfl));intro gb102 hg w4 hbox hb;have n0_:=z1.mk (zj (g:=gb101) (o:=.cells #[.int .u64 a0_0,.int .u64 a0_1] 38 (0,0)) zz22 hb);have n1_:=z1.mk (z8 zz16 hb);have n2_:=z1.mk (hbox);have n3_:=z1.mk ((by rw [hg];exact (zd zz16) : w.heap.size ≤ gb102));have n4_:=z1.mk ((by rw [hg];exact (zd zz16) : w.heap.size ≤ gb102));have n5_:=z1.mk ((by rw [hg];exact Nat.ne_of_lt (zP (g:=gb101) (o:=.cells #[.int .u64 a0_0,.int .u64 a0_1] 38 (0,0)) zz22) : gb101 ≠ gb102));have n6_:=z1.mk ((by rw [hg];exact Nat.ne_of_gt (zP (g:=gb101) (o:=.cells #[.int .u64 a0_0,.int .u64 a0_1] 38 (0,0)) zz22) : gb102 ≠ gb101));clear BK101;clear HB;have BK101:=n0_;have HB:=n1_;have BK102:=n2_;have GW102:=n3_;have GE102:=n4_;have NB101_102:=n5_;have NB102_101:=n6_;clear n0_ n1_ n2_ n3_ n4_ n5_ n6_;clear hb hbox hg)|((with_reducible refine zC (N:=4) rfl ?_);refine zD ?hg (N:=4) ?hd (cs:=#[.int .u64 0,.int .u64 0]) (t:=38) ?hr ?_;(case hd=>rfl);(case hg=>rfl);(case hr=>first|(go_simp;done)|(go_simp;rfl));intro gb103 hg w5 hbox hb;have n0_:=z1.mk (zj (g:=gb101) (o:=.cells #[.int .u64 a0_0,.int .u64 a0_1] 38 (0,0)) zz22 hb);have n1_:=z1.mk (zj (g:=gb102) (o:=.cells #[.int .u64 a1_0,.int .u64 a1_1] 38 (0,0)) zz23 hb);have n2_:=z1.mk (z8 zz12 hb);have n3_:=z1.mk (hbox);have n4_:=z1.mk ((by rw [hg];exact (zd zz12) : w.heap.size ≤ gb103));have n5_:=z1.mk ((by rw [hg];exact (zd zz12) : w.heap.size ≤ gb103));have n6_:=z1.mk ((by rw [hg];exact Nat.ne_of_lt (zP (g:=gb101) (o:=.cells #[.int .u64 a0_0,.int .u64 a0_1] 38 (0,0)) zz22) : gb101 ≠ gb103));have n7_:=z1.mk ((by rw [hg];exact Nat.ne_of_gt (zP (g:=gb101) (o:=.cells #[.int .u64 a0_0,.int .u64 a0_1] 38 (0,0)) zz22) : gb103 ≠ gb101));have n8_:=z1.mk ((by rw [hg];exact Nat.ne_of_lt (zP (g:=gb102) (o:=.cells #[.int .u64 a1_0,.int .u64 a1_1] 38 (0,0)) zz23) : gb102 ≠ gb103));have n9_:=z1.mk ((by rw [hg];exact Nat.ne_of_gt (zP (g:=gb102) (o:=.cells #[.int .u64 a1_0,.int .u64 a1_1] 38 (0,0)) zz23) : gb103 ≠ gb102));clear BK101;clear BK102;clear HB;have BK101:=n0_;have BK102:=n1_;have HB:=n2_;have BK103:=n3_;have GW103:=n4_;have GE103:=n5_;have NB101_103:=n6_;have NB103_101:=n7_;have NB102_103:=n8_;have NB103_102:=n9_;clear n0_ n1_ n2_ n3_ n4_ n5_ n6_ n7_ n8_ n9_;clear hb hbox hg)|((with_reducible refine zC (N:=5) rfl ?_);refine zD ?hg (N:=5) ?hd (cs:=#[.int .u64 0,.int .u64 0]) (t:=38) ?hr ?_;(case hd=>rfl);(case hg=>rfl);(case hr=>first|(go_simp;done)|(go_simp;rfl));intro gb104 hg w6 hbox hb;have n0_:=z1.mk (zj (g:=gb101) (o:=.cells #[.int .u64 a0_0,.int .u64 a0_1] 38 (0,0)) zz22 hb);have n1_:=z1.mk (zj (g:=gb102) (o:=.cells #[.int .u64 a1_0,.int .u64 a1_1] 38 (0,0)) zz23 hb);have n2_:=z1.mk (zj (g:=gb103) (o:=.cells #[.int .u64 0,.int .u64 0] 38 (0,0)) zz27 hb);have n3_:=z1.mk (z8 zz9 hb);have n4_:=z1.mk (hbox);have n5_:=z1.mk ((by rw [hg];exact (zd zz9) : w.heap.size ≤ gb104));have n6_:=z1.mk ((by rw [hg];exact (zd zz9) : w.heap.size ≤ gb104));have n7_:=z1.mk ((by rw [hg];exact Nat.ne_of_lt (zP (g:=gb101) (o:=.cells #[.int .u64 a0_0,.int .u64 a0_1] 38 (0,0)) zz22) : gb101 ≠ gb104));have n8_:=z1.mk ((by rw [hg];exact Nat.ne_of_gt (zP (g:=gb101) (o:=.cells #[.int .u64 a0_0,.int .u64 a0_1] 38 (0,0)) zz22) : gb104 ≠ gb101));have n9_:=z1.mk ((by rw [hg];exact Nat.ne_of_lt (zP (g:=gb102) (o:=.cells #[.int .u64 a1_0,.int .u64 a1_1] 38 (0,0)) zz23) : gb102 ≠ gb104));have n10_:=z1.mk ((by rw [hg];exact Nat.ne_of_gt (zP (g:=gb102) (o:=.cells #[.int .u64 a1_0,.int .u64 a1_1] 38 (0,0)) zz23) : gb104 ≠ gb102));have n11_:=z1.mk ((by rw [hg];exact Nat.ne_of_lt (zP (g:=gb103) (o:=.cells #[.int .u64 0,.int .u64 0] 38 (0,0)) zz27) : gb103 ≠ gb104));have n12_:=z1.mk ((by rw [hg];exact Nat.ne_of_gt (zP (g:=gb103) (o:=.cells #[.int .u64 0,.int .u64 0] 38 (0,0)) zz27) : gb104 ≠ gb103));clear BK101;clear BK102;clear BK103;clear HB;have BK101:=n0_;have BK102:=n1_;have BK103:=n2_;have HB:=n3_;have BK104:=n4_;have GW104:=n5_;have GE104:=n6_;have NB101_104:=n7_;have NB104_101:=n8_;have NB102_104:=n9_;have NB104_102:=n10_;have NB103_104:=n11_;have NB104_103:=n12_;clear n0_ n1_ n2_ n3_ n4_ n5_ n6_ n7_ n8_ n9_ n10_ n11_ n12_;clear hb hbox hg))
 go_loopg [6] k (fun kq v6 w'=>∃ (x6_1 : Int) (x105000_1 : Int) (x105001_1 : Int),v6 = .int .i64 x6_1 ∧ z1 (zh.l0 kq x6_1 a0_0 a0_1 a1_0 a1_1 x105000_1 x105001_1 = some (r1,r2)) ∧ z1 (kq ≤ k) ∧ z1 (w'.heap[gb101]? = some (.cells #[.int .u64 a0_0,.int .u64 a0_1] 38 (0,0))) ∧ z1 (w'.heap[gb102]? = some (.cells #[.int .u64 a1_0,.int .u64 a1_1] 38 (0,0))) ∧ z1 (w'.heap[gb103]? = some (.cells #[.int .u64 0,.int .u64 0] 38 (0,0))) ∧ z1 (w'.heap[gb104]? = some (.cells #[.int .u64 x105000_1,.int .u64 x105001_1] 38 (0,0))) ∧ z1 (Below w.heap.size w w'))
 case atStart=>exact ⟨(0),(0),(0),zz50,H',⟨Nat.le_refl _⟩,⟨by (with_reducible repeat (first|refine zc ?_ _|refine ze ?_|refine zb ?_ _));exact BK101.out⟩,⟨by (with_reducible repeat (first|refine zc ?_ _|refine ze ?_|refine zb ?_ _));exact BK102.out⟩,⟨by (with_reducible repeat (first|refine zc ?_ _|refine ze ?_|refine zb ?_ _));exact BK103.out⟩,⟨by (with_reducible repeat (first|refine zc ?_ _|refine ze ?_|refine zb ?_ _));exact BK104.out⟩,⟨by repeat (first|(with_reducible first|exact HB.out|apply z7|apply z3|apply z5|refine zf ?_ GE101.out|refine zf ?_ GE102.out|refine zf ?_ GE103.out|refine zf ?_ GE104.out)|exact HB.out)⟩⟩
 case round =>
  clear H'
  (try clear p2);(try clear c6)
  obtain ⟨x6_1,x105000_1,x105001_1,rfl,HA,HK1,BK101,BK102,BK103,BK104,HB⟩:=hrel
  cases gk with
  | zero=>exact absurd HA.out (by simp [zh.l0])
  | succ k1 =>
   have H:=HA.out
   clear HA
   simp only [zh.l0] at H
   by_cases c7 : x6_1 < 128
   rotate_left
   · rw [if_neg c7] at H
     have c7b0 : decide (x6_1 < 128) = false:=decide_eq_false c7
     clear c7
     simp only [Option.some.injEq,Prod.mk.injEq] at H
     obtain ⟨rfl,rfl⟩:=H
     have hnb54:=NB104_101.out
     have hnc54:=NB101_104.out
     have hnb55:=NB104_102.out
     have hnc55:=NB102_104.out
     have hnb56:=NB104_103.out
     have hnc56:=NB103_104.out
     have hcz57_0 : wr.cell? ⟨gb104,0,none⟩ = some (.int .u64 x105000_1):=(z4 BK104.out 0).trans rfl
     have hcz57_1 : wr.cell? ⟨gb104,1,none⟩ = some (.int .u64 x105001_1):=(z4 BK104.out 1).trans rfl
     have hfz57_0:=z6 BK104.out 0
     have hfz57_1:=z6 BK104.out 1
     have hnb58:=NB103_101.out
     have hnc58:=NB101_103.out
     have hnb59:=NB103_102.out
     have hnc59:=NB102_103.out
     have hcz60_0 : wr.cell? ⟨gb103,0,none⟩ = some (.int .u64 0):=(z4 BK103.out 0).trans rfl
     have hcz60_1 : wr.cell? ⟨gb103,1,none⟩ = some (.int .u64 0):=(z4 BK103.out 1).trans rfl
     have hfz60_0:=z6 BK103.out 0
     have hfz60_1:=z6 BK103.out 1
     go_wp2
     refine bodyPost_ret (results_cell_row rfl _ _ gb103 38 #[.int .u64 x105000_1,.int .u64 x105001_1] (0,0) _ rfl (by (with_reducible repeat (first|refine zc ?_ _|refine ze ?_|refine zb ?_ _));refine z18 (cs:=#[.int .u64 x105000_1,.int .u64 0]) ?_ 1 _ rfl;(with_reducible repeat (first|refine zc ?_ _|refine ze ?_|refine zb ?_ _));refine z18 (cs:=#[.int .u64 0,.int .u64 0]) ?_ 0 _ rfl;(with_reducible repeat (first|refine zc ?_ _|refine ze ?_|refine zb ?_ _));exact BK103.out) Try.underlying38 rfl zz52) rfl ?_
     exact ⟨by first|rfl|(simp [zk,zl] <;> rfl)|(simp [*,zk,zl] <;> rfl),by repeat (first|(with_reducible first|exact HB.out|apply z7|apply z3|apply z5|refine zf ?_ GE101.out|refine zf ?_ GE102.out|refine zf ?_ GE103.out|refine zf ?_ GE104.out)|exact HB.out)⟩
   rw [if_pos c7] at H
   have c7b0 : decide (x6_1 < 128) = true:=decide_eq_true c7
   clear c7
   replace H:=Option.bind_eq_some_iff.mp H
   obtain ⟨t105,A80,H⟩:=H
   replace H : (if t105 = true then (zh.l1 k1 x6_1 0 a0_0 a0_1 a1_0 a1_1 x105000_1 x105001_1 a0_0 a0_1) else (zh.l0 k1 (wrap64 (x6_1 + 1)) a0_0 a0_1 a1_0 a1_1 x105000_1 x105001_1)) = some (r1,r2):=H
   have A8:=z1.mk A80
   clear A80
   by_cases c9 : t105 = true
   rotate_left
   · replace c9:=Bool.eq_false_iff.mpr c9
     subst c9
     have H1 : (zh.l0 k1 (wrap64 (x6_1 + 1)) a0_0 a0_1 a1_0 a1_1 x105000_1 x105001_1) = some (r1,r2):=by rw [if_neg (show ¬ (false = true) by decide)] at H;exact H
     clear H
     have H:=H1
     clear H1
     have H':=z1.mk H
     clear H
     have hnb49:=NB102_101.out
     have hnc49:=NB101_102.out
     have hnb50:=NB102_103.out
     have hnc50:=NB103_102.out
     have hnb51:=NB102_104.out
     have hnc51:=NB104_102.out
     have hcz52_0 : wr.cell? ⟨gb102,0,none⟩ = some (.int .u64 a1_0):=(z4 BK102.out 0).trans rfl
     have hcz52_1 : wr.cell? ⟨gb102,1,none⟩ = some (.int .u64 a1_1):=(z4 BK102.out 1).trans rfl
     have hfz52_0:=z6 BK102.out 0
     have hfz52_1:=z6 BK102.out 1
     go_wp2_with (first|((with_reducible refine zp (f:=46) rfl ?_);refine goesL_ (some 15) rfl rfl Try.func46 zz52 rfl #[.agg #[.int .u64 a1_0,.int .u64 a1_1],.int .i64 x6_1] rfl zz19 ?_;(with_reducible refine (zy.calls k1 a1_0 a1_1 x6_1 false _ A8.out).mono ?_);rintro e w53 ⟨rfl,hb⟩;refine ⟨_,rfl,?_⟩;have n0_:=z1.mk (zj (g:=gb101) (o:=.cells #[.int .u64 a0_0,.int .u64 a0_1] 38 (0,0)) zz22 hb);have n1_:=z1.mk (zj (g:=gb102) (o:=.cells #[.int .u64 a1_0,.int .u64 a1_1] 38 (0,0)) zz23 hb);have n2_:=z1.mk (zj (g:=gb103) (o:=.cells #[.int .u64 0,.int .u64 0] 38 (0,0)) zz27 hb);have n3_:=z1.mk (zj (g:=gb104) (o:=.cells #[.int .u64 x105000_1,.int .u64 x105001_1] 38 (0,0)) zz25 hb);have n4_:=z1.mk (z8 zz6 hb);clear BK101;clear BK102;clear BK103;clear BK104;clear HB;have BK101:=n0_;have BK102:=n1_;have BK103:=n2_;have BK104:=n3_;have HB:=n4_;clear n0_ n1_ n2_ n3_ n4_;(try clear hb);(try clear hb2);(try clear hk);(try clear hi)))
     go_roundg k1
     case measure=>have:=HK1.out;omega
     case rel=>exact ⟨(wrap64 (x6_1 + 1)),(x105000_1),(x105001_1),zz50,H',⟨by have:=HK1.out;omega⟩,⟨by (with_reducible repeat (first|refine zc ?_ _|refine ze ?_|refine zb ?_ _));exact BK101.out⟩,⟨by (with_reducible repeat (first|refine zc ?_ _|refine ze ?_|refine zb ?_ _));exact BK102.out⟩,⟨by (with_reducible repeat (first|refine zc ?_ _|refine ze ?_|refine zb ?_ _));exact BK103.out⟩,⟨by (with_reducible repeat (first|refine zc ?_ _|refine ze ?_|refine zb ?_ _));exact BK104.out⟩,⟨by repeat (first|(with_reducible first|exact HB.out|apply z7|apply z3|apply z5|refine zf ?_ GE101.out|refine zf ?_ GE102.out|refine zf ?_ GE103.out|refine zf ?_ GE104.out)|exact HB.out)⟩⟩
   subst c9
   have H1 : (zh.l1 k1 x6_1 0 a0_0 a0_1 a1_0 a1_1 x105000_1 x105001_1 a0_0 a0_1) = some (r1,r2):=by rw [if_pos rfl] at H;exact H
   clear H
   have H:=H1
   clear H1
   have H':=z1.mk H
   clear H
   have hnb10:=NB102_101.out
   have hnc10:=NB101_102.out
   have hnb11:=NB102_103.out
   have hnc11:=NB103_102.out
   have hnb12:=NB102_104.out
   have hnc12:=NB104_102.out
   have hcz13_0 : wr.cell? ⟨gb102,0,none⟩ = some (.int .u64 a1_0):=(z4 BK102.out 0).trans rfl
   have hcz13_1 : wr.cell? ⟨gb102,1,none⟩ = some (.int .u64 a1_1):=(z4 BK102.out 1).trans rfl
   have hfz13_0:=z6 BK102.out 0
   have hfz13_1:=z6 BK102.out 1
   go_wp2_with (first|((with_reducible refine zp (f:=46) rfl ?_);refine goesL_ (some 15) rfl rfl Try.func46 zz52 rfl #[.agg #[.int .u64 a1_0,.int .u64 a1_1],.int .i64 x6_1] rfl zz19 ?_;(with_reducible refine (zy.calls k1 a1_0 a1_1 x6_1 true _ A8.out).mono ?_);rintro e w14 ⟨rfl,hb⟩;refine ⟨_,rfl,?_⟩;have n0_:=z1.mk (zj (g:=gb101) (o:=.cells #[.int .u64 a0_0,.int .u64 a0_1] 38 (0,0)) zz22 hb);have n1_:=z1.mk (zj (g:=gb102) (o:=.cells #[.int .u64 a1_0,.int .u64 a1_1] 38 (0,0)) zz23 hb);have n2_:=z1.mk (zj (g:=gb103) (o:=.cells #[.int .u64 0,.int .u64 0] 38 (0,0)) zz27 hb);have n3_:=z1.mk (zj (g:=gb104) (o:=.cells #[.int .u64 x105000_1,.int .u64 x105001_1] 38 (0,0)) zz25 hb);have n4_:=z1.mk (z8 zz6 hb);clear BK101;clear BK102;clear BK103;clear BK104;clear HB;have BK101:=n0_;have BK102:=n1_;have BK103:=n2_;have BK104:=n3_;have HB:=n4_;clear n0_ n1_ n2_ n3_ n4_;(try clear hb);(try clear hb2);(try clear hk);(try clear hi);have hnb15:=NB101_103.out;have hnc15:=NB103_101.out;have hnb16:=NB101_104.out;have hnc16:=NB104_101.out;have hcz17_0 : w14.cell? ⟨gb101,0,none⟩ = some (.int .u64 a0_0):=(z4 BK101.out 0).trans rfl;have hcz17_1 : w14.cell? ⟨gb101,1,none⟩ = some (.int .u64 a0_1):=(z4 BK101.out 1).trans rfl;have hfz17_0:=z6 BK101.out 0;have hfz17_1:=z6 BK101.out 1)|((with_reducible refine zC (N:=7) rfl ?_);refine zD ?hg (N:=7) ?hd (cs:=#[.int .u64 0,.int .u64 0]) (t:=38) ?hr ?_;(case hd=>rfl);(case hg=>rfl);(case hr=>first|(go_simp;done)|(go_simp;rfl));intro gb106 hg w18 hbox hb;have n0_:=z1.mk (zj (g:=gb101) (o:=.cells #[.int .u64 a0_0,.int .u64 a0_1] 38 (0,0)) zz22 hb);have n1_:=z1.mk (zj (g:=gb102) (o:=.cells #[.int .u64 a1_0,.int .u64 a1_1] 38 (0,0)) zz23 hb);have n2_:=z1.mk (zj (g:=gb103) (o:=.cells #[.int .u64 0,.int .u64 0] 38 (0,0)) zz27 hb);have n3_:=z1.mk (zj (g:=gb104) (o:=.cells #[.int .u64 x105000_1,.int .u64 x105001_1] 38 (0,0)) zz25 hb);have n4_:=z1.mk (z8 zz6 hb);have n5_:=z1.mk (hbox);have n6_:=z1.mk ((by rw [hg];exact (zd zz6) : w.heap.size ≤ gb106));have n7_:=z1.mk ((by rw [hg];exact (zd zz6) : w.heap.size ≤ gb106));have n8_:=z1.mk ((by rw [hg];exact Nat.ne_of_lt (zP (g:=gb101) (o:=.cells #[.int .u64 a0_0,.int .u64 a0_1] 38 (0,0)) zz22) : gb101 ≠ gb106));have n9_:=z1.mk ((by rw [hg];exact Nat.ne_of_gt (zP (g:=gb101) (o:=.cells #[.int .u64 a0_0,.int .u64 a0_1] 38 (0,0)) zz22) : gb106 ≠ gb101));have n10_:=z1.mk ((by rw [hg];exact Nat.ne_of_lt (zP (g:=gb102) (o:=.cells #[.int .u64 a1_0,.int .u64 a1_1] 38 (0,0)) zz23) : gb102 ≠ gb106));have n11_:=z1.mk ((by rw [hg];exact Nat.ne_of_gt (zP (g:=gb102) (o:=.cells #[.int .u64 a1_0,.int .u64 a1_1] 38 (0,0)) zz23) : gb106 ≠ gb102));have n12_:=z1.mk ((by rw [hg];exact Nat.ne_of_lt (zP (g:=gb103) (o:=.cells #[.int .u64 0,.int .u64 0] 38 (0,0)) zz27) : gb103 ≠ gb106));have n13_:=z1.mk ((by rw [hg];exact Nat.ne_of_gt (zP (g:=gb103) (o:=.cells #[.int .u64 0,.int .u64 0] 38 (0,0)) zz27) : gb106 ≠ gb103));have n14_:=z1.mk ((by rw [hg];exact Nat.ne_of_lt (zP (g:=gb104) (o:=.cells #[.int .u64 x105000_1,.int .u64 x105001_1] 38 (0,0)) zz25) : gb104 ≠ gb106));have n15_:=z1.mk ((by rw [hg];exact Nat.ne_of_gt (zP (g:=gb104) (o:=.cells #[.int .u64 x105000_1,.int .u64 x105001_1] 38 (0,0)) zz25) : gb106 ≠ gb104));clear BK101;clear BK102;clear BK103;clear BK104;clear HB;have BK101:=n0_;have BK102:=n1_;have BK103:=n2_;have BK104:=n3_;have HB:=n4_;have BK106:=n5_;have GW106:=n6_;have GE106:=n7_;have NB101_106:=n8_;have NB106_101:=n9_;have NB102_106:=n10_;have NB106_102:=n11_;have NB103_106:=n12_;have NB106_103:=n13_;have NB104_106:=n14_;have NB106_104:=n15_;clear n0_ n1_ n2_ n3_ n4_ n5_ n6_ n7_ n8_ n9_ n10_ n11_ n12_ n13_ n14_ n15_;clear hb hbox hg;have hnb19:=NB106_101.out;have hnc19:=NB101_106.out;have hnb20:=NB106_102.out;have hnc20:=NB102_106.out;have hnb21:=NB106_103.out;have hnc21:=NB103_106.out;have hnb22:=NB106_104.out;have hnc22:=NB104_106.out;have hcz23_0 : w18.cell? ⟨gb106,0,none⟩ = some (.int .u64 0):=(z4 BK106.out 0).trans rfl;have hcz23_1 : w18.cell? ⟨gb106,1,none⟩ = some (.int .u64 0):=(z4 BK106.out 1).trans rfl;have hfz23_0:=z6 BK106.out 0;have hfz23_1:=z6 BK106.out 1))
   go_loopg [8] k1 (fun kq v8 w'=>∃ (x8_2 : Int) (x107000_2 : Int) (x107001_2 : Int),v8 = .int .i64 x8_2 ∧ z1 (zh.l1 kq x6_1 x8_2 a0_0 a0_1 a1_0 a1_1 x105000_1 x105001_1 x107000_2 x107001_2 = some (r1,r2)) ∧ z1 (kq ≤ k1) ∧ z1 (w'.heap[gb101]? = some (.cells #[.int .u64 a0_0,.int .u64 a0_1] 38 (0,0))) ∧ z1 (w'.heap[gb102]? = some (.cells #[.int .u64 a1_0,.int .u64 a1_1] 38 (0,0))) ∧ z1 (w'.heap[gb103]? = some (.cells #[.int .u64 0,.int .u64 0] 38 (0,0))) ∧ z1 (w'.heap[gb104]? = some (.cells #[.int .u64 x105000_1,.int .u64 x105001_1] 38 (0,0))) ∧ z1 (w'.heap[gb106]? = some (.cells #[.int .u64 x107000_2,.int .u64 x107001_2] 38 (0,0))) ∧ z1 (Below w.heap.size w w'))
   case atStart=>exact ⟨(0),(a0_0),(a0_1),zz50,H',⟨Nat.le_refl _⟩,⟨by (with_reducible repeat (first|refine zc ?_ _|refine ze ?_|refine zb ?_ _));refine z1d ?_ NB101_106.out _;(with_reducible repeat (first|refine zc ?_ _|refine ze ?_|refine zb ?_ _));refine z1d ?_ NB101_106.out _;(with_reducible repeat (first|refine zc ?_ _|refine ze ?_|refine zb ?_ _));exact BK101.out⟩,⟨by (with_reducible repeat (first|refine zc ?_ _|refine ze ?_|refine zb ?_ _));refine z1d ?_ NB102_106.out _;(with_reducible repeat (first|refine zc ?_ _|refine ze ?_|refine zb ?_ _));refine z1d ?_ NB102_106.out _;(with_reducible repeat (first|refine zc ?_ _|refine ze ?_|refine zb ?_ _));exact BK102.out⟩,⟨by (with_reducible repeat (first|refine zc ?_ _|refine ze ?_|refine zb ?_ _));refine z1d ?_ NB103_106.out _;(with_reducible repeat (first|refine zc ?_ _|refine ze ?_|refine zb ?_ _));refine z1d ?_ NB103_106.out _;(with_reducible repeat (first|refine zc ?_ _|refine ze ?_|refine zb ?_ _));exact BK103.out⟩,⟨by (with_reducible repeat (first|refine zc ?_ _|refine ze ?_|refine zb ?_ _));refine z1d ?_ NB104_106.out _;(with_reducible repeat (first|refine zc ?_ _|refine ze ?_|refine zb ?_ _));refine z1d ?_ NB104_106.out _;(with_reducible repeat (first|refine zc ?_ _|refine ze ?_|refine zb ?_ _));exact BK104.out⟩,⟨by (with_reducible repeat (first|refine zc ?_ _|refine ze ?_|refine zb ?_ _));refine z18 (cs:=#[.int .u64 a0_0,.int .u64 0]) ?_ 1 _ rfl;(with_reducible repeat (first|refine zc ?_ _|refine ze ?_|refine zb ?_ _));refine z18 (cs:=#[.int .u64 0,.int .u64 0]) ?_ 0 _ rfl;(with_reducible repeat (first|refine zc ?_ _|refine ze ?_|refine zb ?_ _));exact BK106.out⟩,⟨by repeat (first|(with_reducible first|exact HB.out|apply z7|apply z3|apply z5|refine zf ?_ GE101.out|refine zf ?_ GE102.out|refine zf ?_ GE103.out|refine zf ?_ GE104.out|refine zf ?_ GE106.out)|exact HB.out)⟩⟩
   case round =>
    clear H'
    (try clear c1);(try clear c2);(try clear p2);(try clear c4);(try clear c6);(try clear p6);(try clear c7);(try clear c7b0);(try clear c9);(try clear c10);(try clear c11);(try clear c12);(try clear c15);(try clear c16);(try clear c19);(try clear c20);(try clear c21);(try clear c22);(try clear hcz13_0);(try clear hcz13_1);(try clear hcz17_0);(try clear hcz17_1);(try clear hcz23_0);(try clear hcz23_1);(try clear hfz13_0);(try clear hfz13_1);(try clear hfz17_0);(try clear hfz17_1);(try clear hfz23_0);(try clear hfz23_1);(try clear p2)
    obtain ⟨x8_2,x107000_2,x107001_2,rfl,HA,HK2,BK101,BK102,BK103,BK104,BK106,HB⟩:=hrel
    cases gk with
    | zero=>exact absurd HA.out (by simp [zh.l1])
    | succ k2 =>
     have H:=HA.out
     clear HA
     simp only [zh.l1] at H
     by_cases c24 : x8_2 < 7
     rotate_left
     · rw [if_neg c24] at H
       have c24b0 : decide (x8_2 < 7) = false:=decide_eq_false c24
       clear c24
       replace H:=Option.bind_eq_some_iff.mp H
       obtain ⟨⟨t109,t110⟩,A370,H⟩:=H
       replace H : (zh.l0 k2 (wrap64 (x6_1 + 1)) a0_0 a0_1 a1_0 a1_1 t109 t110) = some (r1,r2):=H
       have A37:=z1.mk A370
       clear A370
       have H':=z1.mk H
       clear H
       have hnb38:=NB104_101.out
       have hnc38:=NB101_104.out
       have hnb39:=NB104_102.out
       have hnc39:=NB102_104.out
       have hnb40:=NB104_103.out
       have hnc40:=NB103_104.out
       have hnb41:=NB104_106.out
       have hnc41:=NB106_104.out
       have hcz42_0 : wr.cell? ⟨gb104,0,none⟩ = some (.int .u64 x105000_1):=(z4 BK104.out 0).trans rfl
       have hcz42_1 : wr.cell? ⟨gb104,1,none⟩ = some (.int .u64 x105001_1):=(z4 BK104.out 1).trans rfl
       have hfz42_0:=z6 BK104.out 0
       have hfz42_1:=z6 BK104.out 1
       have hnb43:=NB106_101.out
       have hnc43:=NB101_106.out
       have hnb44:=NB106_102.out
       have hnc44:=NB102_106.out
       have hnb45:=NB106_103.out
       have hnc45:=NB103_106.out
       have hcz46_0 : wr.cell? ⟨gb106,0,none⟩ = some (.int .u64 x107000_2):=(z4 BK106.out 0).trans rfl
       have hcz46_1 : wr.cell? ⟨gb106,1,none⟩ = some (.int .u64 x107001_2):=(z4 BK106.out 1).trans rfl
       have hfz46_0:=z6 BK106.out 0
       have hfz46_1:=z6 BK106.out 1
       go_wp2_with (first|((with_reducible refine zp (f:=47) rfl ?_);refine goesL_ (some 33) rfl rfl Try.func47 zz52 rfl #[.agg #[.int .u64 x105000_1,.int .u64 x105001_1],.agg #[.int .u64 x107000_2,.int .u64 x107001_2]] rfl zz19 ?_;(with_reducible refine (z1h.calls x105000_1 x105001_1 x107000_2 x107001_2 t109 t110 _ A37.out).mono ?_);rintro e w47 ⟨rfl,hb⟩;refine ⟨_,rfl,?_⟩;have n0_:=z1.mk (zj (g:=gb101) (o:=.cells #[.int .u64 a0_0,.int .u64 a0_1] 38 (0,0)) zz22 hb);have n1_:=z1.mk (zj (g:=gb102) (o:=.cells #[.int .u64 a1_0,.int .u64 a1_1] 38 (0,0)) zz23 hb);have n2_:=z1.mk (zj (g:=gb103) (o:=.cells #[.int .u64 0,.int .u64 0] 38 (0,0)) zz27 hb);have n3_:=z1.mk (zj (g:=gb104) (o:=.cells #[.int .u64 x105000_1,.int .u64 x105001_1] 38 (0,0)) zz25 hb);have n4_:=z1.mk (zj (g:=gb106) (o:=.cells #[.int .u64 x107000_2,.int .u64 x107001_2] 38 (0,0)) zz24 hb);have n5_:=z1.mk (z8 zz5 hb);clear BK101;clear BK102;clear BK103;clear BK104;clear BK106;clear HB;have BK101:=n0_;have BK102:=n1_;have BK103:=n2_;have BK104:=n3_;have BK106:=n4_;have HB:=n5_;clear n0_ n1_ n2_ n3_ n4_ n5_;(try clear hb);(try clear hb2);(try clear hk);(try clear hi);have hcz48_0 : w47.cell? ⟨gb104,0,none⟩ = some (.int .u64 x105000_1):=(z4 BK104.out 0).trans rfl;have hcz48_1 : w47.cell? ⟨gb104,1,none⟩ = some (.int .u64 x105001_1):=(z4 BK104.out 1).trans rfl;have hfz48_0:=z6 BK104.out 0;have hfz48_1:=z6 BK104.out 1))
       go_roundg k2
       case measure=>have:=HK1.out;have:=HK2.out;omega
       case rel=>exact ⟨(wrap64 (x6_1 + 1)),(t109),(t110),zz50,H',⟨by have:=HK1.out;have:=HK2.out;omega⟩,⟨by (with_reducible repeat (first|refine zc ?_ _|refine ze ?_|refine zb ?_ _));refine z1d ?_ NB101_104.out _;(with_reducible repeat (first|refine zc ?_ _|refine ze ?_|refine zb ?_ _));refine z1d ?_ NB101_104.out _;(with_reducible repeat (first|refine zc ?_ _|refine ze ?_|refine zb ?_ _));exact BK101.out⟩,⟨by (with_reducible repeat (first|refine zc ?_ _|refine ze ?_|refine zb ?_ _));refine z1d ?_ NB102_104.out _;(with_reducible repeat (first|refine zc ?_ _|refine ze ?_|refine zb ?_ _));refine z1d ?_ NB102_104.out _;(with_reducible repeat (first|refine zc ?_ _|refine ze ?_|refine zb ?_ _));exact BK102.out⟩,⟨by (with_reducible repeat (first|refine zc ?_ _|refine ze ?_|refine zb ?_ _));refine z1d ?_ NB103_104.out _;(with_reducible repeat (first|refine zc ?_ _|refine ze ?_|refine zb ?_ _));refine z1d ?_ NB103_104.out _;(with_reducible repeat (first|refine zc ?_ _|refine ze ?_|refine zb ?_ _));exact BK103.out⟩,⟨by (with_reducible repeat (first|refine zc ?_ _|refine ze ?_|refine zb ?_ _));refine z18 (cs:=#[.int .u64 t109,.int .u64 x105001_1]) ?_ 1 _ rfl;(with_reducible repeat (first|refine zc ?_ _|refine ze ?_|refine zb ?_ _));refine z18 (cs:=#[.int .u64 x105000_1,.int .u64 x105001_1]) ?_ 0 _ rfl;(with_reducible repeat (first|refine zc ?_ _|refine ze ?_|refine zb ?_ _));exact BK104.out⟩,⟨by repeat (first|(with_reducible first|exact HB.out|apply z7|apply z3|apply z5|refine zf ?_ GE101.out|refine zf ?_ GE102.out|refine zf ?_ GE103.out|refine zf ?_ GE104.out|refine zf ?_ GE106.out)|exact HB.out)⟩⟩
     rw [if_pos c24] at H
     have c24b0 : decide (x8_2 < 7) = true:=decide_eq_true c24
     clear c24
     obtain ⟨ji25,hji25⟩ : ∃ j_ : Int,(IntKind.u64.wrap (x8_2)) = j_:=⟨_,rfl⟩
     replace H : (if 0 ≤ (ji25) then (if (Go.bits .and .i64 (shr .i64 x6_1 (ji25)) 1) = 1 then ((zr.f k2 x8_2 x107000_2 x107001_2).bind fun bt107=>(zh.l1 k2 x6_1 (wrap64 (x8_2 + 1)) a0_0 a0_1 a1_0 a1_1 x105000_1 x105001_1 bt107.1 bt107.2)) else (zh.l1 k2 x6_1 (wrap64 (x8_2 + 1)) a0_0 a0_1 a1_0 a1_1 x105000_1 x105001_1 x107000_2 x107001_2)) else (none)) = some (r1,r2):=by first|(rw [hji25] at H;exact H)|(simp only [hji25] at H ⊢;exact H)
     by_cases c26 : 0 ≤ (ji25)
     rotate_left
     · rw [if_neg c26] at H
       exact absurd H zz55
     rw [if_pos c26] at H
     have c26b0:=eq_true c26
     have c26b1 : decide (0 ≤ (ji25)) = true:=decide_eq_true c26
     clear c26
     obtain ⟨ji27,hji27⟩ : ∃ j_ : Int,(shr .i64 x6_1 (ji25)) = j_:=⟨_,rfl⟩
     replace H : (if (Go.bits .and .i64 (ji27) 1) = 1 then ((zr.f k2 x8_2 x107000_2 x107001_2).bind fun bt107=>(zh.l1 k2 x6_1 (wrap64 (x8_2 + 1)) a0_0 a0_1 a1_0 a1_1 x105000_1 x105001_1 bt107.1 bt107.2)) else (zh.l1 k2 x6_1 (wrap64 (x8_2 + 1)) a0_0 a0_1 a1_0 a1_1 x105000_1 x105001_1 x107000_2 x107001_2)) = some (r1,r2):=by first|(rw [hji27] at H;exact H)|(simp only [hji27] at H ⊢;exact H)
     have hji27_ : (x6_1 / 2 ^ min (ji25).toNat 64) = ji27:=hji27
     have hji27z : (ji25) ≤ 64 → (x6_1 / 2 ^ (ji25).toNat) = ji27:=z28 hji27
     by_cases c28 : (Go.bits .and .i64 (ji27) 1) = 1
     rotate_left
     · rw [if_neg c28] at H
       have c28b0 : ((Go.bits .and .i64 (ji27) 1) == 1) = false:=beq_eq_false_iff_ne.mpr c28
       have c28b1 : ((Go.bits .and .i64 (ji27) 1) != 1) = true:=bne_iff_ne.mpr c28
       have H':=z1.mk H
       clear H
       go_wp2
       go_roundg k2
       case measure=>have:=HK1.out;have:=HK2.out;omega
       case rel=>exact ⟨(wrap64 (x8_2 + 1)),(x107000_2),(x107001_2),zz50,H',⟨by have:=HK1.out;have:=HK2.out;omega⟩,⟨by (with_reducible repeat (first|refine zc ?_ _|refine ze ?_|refine zb ?_ _));exact BK101.out⟩,⟨by (with_reducible repeat (first|refine zc ?_ _|refine ze ?_|refine zb ?_ _));exact BK102.out⟩,⟨by (with_reducible repeat (first|refine zc ?_ _|refine ze ?_|refine zb ?_ _));exact BK103.out⟩,⟨by (with_reducible repeat (first|refine zc ?_ _|refine ze ?_|refine zb ?_ _));exact BK104.out⟩,⟨by (with_reducible repeat (first|refine zc ?_ _|refine ze ?_|refine zb ?_ _));exact BK106.out⟩,⟨by repeat (first|(with_reducible first|exact HB.out|apply z7|apply z3|apply z5|refine zf ?_ GE101.out|refine zf ?_ GE102.out|refine zf ?_ GE103.out|refine zf ?_ GE104.out|refine zf ?_ GE106.out)|exact HB.out)⟩⟩
     rw [if_pos c28] at H
     have c28b0 : ((Go.bits .and .i64 (ji27) 1) == 1) = true:=beq_iff_eq.mpr c28
     have c28b1 : ((Go.bits .and .i64 (ji27) 1) != 1) = false:=bne_eq_false_iff_eq.mpr c28
     clear c28
     replace H:=Option.bind_eq_some_iff.mp H
     obtain ⟨⟨t107,t108⟩,A290,H⟩:=H
     replace H : (zh.l1 k2 x6_1 (wrap64 (x8_2 + 1)) a0_0 a0_1 a1_0 a1_1 x105000_1 x105001_1 t107 t108) = some (r1,r2):=H
     have A29:=z1.mk A290
     clear A290
     have H':=z1.mk H
     clear H
     have hnb30:=NB106_101.out
     have hnc30:=NB101_106.out
     have hnb31:=NB106_102.out
     have hnc31:=NB102_106.out
     have hnb32:=NB106_103.out
     have hnc32:=NB103_106.out
     have hnb33:=NB106_104.out
     have hnc33:=NB104_106.out
     have hcz34_0 : wr.cell? ⟨gb106,0,none⟩ = some (.int .u64 x107000_2):=(z4 BK106.out 0).trans rfl
     have hcz34_1 : wr.cell? ⟨gb106,1,none⟩ = some (.int .u64 x107001_2):=(z4 BK106.out 1).trans rfl
     have hfz34_0:=z6 BK106.out 0
     have hfz34_1:=z6 BK106.out 1
     go_wp2_with (first|((with_reducible refine zp (f:=79) rfl ?_);refine goesL_ (some 30) rfl rfl Try.func79 zz52 rfl #[.int .i64 x8_2,.agg #[.int .u64 x107000_2,.int .u64 x107001_2]] rfl zz19 ?_;(with_reducible refine (zr.calls k2 x8_2 x107000_2 x107001_2 t107 t108 _ A29.out).mono ?_);rintro e w35 ⟨rfl,hb⟩;refine ⟨_,rfl,?_⟩;have n0_:=z1.mk (zj (g:=gb101) (o:=.cells #[.int .u64 a0_0,.int .u64 a0_1] 38 (0,0)) zz22 hb);have n1_:=z1.mk (zj (g:=gb102) (o:=.cells #[.int .u64 a1_0,.int .u64 a1_1] 38 (0,0)) zz23 hb);have n2_:=z1.mk (zj (g:=gb103) (o:=.cells #[.int .u64 0,.int .u64 0] 38 (0,0)) zz27 hb);have n3_:=z1.mk (zj (g:=gb104) (o:=.cells #[.int .u64 x105000_1,.int .u64 x105001_1] 38 (0,0)) zz25 hb);have n4_:=z1.mk (zj (g:=gb106) (o:=.cells #[.int .u64 x107000_2,.int .u64 x107001_2] 38 (0,0)) zz24 hb);have n5_:=z1.mk (z8 zz5 hb);clear BK101;clear BK102;clear BK103;clear BK104;clear BK106;clear HB;have BK101:=n0_;have BK102:=n1_;have BK103:=n2_;have BK104:=n3_;have BK106:=n4_;have HB:=n5_;clear n0_ n1_ n2_ n3_ n4_ n5_;(try clear hb);(try clear hb2);(try clear hk);(try clear hi);have hcz36_0 : w35.cell? ⟨gb106,0,none⟩ = some (.int .u64 x107000_2):=(z4 BK106.out 0).trans rfl;have hcz36_1 : w35.cell? ⟨gb106,1,none⟩ = some (.int .u64 x107001_2):=(z4 BK106.out 1).trans rfl;have hfz36_0:=z6 BK106.out 0;have hfz36_1:=z6 BK106.out 1))
     go_roundg k2
     case measure=>have:=HK1.out;have:=HK2.out;omega
     case rel=>exact ⟨(wrap64 (x8_2 + 1)),(t107),(t108),zz50,H',⟨by have:=HK1.out;have:=HK2.out;omega⟩,⟨by (with_reducible repeat (first|refine zc ?_ _|refine ze ?_|refine zb ?_ _));refine z1d ?_ NB101_106.out _;(with_reducible repeat (first|refine zc ?_ _|refine ze ?_|refine zb ?_ _));refine z1d ?_ NB101_106.out _;(with_reducible repeat (first|refine zc ?_ _|refine ze ?_|refine zb ?_ _));exact BK101.out⟩,⟨by (with_reducible repeat (first|refine zc ?_ _|refine ze ?_|refine zb ?_ _));refine z1d ?_ NB102_106.out _;(with_reducible repeat (first|refine zc ?_ _|refine ze ?_|refine zb ?_ _));refine z1d ?_ NB102_106.out _;(with_reducible repeat (first|refine zc ?_ _|refine ze ?_|refine zb ?_ _));exact BK102.out⟩,⟨by (with_reducible repeat (first|refine zc ?_ _|refine ze ?_|refine zb ?_ _));refine z1d ?_ NB103_106.out _;(with_reducible repeat (first|refine zc ?_ _|refine ze ?_|refine zb ?_ _));refine z1d ?_ NB103_106.out _;(with_reducible repeat (first|refine zc ?_ _|refine ze ?_|refine zb ?_ _));exact BK103.out⟩,⟨by (with_reducible repeat (first|refine zc ?_ _|refine ze ?_|refine zb ?_ _));refine z1d ?_ NB104_106.out _;(with_reducible repeat (first|refine zc ?_ _|refine ze ?_|refine zb ?_ _));refine z1d ?_ NB104_106.out _;(with_reducible repeat (first|refine zc ?_ _|refine ze ?_|refine zb ?_ _));exact BK104.out⟩,⟨by (with_reducible repeat (first|refine zc ?_ _|refine ze ?_|refine zb ?_ _));refine z18 (cs:=#[.int .u64 t107,.int .u64 x107001_2]) ?_ 1 _ rfl;(with_reducible repeat (first|refine zc ?_ _|refine ze ?_|refine zb ?_ _));refine z18 (cs:=#[.int .u64 x107000_2,.int .u64 x107001_2]) ?_ 0 _ rfl;(with_reducible repeat (first|refine zc ?_ _|refine ze ?_|refine zb ?_ _));exact BK106.out⟩,⟨by repeat (first|(with_reducible first|exact HB.out|apply z7|apply z3|apply z5|refine zf ?_ GE101.out|refine zf ?_ GE102.out|refine zf ?_ GE103.out|refine zf ?_ GE104.out|refine zf ?_ GE106.out)|exact HB.out)⟩⟩
end Go.Proofs.Ytnhbdhgbmjcjdaa.P
/- The document's product of elements is the tower's. Own text. -/
namespace Go.Proofs.Ytnhbdhgbmjcjdaa.Sp
open Go.RowKit Go.Proofs.YtnhbdhgbmjcjdaaW.PrintWords Go.Proofs.YtnhbdhgbmjcjdaaW.PrintMore Go.Proofs.Ytnhbdhgbmjcjdaa.P Go.Proofs.Ytnhbdhgbmjcjdaa.Ar Go.Proofs.Ytnhbdhgbmjcjdaa.Tw
set_option linter.unusedVariables false
set_option linter.unusedSimpArgs false
theorem z5N : ∀ j : Nat, j < 6 → zR.f (j : Int) = some ((M j 6 : Nat) : Int) := by decide +kernel
theorem tw_lt {j v : Nat} (hj : j ≤ 6) (hv : v < Q 6) : tw 6 j v < Q 6 := by rw [tw_eq hj hv]; exact z1i _
theorem shlw (a w : Nat) (hw : w ≤ 64) : shl .u64 (a : Int) (w : Int) = (((a * 2 ^ w) % 2 ^ 64 : Nat) : Int) := by
  unfold shl
  have h64 : IntKind.u64.bits = 64 := rfl
  rw [h64, Int.toNat_natCast, Nat.min_eq_left hw]
  have hc : ((a : Int) * 2 ^ w) = ((a * 2 ^ w : Nat) : Int) := by simp
  rw [hc]
  simp [IntKind.wrap, IntKind.bits, IntKind.signed]
theorem z2m : ∀ (j : Nat), j ≤ 6 → ∀ (v : Nat), v < Q 6 → Ev (fun k => zo.f k ((j : Int) - 1) (v : Int)) ((tw 6 j v : Nat) : Int) := by
  intro j
  induction j with
  | zero =>
    intro _ v hv
    have h0 : (((0 : Nat) : Int) - 1) < 0 := by decide
    refine Ev.step (fun k => by rw [zo.f]) (Ev.pos h0 ?_)
    exact Ev.ret' rfl
  | succ j ih =>
    intro hj v hv
    have h32 := z1I (n := j) (by omega)
    have hw : IntKind.u64.wrap (((j + 1 : Nat) : Int) - 1) = (j : Int) := by rw [z2e (by omega) (by omega)]; omega
    have hw2 : wrap64 (((j + 1 : Nat) : Int) - 1 - 1) = (j : Int) - 1 := by rw [z1P (by omega) (by omega)]; omega
    have hj1 : (((j + 1 : Nat) : Int) - 1) = (j : Int) := by omega
    have hQ6 : Q 6 = 2 ^ 64 := rfl
    have hM : M j 6 < 2 ^ 64 := by rw [← hQ6]; exact M_lt_Q (by omega)
    have hd : v / 2 ^ 2 ^ j < 2 ^ 64 := Nat.lt_of_le_of_lt (Nat.div_le_self _ _) hv
    have hhi : (v / 2 ^ 2 ^ j) &&& M j 6 < 2 ^ 64 := Nat.and_lt_two_pow _ hM
    have hlo : v &&& M j 6 < 2 ^ 64 := Nat.and_lt_two_pow _ hM
    have hrec := ih (by omega) _ hhi
    have htw : tw 6 j ((v / 2 ^ 2 ^ j) &&& M j 6) < 2 ^ 64 := tw_lt (by omega) hhi
    rw [hj1] at hw hw2 ⊢
    refine Ev.step (fun k => by rw [zo.f]) (Ev.neg (by omega) ?_)
    simp only [hw]
    refine Ev.pos (Int.natCast_nonneg _) (Ev.bnd0 (z5N j (by omega)) (Ev.bnd0 (z5N j (by omega)) ?_))
    simp only [z2l j (by omega), z46 v (2 ^ j) (by omega), z20 _ _ hd hM, z20 _ _ hv hM, hw2]
    refine Ev.bnd hrec (Ev.ret' ?_)
    rw [z1B _ _ hlo htw, shlw _ _ (by omega), z4N _ _ (Nat.mod_lt _ (by decide)) hhi]
    rfl
/-- The generator of a level, as an element of the greatest one. -/
def gE (m : Nat) : E := of 7 (val (gen m))
theorem tw_hi {j : Nat} (hj : j ≤ 6) (x : T 6) : tw 6 j (val x) = val (of 6 (val (gen j)) * x) := by rw [tw_eq hj (z1i x), z1A]
theorem Times_ev (j : Nat) (hj : j ≤ 6) (x : E) : Ev (fun k => zr.f k (j : Int) (hi x) (lo x)) (hi (gE (j + 1) * x), lo (gE (j + 1) * x)) := by
  unfold zr.f
  by_cases c : j < 6
  · refine Ev.pos (by omega) ?_
    have h1 := z2m (j + 1) (by omega) (val x.1) (z1i x.1)
    have h2 := z2m (j + 1) (by omega) (val x.2) (z1i x.2)
    rw [show (((j + 1 : Nat) : Int) - 1) = (j : Int) by omega] at h1 h2
    refine Ev.bnd h1 (Ev.bnd h2 (Ev.ret' ?_))
    have e : gE (j + 1) = up (of 6 (val (gen (j + 1)))) := z4h (Nat.lt_of_lt_of_le (z4e (j + 1)) (z2B (by omega)))
    rw [e, z2P, tw_hi (by omega), tw_hi (by omega)]; rfl
  · have : j = 6 := by omega
    subst this
    refine Ev.neg (by decide) ?_
    have h1 := z2m 6 (by omega) (val x.1) (z1i x.1)
    refine Ev.bnd h1 (Ev.ret' ?_)
    have e : gE 7 = gen 7 := z1A _
    have ev : of 6 (val (gen 6)) = gen 6 := z1A _
    rw [tw_hi (by omega), e, ev]
    unfold hi lo
    rw [z1B _ _ (z1i _) (z1i _), ← z1u]
    have m1 : (gen 7 * x).1 = x.2 + gen 6 * x.1 := by rw [z1K, z2h, z2i, one_mul, zero_mul, one_mul, add_zero]
    have m2 : (gen 7 * x).2 = x.1 := by rw [z1L, z2h, z2i, one_mul, zero_mul, zero_add]
    rw [m1, m2]
/-- The element with one bit. -/
def bitE (n : Nat) : E := of 7 (2 ^ n)
theorem z4y {n : Nat} (hn : n < 128) : hi (bitE n) = (if n < 64 then 0 else ((2 ^ (n - 64) : Nat) : Int)) ∧ lo (bitE n) = (if n < 64 then ((2 ^ n : Nat) : Int) else 0) := by
  unfold bitE hi lo
  rw [z1M, z1Y, z27]
  have hQ : Q 6 = 2 ^ 64 := rfl
  by_cases c : n < 64
  · have h1 : 2 ^ n < Q 6 := by rw [hQ]; exact Nat.pow_lt_pow_right (by decide) c
    rw [if_pos c, if_pos c, Nat.div_eq_of_lt h1, Nat.mod_eq_of_lt h1, z1J _ _ h1, z2j, z1r]; exact ⟨rfl, rfl⟩
  · have e : 2 ^ n = 2 ^ (n - 64) * Q 6 + 0 := by rw [hQ, ← Nat.pow_add, Nat.add_zero]; congr 1; omega
    have h2 : 2 ^ (n - 64) < Q 6 := by rw [hQ]; exact Nat.pow_lt_pow_right (by decide) (by omega)
    rw [if_neg c, if_neg c, e, z2p (z23 6), z2q (z23 6), z1J _ _ h2, z2j, z1r]; exact ⟨rfl, rfl⟩
theorem z4m (n : Nat) (hn : n < 128) : Ev (fun k => zt.f k (n : Int)) (hi (bitE n), lo (bitE n)) := by
  obtain ⟨h1, h2⟩ := z4y hn
  unfold zt.f
  refine Ev.neg (by omega) ?_
  rw [decide_eq_false (show ¬ ((n : Int) > 127) by omega), h1, h2]
  refine Ev.step (fun k => by rw [zt.j0]) (Ev.neg (by decide) ?_)
  by_cases c : n < 64
  · rw [if_pos c, if_pos c]
    refine Ev.neg (by omega) ?_
    rw [z2e (by omega) (by omega)]
    exact Ev.pos (Int.natCast_nonneg _) (Ev.ret' (by rw [z2l n (by omega)]))
  · rw [if_neg c, if_neg c]
    refine Ev.pos (by omega) ?_
    have e : IntKind.u64.wrap (wrap64 ((n : Int) - 64)) = ((n - 64 : Nat) : Int) := by
      rw [z1P (by omega) (by omega), z2e (by omega) (by omega)]; omega
    rw [e]
    exact Ev.pos (Int.natCast_nonneg _) (Ev.ret' (by rw [z2l (n - 64) (by omega)]))
theorem z3F (x n : Nat) : (x &&& 2 ^ n ≠ 0) ↔ x.testBit n = true := by
  constructor
  · intro h
    cases hb : x.testBit n with
    | true => rfl
    | false =>
      exfalso; apply h
      apply Nat.eq_of_testBit_eq
      intro i
      rw [Nat.testBit_and, Nat.zero_testBit]
      by_cases e : i = n
      · subst e; rw [hb, Bool.false_and]
      · rw [Nat.testBit_two_pow_of_ne (by omega), Bool.and_false]
  · intro h e
    have := congrArg (fun z => z.testBit n) e
    simp only [Nat.testBit_and, Nat.testBit_two_pow_self, Bool.and_true, Nat.zero_testBit] at this
    rw [h] at this; cases this
theorem hasBits (x : E) (n : Nat) (hn : n < 128) : ((Go.bits .or .u64 (Go.bits .and .u64 (lo x) (lo (bitE n))) (Go.bits .and .u64 (hi x) (hi (bitE n)))) != 0) = (val x).testBit n := by
  obtain ⟨h1, h2⟩ := z4y hn
  have hx1 := z1i x.1
  have hx2 := z1i x.2
  have hQ : Q 6 = 2 ^ 64 := rfl
  rw [hQ] at hx1 hx2
  have hv : val x = 2 ^ 64 * val x.1 + val x.2 := by rw [z1w, hQ, Nat.mul_comm]
  rw [h1, h2, hv]
  unfold hi lo
  by_cases c : n < 64
  · rw [if_pos c, if_pos c]
    have hp : 2 ^ n < 2 ^ 64 := Nat.pow_lt_pow_right (by decide) c
    have z : (0 : Int) = ((0 : Nat) : Int) := rfl
    rw [z, z20 _ _ hx2 hp, z20 _ _ hx1 (by decide), z4N _ _ (Nat.and_lt_two_pow _ hp) (Nat.and_lt_two_pow _ (by decide)), Nat.and_zero, Nat.or_zero]
    rw [Nat.testBit_two_pow_mul_add _ hx2, if_pos c, Bool.eq_iff_iff, ← z3F, bne_iff_ne]
    exact ⟨fun h e => h (by rw [e]), fun h e => h (by exact_mod_cast e)⟩
  · rw [if_neg c, if_neg c]
    have hp : 2 ^ (n - 64) < 2 ^ 64 := Nat.pow_lt_pow_right (by decide) (by omega)
    have z : (0 : Int) = ((0 : Nat) : Int) := rfl
    rw [z, z20 _ _ hx1 hp, z20 _ _ hx2 (by decide), z4N _ _ (Nat.and_lt_two_pow _ (by decide)) (Nat.and_lt_two_pow _ hp), Nat.and_zero, Nat.zero_or]
    rw [Nat.testBit_two_pow_mul_add _ hx2, if_neg c, Bool.eq_iff_iff, ← z3F, bne_iff_ne]
    exact ⟨fun h e => h (by rw [e]), fun h e => h (by exact_mod_cast e)⟩
theorem z5n (x : E) (n : Nat) (hn : n < 128) : Ev (fun k => zy.f k (hi x) (lo x) (n : Int)) ((val x).testBit n) := by
  unfold zy.f
  exact Ev.bnd (z4m n hn) (Ev.ret' (hasBits x n hn))
theorem and_one (n j : Nat) (hn : n < 2 ^ 63) (hj : j ≤ 64) : Go.bits .and .i64 (shr .i64 (n : Int) (j : Int)) 1 = (((n / 2 ^ j) % 2 : Nat) : Int) := by
  rw [shr_i64 n j hj]
  have := z4a (n / 2 ^ j) 1 (Nat.lt_of_le_of_lt (Nat.div_le_self _ _) hn) (by decide)
  simpa using this
theorem prod_l1 (a b acc : E) (n : Nat) (hn : n < 128) {R : Int × Int} (hk : Ev (fun k => zh.l0 k ((n + 1 : Nat) : Int) (hi a) (lo a) (hi b) (lo b) (hi (acc + gp 7 7 n * a)) (lo (acc + gp 7 7 n * a))) R) :
    ∀ (d j : Nat), j + d = 7 → Ev (fun k => zh.l1 k (n : Int) (j : Int) (hi a) (lo a) (hi b) (lo b) (hi acc) (lo acc) (hi (gp 7 j n * a)) (lo (gp 7 j n * a))) R := by
  intro d
  induction d with
  | zero =>
    intro j hj
    have : j = 7 := by omega
    subst this
    refine Ev.step (fun k => by rw [zh.l1]) (Ev.neg (by decide) (Ev.bnd0 (z4l acc _) ?_))
    simp only [z1D hn (by decide)]
    exact hk
  | succ d ih =>
    intro j hj
    have hu : IntKind.u64.wrap (j : Int) = (j : Int) := z2e (by omega) (by omega)
    have hih := ih (j + 1) (by omega)
    refine Ev.step (fun k => by rw [zh.l1]) (Ev.pos (by omega) ?_)
    simp only [hu, and_one n j (Nat.lt_trans hn (by decide)) (by omega), z1D (show j < 7 by omega) (by decide)]
    refine Ev.pos (Int.natCast_nonneg _) ?_
    have hgp : gp 7 (j + 1) n = (if n.testBit j then of 7 (val (gen (j + 1))) else 1) * gp 7 j n := rfl
    have htb : n.testBit j = decide ((n / 2 ^ j) % 2 = 1) := by rw [Nat.testBit_eq_decide_div_mod_eq]
    by_cases c : (n / 2 ^ j) % 2 = 1
    · refine Ev.pos (by omega) (Ev.bnd (Times_ev j (by omega) _) ?_)
      rw [hgp, htb, decide_eq_true c, if_pos rfl, mul_assoc] at hih
      exact hih
    · refine Ev.neg (by omega) ?_
      rw [hgp, htb, decide_eq_false c, if_neg (by decide), one_mul] at hih
      exact hih
theorem prod_l0 (a b : E) : ∀ (d n : Nat), n + d = 128 → Ev (fun k => zh.l0 k (n : Int) (hi a) (lo a) (hi b) (lo b) (hi (of 7 (val b % 2 ^ n) * a)) (lo (of 7 (val b % 2 ^ n) * a))) (hi (b * a), lo (b * a)) := by
  intro d
  induction d with
  | zero =>
    intro n hn
    have : n = 128 := by omega
    subst this
    have hb : val b % 2 ^ 128 = val b := Nat.mod_eq_of_lt (by have := z1i b; rw [z3P] at this; exact this)
    rw [hb, z1A]
    exact Ev.step (fun k => by rw [zh.l0]) (Ev.neg (by decide) (Ev.ret _))
  | succ d ih =>
    intro n hn
    have hn' : n < 128 := by omega
    have hih := ih (n + 1) (by omega)
    rw [bits_sum (val b) n (z1i b) (by simpa using hn')] at hih
    refine Ev.step (fun k => by rw [zh.l0]) (Ev.pos (by omega) (Ev.bnd (z5n b n hn') ?_))
    cases c : (val b).testBit n with
    | true =>
      refine Ev.pos rfl ?_
      rw [c, if_pos rfl, add_mul, ← gp_bit 7 n (by simpa using hn')] at hih
      have := prod_l1 a b _ n hn' hih 7 0 (by omega)
      have e0 : gp 7 0 n * a = a := one_mul a
      rw [e0] at this
      exact this
    | false =>
      refine Ev.neg (by decide) ?_
      rw [c, if_neg (by decide), add_zero] at hih
      simp only [z1D hn' (by decide)]
      exact hih
theorem Product_ev (x y : E) : Ev (fun k => zh.f k (hi x) (lo x) (hi y) (lo y)) (hi (x * y), lo (x * y)) := by
  unfold zh.f
  have := prod_l0 x y 128 0 (by decide)
  rw [Nat.pow_zero, Nat.mod_one, z2j, zero_mul, z2y, z2z, mul_comm y x] at this
  exact this
end Go.Proofs.Ytnhbdhgbmjcjdaa.Sp
namespace Go.Proofs.Ytnhbdhgbmjcjdaa.P
open Go.RowKit Go.Proofs.YtnhbdhgbmjcjdaaW.PrintWords Go.Proofs.YtnhbdhgbmjcjdaaW.PrintLast Go.Proofs.YtnhbdhgbmjcjdaaW.PrintMore
attribute [local go_sem] zX zZ z1a z1b zL zM zY z10   -- for this text's walks alone
set_option linter.unusedVariables false
set_option linter.unusedSimpArgs false
def zV.j0 : Nat → Int → Bool → Option (Int)
 | 0,_,_=>none
 | k + 1,x0,x3=>if x3 = true then (some 0) else (if x0 ≤ 3 then (some 1) else (if 0 ≤ (wrap64 (x0 - 3)) then (some (shl .i64 1 (wrap64 (x0 - 3)))) else (none)))
def zV.f (k : Nat) (a0 : Int) : Option (Int):=if a0 < 0 then (zV.j0 k a0 true) else (zV.j0 k a0 (decide (a0 > 7)))
theorem zV.z11 : ∀ k,(∀ y0 y1,LeO (zV.j0 k y0 y1) (zV.j0 (k + 1) y0 y1))
 | 0=>fun _ _ r h=>by simp [zV.j0] at h
 | k + 1=>by
  have ih0:=zV.z11 k
  · intro y0 y1
    unfold zV.j0
    repeat' first
    | (with_reducible exact ih0 _ _)
    | (with_reducible exact LeO.refl _)
    | (with_reducible exact LeO.none _)
    | (with_reducible refine LeO.ite ?_ ?_)
    | (with_reducible refine LeO.bind ?_ (fun _=>?_))
    | exact ih0 _ _
    | exact LeO.none _
    | refine LeO.ite ?_ ?_
    | refine LeO.bind ?_ (fun _=>?_)
theorem zV.mono : ∀ a0 k,LeO (zV.f k a0) (zV.f (k + 1) a0):=by
 intro a0 k
 have ih0:=zV.z11 k
 unfold zV.f
 repeat' first
  | (with_reducible exact ih0 _ _)
  | (with_reducible exact LeO.refl _)
  | (with_reducible exact LeO.none _)
  | (with_reducible refine LeO.ite ?_ ?_)
  | (with_reducible refine LeO.bind ?_ (fun _=>?_))
  | exact ih0 _ _
  | exact LeO.none _
  | refine LeO.ite ?_ ?_
  | refine LeO.bind ?_ (fun _=>?_)
set_option maxHeartbeats 8000000 in
set_option maxRecDepth 100000 in
theorem zV.calls (k : Nat) (a0 : Int) (r : Int) (w : World) (h : zV.f k a0 = some r) :
 Calls Try.prog 61 #[.int .i64 a0] w fun e w'=>e = .returned (.int .i64 r) ∧ Drawn0 w w':=by
 have H : (if a0 < 0 then (zV.j0 k a0 true) else (zV.j0 k a0 (decide (a0 > 7)))) = some r:=h
 clear h
 have HC2:=z1.mk H
 clear H
 go_enter Try.func61,Try.ntmps61
 go_upto_region 1 with (fail)
 go_cut [3] (fun v3 wc=>∃ (kq : Nat) (x3_1 : Bool),v3 = .bool x3_1 ∧ z1 (zV.j0 kq a0 x3_1 = some r) ∧ z1 (kq ≤ k) ∧ Drawn0 w wc)
 case first =>
  have H:=HC2.out
  clear HC2
  by_cases c3 : a0 < 0
  rotate_left
  · rw [if_neg c3] at H
    have c3b0 : decide (a0 < 0) = false:=decide_eq_false c3
    clear c3
    (first|rw [c3b0]|(simp only [zF,zG];rw [c3b0])|skip)
    have H':=z1.mk H
    clear H
    go_wp2
    go_meet
    case rel=>exact ⟨_,(decide (a0 > 7)),zz50,H',⟨by first|omega|exact Nat.le_refl _⟩,by repeat (first|exact Drawn0.refl _|apply Drawn0.step)⟩
  rw [if_pos c3] at H
  have c3b0 : decide (a0 < 0) = true:=decide_eq_true c3
  clear c3
  (first|rw [c3b0]|(simp only [zF,zG];rw [c3b0])|skip)
  have H':=z1.mk H
  clear H
  go_wp2
  go_meet
  case rel=>exact ⟨_,(true),zz50,H',⟨by first|omega|exact Nat.le_refl _⟩,by repeat (first|exact Drawn0.refl _|apply Drawn0.step)⟩
 case rest =>
  clear HC2
  (try clear p2);(try clear c3);(try clear c3b0)
  obtain ⟨kq,x3_1,rfl,HA,HJ1,⟨mc1,rfl⟩⟩:=hcut
  cases kq with
  | zero=>exact absurd HA.out (by simp [zV.j0])
  | succ kj1 =>
   have H:=HA.out
   clear HA
   simp only [zV.j0] at H
   by_cases c4 : x3_1 = true
   · subst c4
     have H1 : (some 0) = some r:=by rw [if_pos rfl] at H;exact H
     clear H
     have H:=H1
     clear H1
     obtain rfl:=Option.some.inj H
     go_wp2
     go_ret
     exact ⟨by first|rfl|(simp;done)|(simp [*];done),by repeat (first|exact Drawn0.refl _|apply Drawn0.step)⟩
   replace c4:=Bool.eq_false_iff.mpr c4
   subst c4
   have H1 : (if a0 ≤ 3 then (some 1) else (if 0 ≤ (wrap64 (a0 - 3)) then (some (shl .i64 1 (wrap64 (a0 - 3)))) else (none))) = some r:=by rw [if_neg (show ¬ (false = true) by decide)] at H;exact H
   clear H
   have H:=H1
   clear H1
   by_cases c5 : a0 ≤ 3
   · rw [if_pos c5] at H
     have c5b0 : decide (a0 ≤ 3) = true:=decide_eq_true c5
     clear c5
     obtain rfl:=Option.some.inj H
     go_wp2
     go_ret
     exact ⟨by first|rfl|(simp;done)|(simp [*];done),by repeat (first|exact Drawn0.refl _|apply Drawn0.step)⟩
   rw [if_neg c5] at H
   have c5b0 : decide (a0 ≤ 3) = false:=decide_eq_false c5
   clear c5
   obtain ⟨ji6,hji6⟩ : ∃ j_ : Int,(wrap64 (a0 - 3)) = j_:=⟨_,rfl⟩
   replace H : (if 0 ≤ (ji6) then (some (shl .i64 1 (ji6))) else (none)) = some r:=by first|(rw [hji6] at H;exact H)|(simp only [hji6] at H ⊢;exact H)
   have hji6w : (IntKind.i64.wrap (a0 - 3)) = ji6:=(zF _).trans hji6
   by_cases c7 : 0 ≤ (ji6)
   rotate_left
   · rw [if_neg c7] at H
     exact absurd H zz55
   rw [if_pos c7] at H
   have c7b0:=eq_true c7
   have c7b1 : decide (0 ≤ (ji6)) = true:=decide_eq_true c7
   clear c7
   obtain ⟨ji8,hji8⟩ : ∃ j_ : Int,(shl .i64 1 (ji6)) = j_:=⟨_,rfl⟩
   replace H : (some ji8) = some r:=by first|(rw [hji8] at H;exact H)|(simp only [hji8] at H ⊢;exact H)
   have hji8_ : (IntKind.i64.wrap (1 * 2 ^ min (ji6).toNat 64)) = ji8:=hji8
   have hji8z : (ji6) ≤ 64 → (IntKind.i64.wrap (1 * 2 ^ (ji6).toNat)) = ji8:=z1x hji8
   have hji8u : (IntKind.i64.wrap (2 ^ min (ji6).toNat 64)) = ji8:=by have h_:=hji8_;rw [Int.one_mul] at h_;exact h_
   have hji8v : (ji6) ≤ 64 → (IntKind.i64.wrap (2 ^ (ji6).toNat)) = ji8:=fun hle_=>by have h_:=hji8z hle_;rw [Int.one_mul] at h_;exact h_
   have hji8y : (wrap64 (1 * 2 ^ min (ji6).toNat 64)) = ji8:=(zF _).symm.trans hji8_
   have hji8x : (ji6) ≤ 64 → (wrap64 (1 * 2 ^ (ji6).toNat)) = ji8:=fun h_=>(zF _).symm.trans (hji8z h_)
   obtain rfl:=Option.some.inj H
   go_wp2
   go_ret
   exact ⟨by first|rfl|(simp;done)|(simp only [← hji6,← hji8] <;> (first|rfl|simp))|(simp [*];done),by repeat (first|exact Drawn0.refl _|apply Drawn0.step)⟩
end Go.Proofs.Ytnhbdhgbmjcjdaa.P
namespace Go.Proofs.Ytnhbdhgbmjcjdaa.P
open Go.RowKit Go.Proofs.YtnhbdhgbmjcjdaaW.PrintWords Go.Proofs.YtnhbdhgbmjcjdaaW.PrintLast Go.Proofs.YtnhbdhgbmjcjdaaW.PrintMore
attribute [local go_sem] zX zZ z1a z1b zL zM zY z10   -- for this text's walks alone
set_option linter.unusedVariables false
set_option linter.unusedSimpArgs false
def z1t.f (a0_0 : Int) (a0_1 : Int) (a1 : Int) : Option (Int):=if a1 ≥ 64 then (if 0 ≤ (IntKind.u64.wrap (wrap64 (a1 - 64))) then (some (Go.bits .and .u64 (shr .u64 a0_0 (IntKind.u64.wrap (wrap64 (a1 - 64)))) 1)) else (none)) else (if 0 ≤ (IntKind.u64.wrap (a1)) then (some (Go.bits .and .u64 (shr .u64 a0_1 (IntKind.u64.wrap (a1))) 1)) else (none))
set_option maxHeartbeats 8000000 in
set_option maxRecDepth 100000 in
theorem z1t.calls (a0_0 : Int) (a0_1 : Int) (a1 : Int) (r : Int) (w : World) (h : z1t.f a0_0 a0_1 a1 = some r) :
 Calls Try.prog 62 #[.agg #[.int .u64 a0_0,.int .u64 a0_1],.int .i64 a1] w fun e w'=>e = .returned (.int .u64 r) ∧ Below w.heap.size w w':=by
 have hu38:=Try.underlying38
 have HB:=z1.mk (Below.refl w.heap.size w)
 have H : (if a1 ≥ 64 then (if 0 ≤ (IntKind.u64.wrap (wrap64 (a1 - 64))) then (some (Go.bits .and .u64 (shr .u64 a0_0 (IntKind.u64.wrap (wrap64 (a1 - 64)))) 1)) else (none)) else (if 0 ≤ (IntKind.u64.wrap (a1)) then (some (Go.bits .and .u64 (shr .u64 a0_1 (IntKind.u64.wrap (a1))) 1)) else (none))) = some r:=h
 clear h
 by_cases c3 : a1 ≥ 64
 · rw [if_pos c3] at H
   have c3b0 : decide (64 ≤ a1) = true:=decide_eq_true c3
   clear c3
   obtain ⟨ji4,hji4⟩ : ∃ j_ : Int,(IntKind.u64.wrap (wrap64 (a1 - 64))) = j_:=⟨_,rfl⟩
   replace H : (if 0 ≤ (ji4) then (some (Go.bits .and .u64 (shr .u64 a0_0 (ji4)) 1)) else (none)) = some r:=by first|(rw [hji4] at H;exact H)|(simp only [hji4] at H ⊢;exact H)
   by_cases c5 : 0 ≤ (ji4)
   rotate_left
   · rw [if_neg c5] at H
     exact absurd H zz55
   rw [if_pos c5] at H
   have c5b0:=eq_true c5
   have c5b1 : decide (0 ≤ (ji4)) = true:=decide_eq_true c5
   clear c5
   obtain ⟨ji6,hji6⟩ : ∃ j_ : Int,(shr .u64 a0_0 (ji4)) = j_:=⟨_,rfl⟩
   replace H : (some (Go.bits .and .u64 (ji6) 1)) = some r:=by first|(rw [hji6] at H;exact H)|(simp only [hji6] at H ⊢;exact H)
   have hji6_ : (a0_0 / 2 ^ min (ji4).toNat 64) = ji6:=hji6
   have hji6z : (ji4) ≤ 64 → (a0_0 / 2 ^ (ji4).toNat) = ji6:=z28 hji6
   obtain rfl:=Option.some.inj H
   go_enter Try.func62,Try.ntmps62
   go_wp2_with (first|((with_reducible refine zC (N:=2) rfl ?_);refine zD ?hg (N:=2) ?hd (cs:=#[.int .u64 a0_0,.int .u64 a0_1]) (t:=38) ?hr ?_;(case hd=>rfl);(case hg=>rfl);(case hr=>first|(go_simp;done)|(go_simp;rfl));intro gb101 hg w7 hbox hb;have n0_:=z1.mk (z8 zz20 hb);have n1_:=z1.mk (hbox);have n2_:=z1.mk ((by rw [hg];exact (zd zz20) : w.heap.size ≤ gb101));have n3_:=z1.mk ((by rw [hg];exact (zd zz20) : w.heap.size ≤ gb101));clear HB;have HB:=n0_;have BK101:=n1_;have GW101:=n2_;have GE101:=n3_;clear n0_ n1_ n2_ n3_;clear hb hbox hg;have hcz8_0 : w7.cell? ⟨gb101,0,none⟩ = some (.int .u64 a0_0):=(z4 BK101.out 0).trans rfl;have hcz8_1 : w7.cell? ⟨gb101,1,none⟩ = some (.int .u64 a0_1):=(z4 BK101.out 1).trans rfl;have hfz8_0:=z6 BK101.out 0;have hfz8_1:=z6 BK101.out 1))
   go_ret
   exact ⟨by first|rfl|(simp [zk,zl] <;> rfl)|(simp only [← hji4,← hji6];first|rfl|(simp [zk,zl] <;> rfl))|(simp [*,zk,zl] <;> rfl),by repeat (first|(with_reducible first|exact HB.out|apply z7|apply z3|apply z5|refine zf ?_ GE101.out)|exact HB.out)⟩
 rw [if_neg c3] at H
 have c3b0 : decide (64 ≤ a1) = false:=decide_eq_false c3
 clear c3
 obtain ⟨ji9,hji9⟩ : ∃ j_ : Int,(IntKind.u64.wrap (a1)) = j_:=⟨_,rfl⟩
 replace H : (if 0 ≤ (ji9) then (some (Go.bits .and .u64 (shr .u64 a0_1 (ji9)) 1)) else (none)) = some r:=by first|(rw [hji9] at H;exact H)|(simp only [hji9] at H ⊢;exact H)
 by_cases c10 : 0 ≤ (ji9)
 rotate_left
 · rw [if_neg c10] at H
   exact absurd H zz55
 rw [if_pos c10] at H
 have c10b0:=eq_true c10
 have c10b1 : decide (0 ≤ (ji9)) = true:=decide_eq_true c10
 clear c10
 obtain ⟨ji11,hji11⟩ : ∃ j_ : Int,(shr .u64 a0_1 (ji9)) = j_:=⟨_,rfl⟩
 replace H : (some (Go.bits .and .u64 (ji11) 1)) = some r:=by first|(rw [hji11] at H;exact H)|(simp only [hji11] at H ⊢;exact H)
 have hji11_ : (a0_1 / 2 ^ min (ji9).toNat 64) = ji11:=hji11
 have hji11z : (ji9) ≤ 64 → (a0_1 / 2 ^ (ji9).toNat) = ji11:=z28 hji11
 obtain rfl:=Option.some.inj H
 go_enter Try.func62,Try.ntmps62
 go_wp2_with (first|((with_reducible refine zC (N:=2) rfl ?_);refine zD ?hg (N:=2) ?hd (cs:=#[.int .u64 a0_0,.int .u64 a0_1]) (t:=38) ?hr ?_;(case hd=>rfl);(case hg=>rfl);(case hr=>first|(go_simp;done)|(go_simp;rfl));intro gb101 hg w12 hbox hb;have n0_:=z1.mk (z8 zz20 hb);have n1_:=z1.mk (hbox);have n2_:=z1.mk ((by rw [hg];exact (zd zz20) : w.heap.size ≤ gb101));have n3_:=z1.mk ((by rw [hg];exact (zd zz20) : w.heap.size ≤ gb101));clear HB;have HB:=n0_;have BK101:=n1_;have GW101:=n2_;have GE101:=n3_;clear n0_ n1_ n2_ n3_;clear hb hbox hg;have hcz13_0 : w12.cell? ⟨gb101,0,none⟩ = some (.int .u64 a0_0):=(z4 BK101.out 0).trans rfl;have hcz13_1 : w12.cell? ⟨gb101,1,none⟩ = some (.int .u64 a0_1):=(z4 BK101.out 1).trans rfl;have hfz13_0:=z6 BK101.out 0;have hfz13_1:=z6 BK101.out 1))
 go_ret
 exact ⟨by first|rfl|(simp [zk,zl] <;> rfl)|(simp only [← hji9,← hji11];first|rfl|(simp [zk,zl] <;> rfl))|(simp [*,zk,zl] <;> rfl),by repeat (first|(with_reducible first|exact HB.out|apply z7|apply z3|apply z5|refine zf ?_ GE101.out)|exact HB.out)⟩
end Go.Proofs.Ytnhbdhgbmjcjdaa.P
namespace Go.Proofs.Ytnhbdhgbmjcjdaa.P
open Go.RowKit Go.Proofs.YtnhbdhgbmjcjdaaW.PrintWords Go.Proofs.YtnhbdhgbmjcjdaaW.PrintLast Go.Proofs.YtnhbdhgbmjcjdaaW.PrintMore
attribute [local go_sem] zX zZ z1a z1b zL zM zY z10   -- for this text's walks alone
set_option linter.unusedVariables false
set_option linter.unusedSimpArgs false
mutual
def zw.j0 : Nat → Int → List Int → Bool → Int → Int → Option (Bool)
 | 0,_,_,_,_,_=>none
 | k + 1,x0,x5,x13,x102000,x102001=>if x13 = true then (some false) else (if 0 ≤ x0 then (if x0 < (x5.length : Int) then (zw.l0 k (rd x5 x0) x102000 x102001) else (none)) else (none))
def zw.l0 : Nat → Int → Int → Int → Option (Bool)
 | 0,_,_,_=>none
 | k + 1,x6,x102000,x102001=>if x6 < 128 then ((z1t.f x102000 x102001 x6).bind fun t106=>(if t106 = 1 then (some false) else (zw.l0 k (wrap64 (x6 + 1)) x102000 x102001))) else (some true)
end
def zw.f (k : Nat) (a0 : Int) (a1_0 : Int) (a1_1 : Int) : Option (Bool):=(some (([1,2,4,8,16,32,64,128] : List Int) : List Int)).bind fun y102=>(if a0 < 0 then (zw.j0 k a0 y102 true a1_0 a1_1) else (zw.j0 k a0 y102 (decide (a0 > 7)) a1_0 a1_1))
theorem zw.z11 : ∀ k,(∀ y0 y1 y2 y3 y4,LeO (zw.j0 k y0 y1 y2 y3 y4) (zw.j0 (k + 1) y0 y1 y2 y3 y4)) ∧ (∀ y0 y1 y2,LeO (zw.l0 k y0 y1 y2) (zw.l0 (k + 1) y0 y1 y2))
 | 0=>⟨fun _ _ _ _ _ r h=>by simp [zw.j0] at h,fun _ _ _ r h=>by simp [zw.l0] at h⟩
 | k + 1=>by
  obtain ⟨ih0,ih1⟩:=zw.z11 k
  refine ⟨?_,?_⟩
  · intro y0 y1 y2 y3 y4
    unfold zw.j0
    repeat' first
    | (with_reducible exact ih0 _ _ _ _ _)
    | (with_reducible exact ih1 _ _ _)
    | (with_reducible exact LeO.refl _)
    | (with_reducible exact LeO.none _)
    | (with_reducible refine LeO.ite ?_ ?_)
    | (with_reducible refine LeO.bind ?_ (fun _=>?_))
    | exact ih0 _ _ _ _ _
    | exact ih1 _ _ _
    | exact LeO.none _
    | refine LeO.ite ?_ ?_
    | refine LeO.bind ?_ (fun _=>?_)
  · intro y0 y1 y2
    unfold zw.l0
    repeat' first
    | (with_reducible exact ih0 _ _ _ _ _)
    | (with_reducible exact ih1 _ _ _)
    | (with_reducible exact LeO.refl _)
    | (with_reducible exact LeO.none _)
    | (with_reducible refine LeO.ite ?_ ?_)
    | (with_reducible refine LeO.bind ?_ (fun _=>?_))
    | exact ih0 _ _ _ _ _
    | exact ih1 _ _ _
    | exact LeO.none _
    | refine LeO.ite ?_ ?_
    | refine LeO.bind ?_ (fun _=>?_)
theorem zw.mono : ∀ a0 a1 a2 k,LeO (zw.f k a0 a1 a2) (zw.f (k + 1) a0 a1 a2):=by
 intro a0 a1 a2 k
 obtain ⟨ih0,ih1⟩:=zw.z11 k
 unfold zw.f
 repeat' first
  | (with_reducible exact ih0 _ _ _ _ _)
  | (with_reducible exact ih1 _ _ _)
  | (with_reducible exact LeO.refl _)
  | (with_reducible exact LeO.none _)
  | (with_reducible refine LeO.ite ?_ ?_)
  | (with_reducible refine LeO.bind ?_ (fun _=>?_))
  | exact ih0 _ _ _ _ _
  | exact ih1 _ _ _
  | exact LeO.none _
  | refine LeO.ite ?_ ?_
  | refine LeO.bind ?_ (fun _=>?_)
set_option maxHeartbeats 8000000 in
set_option maxRecDepth 100000 in
theorem zw.calls (k : Nat) (a0 : Int) (a1_0 : Int) (a1_1 : Int) (r : Bool) (w : World) (h : zw.f k a0 a1_0 a1_1 = some r) :
 Calls Try.prog 37 #[.int .i64 a0,.agg #[.int .u64 a1_0,.int .u64 a1_1]] w fun e w'=>e = .returned (.bool r) ∧ Below w.heap.size w w':=by
 have hu38:=Try.underlying38
 have HB:=z1.mk (Below.refl w.heap.size w)
 have H : ((some (([1,2,4,8,16,32,64,128] : List Int) : List Int)).bind fun y102=>(if a0 < 0 then (zw.j0 k a0 y102 true a1_0 a1_1) else (zw.j0 k a0 y102 (decide (a0 > 7)) a1_0 a1_1))) = some r:=h
 clear h
 obtain ⟨y102,hy102⟩ : ∃ y_ : List Int,y_ = (([1,2,4,8,16,32,64,128] : List Int)):=⟨_,rfl⟩
 replace H : (if a0 < 0 then (zw.j0 k a0 y102 true a1_0 a1_1) else (zw.j0 k a0 y102 (decide (a0 > 7)) a1_0 a1_1)) = some r:=by first|(rw [hy102];with_reducible exact H)|(have H2_:=(Option.bind_some _ _).symm.trans H;rw [hy102];with_reducible exact H2_)|(have H2_:=(Option.bind_some _ _).symm.trans H;with_reducible exact H2_)|with_reducible exact H|(rw [hy102];exact H)|exact H
 have Ny102:=z1.mk hy102
 clear hy102
 have HC3:=z1.mk H
 clear H
 go_enter Try.func37,Try.ntmps37
 go_upto_region 2 with (first|((with_reducible refine zC (N:=3) rfl ?_);refine zD ?hg (N:=3) ?hd (cs:=#[.int .u64 a1_0,.int .u64 a1_1]) (t:=38) ?hr ?_;(case hd=>rfl);(case hg=>rfl);(case hr=>first|(go_simp;done)|(go_simp;rfl));intro gb101 hg w4 hbox hb;have n0_:=z1.mk (z8 zz20 hb);have n1_:=z1.mk (hbox);have n2_:=z1.mk ((by rw [hg];exact (zd zz20) : w.heap.size ≤ gb101));have n3_:=z1.mk ((by rw [hg];exact (zd zz20) : w.heap.size ≤ gb101));clear HB;have HB:=n0_;have BK101:=n1_;have GW101:=n2_;have GE101:=n3_;clear n0_ n1_ n2_ n3_;clear hb hbox hg)|((with_reducible refine zC (N:=7) rfl ?_);refine Kd.z2N (Kd.int .i64) _ 3 ?hg (N:=7) ?hd (xs:=([1,2,4,8,16,32,64,128] : List Int)) (inner:=[.int .i64 1,.int .i64 2,.int .i64 4,.int .i64 8,.int .i64 16,.int .i64 32,.int .i64 64,.int .i64 128]) (ok:=fun _=>True) (okp:=fun _=>True) ?hr ?hp (fun _ hk=>hk) trivial (Below.refl _ _) (Nat.le_refl _) zz55 ?_;(case hd=>rfl);(case hg=>rfl);(case hr=>first|(go_simp;done)|(go_simp;rfl));(case hp=>exact (Reps.one (show Kd.M (Kd.int .i64) _ _ _ 1 [.int .i64 1] from rfl) (Reps.one (show Kd.M (Kd.int .i64) _ _ _ 2 [.int .i64 2] from rfl) (Reps.one (show Kd.M (Kd.int .i64) _ _ _ 4 [.int .i64 4] from rfl) (Reps.one (show Kd.M (Kd.int .i64) _ _ _ 8 [.int .i64 8] from rfl) (Reps.one (show Kd.M (Kd.int .i64) _ _ _ 16 [.int .i64 16] from rfl) (Reps.one (show Kd.M (Kd.int .i64) _ _ _ 32 [.int .i64 32] from rfl) (Reps.one (show Kd.M (Kd.int .i64) _ _ _ 64 [.int .i64 64] from rfl) (Reps.one (show Kd.M (Kd.int .i64) _ _ _ 128 [.int .i64 128] from rfl) (Reps.none _ _))))))))));intro v103 w5 ho6 hb hg_ hnew_;clear hg_ hnew_;(first|rw [← Ny102.out] at ho6|(simp only [Int.reduceToNat] at ho6;rw [← Ny102.out] at ho6));have n0_:=z1.mk (Kd.z1c ho6 (zd zz16));have n1_:=z1.mk (zj (g:=gb101) (o:=.cells #[.int .u64 a1_0,.int .u64 a1_1] 38 (0,0)) zz22 hb);have n2_:=z1.mk (z8 zz16 hb);clear BK101;clear HB;have HO104:=n0_;have BK101:=n1_;have HB:=n2_;clear n0_ n1_ n2_;clear hb ho6))
 (try simp only [Act.put,List.setIfInBounds_toArray,List.set_cons_zero,List.set_cons_succ])
 go_cut [13] (fun v13 wc=>∃ (kq : Nat) (x13_2 : Bool),v13 = .bool x13_2 ∧ z1 (zw.j0 kq a0 y102 x13_2 a1_0 a1_1 = some r) ∧ z1 (kq ≤ k) ∧ z1 (Kd.R (Kd.int .i64) 3 wc w.heap.size (fun _=>True) v103 y102) ∧ z1 (wc.heap[gb101]? = some (.cells #[.int .u64 a1_0,.int .u64 a1_1] 38 (0,0))) ∧ z1 (Below w.heap.size w wc))
 case first =>
  have H:=HC3.out
  clear HC3
  by_cases c7 : a0 < 0
  rotate_left
  · rw [if_neg c7] at H
    have c7b0 : decide (a0 < 0) = false:=decide_eq_false c7
    clear c7
    (first|rw [c7b0]|(simp only [zF,zG];rw [c7b0])|skip)
    have H':=z1.mk H
    clear H
    go_wp2
    go_meet
    case rel=>exact ⟨_,(decide (a0 > 7)),zz50,H',⟨by first|omega|exact Nat.le_refl _⟩,⟨by (with_reducible repeat (first|apply Kd.zH|apply Kd.zI|apply Kd.zS));exact HO104.out⟩,⟨by (with_reducible repeat (first|refine zc ?_ _|refine ze ?_|refine zb ?_ _));exact BK101.out⟩,⟨by repeat (first|(with_reducible first|exact HB.out|apply z7|apply z3|apply z5|refine zf ?_ GE101.out)|exact HB.out)⟩⟩
  rw [if_pos c7] at H
  have c7b0 : decide (a0 < 0) = true:=decide_eq_true c7
  clear c7
  (first|rw [c7b0]|(simp only [zF,zG];rw [c7b0])|skip)
  have H':=z1.mk H
  clear H
  go_wp2
  go_meet
  case rel=>exact ⟨_,(true),zz50,H',⟨by first|omega|exact Nat.le_refl _⟩,⟨by (with_reducible repeat (first|apply Kd.zH|apply Kd.zI|apply Kd.zS));exact HO104.out⟩,⟨by (with_reducible repeat (first|refine zc ?_ _|refine ze ?_|refine zb ?_ _));exact BK101.out⟩,⟨by repeat (first|(with_reducible first|exact HB.out|apply z7|apply z3|apply z5|refine zf ?_ GE101.out)|exact HB.out)⟩⟩
 case rest =>
  clear HC3
  (try clear p2);(try clear c3);(try clear c7);(try clear c7b0)
  obtain ⟨kq,x13_2,rfl,HA,HJ2,HO_5,BK101,HB⟩:=hcut
  cases kq with
  | zero=>exact absurd HA.out (by simp [zw.j0])
  | succ kj2 =>
   have H:=HA.out
   clear HA
   simp only [zw.j0] at H
   by_cases c8 : x13_2 = true
   · subst c8
     have H1 : (some false) = some r:=by rw [if_pos rfl] at H;exact H
     clear H
     have H:=H1
     clear H1
     obtain rfl:=Option.some.inj H
     go_wp2
     go_ret
     exact ⟨by first|rfl|(simp [zk,zl] <;> rfl)|(simp [*,zk,zl] <;> rfl),by repeat (first|(with_reducible first|exact HB.out|apply z7|apply z3|apply z5|refine zf ?_ GE101.out)|exact HB.out)⟩
   replace c8:=Bool.eq_false_iff.mpr c8
   subst c8
   have H1 : (if 0 ≤ a0 then (if a0 < (y102.length : Int) then (zw.l0 kj2 (rd y102 a0) a1_0 a1_1) else (none)) else (none)) = some r:=by rw [if_neg (show ¬ (false = true) by decide)] at H;exact H
   clear H
   have H:=H1
   clear H1
   by_cases c9 : 0 ≤ a0
   rotate_left
   · rw [if_neg c9] at H
     exact absurd H zz55
   rw [if_pos c9] at H
   have c9b0 : decide (0 ≤ a0) = true:=decide_eq_true c9
   clear c9
   by_cases c10 : a0 < (y102.length : Int)
   rotate_left
   · rw [if_neg c10] at H
     exact absurd H zz55
   rw [if_pos c10] at H
   have c10b0 : decide (a0 < (y102.length : Int)) = true:=decide_eq_true c10
   clear c10
   have H':=z1.mk H
   clear H
   obtain ⟨Ao11,co11,eo11⟩:=Kd.z14 HO_5.out
   subst eo11
   have p105 : 0 ≤ (a0 : Int):=of_decide_eq_true zz49
   have q105 : a0 < (y102.length : Int):=of_decide_eq_true zz49
   obtain ⟨ad105,e105,hx105_0⟩:=Kd.z5x (Kd.zx HO_5.out).2.2 a0 p105 q105
   cases e105
   replace p105:=eq_true p105
   replace q105:=eq_true q105
   go_wp2
   go_loopg [6] kj2 (fun kq v6 w'=>∃ (x6_2 : Int),v6 = .int .i64 x6_2 ∧ z1 (zw.l0 kq x6_2 a1_0 a1_1 = some r) ∧ z1 (kq ≤ kj2) ∧ z1 (w'.heap[gb101]? = some (.cells #[.int .u64 a1_0,.int .u64 a1_1] 38 (0,0))) ∧ z1 (Below w.heap.size w w'))
   case atStart=>exact ⟨(rd y102 a0),zz50,H',⟨Nat.le_refl _⟩,⟨by (with_reducible repeat (first|refine zc ?_ _|refine ze ?_|refine zb ?_ _));exact BK101.out⟩,⟨by repeat (first|(with_reducible first|exact HB.out|apply z7|apply z3|apply z5|refine zf ?_ GE101.out)|exact HB.out)⟩⟩
   case round =>
    clear H'
    (try clear c1);(try clear p1);(try clear q1);(try clear hx1);(try clear p2);(try clear c3);(try clear c7);(try clear c7b0);(try clear c8);(try clear c9);(try clear c9b0);(try clear c10);(try clear c10b0);(try clear p10);(try clear q10);(try clear hx10);(try clear hx105_0);(try clear p105);(try clear p2);(try clear q105)
    obtain ⟨x6_2,rfl,HA,HK2,BK101,HB⟩:=hrel
    cases gk with
    | zero=>exact absurd HA.out (by simp [zw.l0])
    | succ k2 =>
     have H:=HA.out
     clear HA
     simp only [zw.l0] at H
     by_cases c12 : x6_2 < 128
     rotate_left
     · rw [if_neg c12] at H
       have c12b0 : decide (x6_2 < 128) = false:=decide_eq_false c12
       clear c12
       obtain rfl:=Option.some.inj H
       go_wp2
       go_ret
       exact ⟨by first|rfl|(simp [zk,zl] <;> rfl)|(simp [*,zk,zl] <;> rfl),by repeat (first|(with_reducible first|exact HB.out|apply z7|apply z3|apply z5|refine zf ?_ GE101.out)|exact HB.out)⟩
     rw [if_pos c12] at H
     have c12b0 : decide (x6_2 < 128) = true:=decide_eq_true c12
     clear c12
     replace H:=Option.bind_eq_some_iff.mp H
     obtain ⟨t106,A130,H⟩:=H
     replace H : (if t106 = 1 then (some false) else (zw.l0 k2 (wrap64 (x6_2 + 1)) a1_0 a1_1)) = some r:=H
     have A13:=z1.mk A130
     clear A130
     by_cases c14 : t106 = 1
     · rw [if_pos c14] at H
       have c14b0 : (t106 == 1) = true:=beq_iff_eq.mpr c14
       have c14b1 : (t106 != 1) = false:=bne_eq_false_iff_eq.mpr c14
       clear c14
       obtain rfl:=Option.some.inj H
       have hcz15_0 : wr.cell? ⟨gb101,0,none⟩ = some (.int .u64 a1_0):=(z4 BK101.out 0).trans rfl
       have hcz15_1 : wr.cell? ⟨gb101,1,none⟩ = some (.int .u64 a1_1):=(z4 BK101.out 1).trans rfl
       have hfz15_0:=z6 BK101.out 0
       have hfz15_1:=z6 BK101.out 1
       go_wp2_with (first|((with_reducible refine zp (f:=62) rfl ?_);refine goesL_ (some 24) rfl rfl Try.func62 zz52 rfl #[.agg #[.int .u64 a1_0,.int .u64 a1_1],.int .i64 x6_2] rfl zz19 ?_;(with_reducible refine (z1t.calls a1_0 a1_1 x6_2 t106 _ A13.out).mono ?_);rintro e w16 ⟨rfl,hb⟩;refine ⟨_,rfl,?_⟩;have n0_:=z1.mk (zj (g:=gb101) (o:=.cells #[.int .u64 a1_0,.int .u64 a1_1] 38 (0,0)) zz22 hb);have n1_:=z1.mk (z8 zz16 hb);clear BK101;clear HB;have BK101:=n0_;have HB:=n1_;clear n0_ n1_;(try clear hb);(try clear hb2);(try clear hk);(try clear hi)))
       go_ret
       exact ⟨by first|rfl|(simp [zk,zl] <;> rfl)|(simp [*,zk,zl] <;> rfl),by repeat (first|(with_reducible first|exact HB.out|apply z7|apply z3|apply z5|refine zf ?_ GE101.out)|exact HB.out)⟩
     rw [if_neg c14] at H
     have c14b0 : (t106 == 1) = false:=beq_eq_false_iff_ne.mpr c14
     have c14b1 : (t106 != 1) = true:=bne_iff_ne.mpr c14
     have H':=z1.mk H
     clear H
     have hcz17_0 : wr.cell? ⟨gb101,0,none⟩ = some (.int .u64 a1_0):=(z4 BK101.out 0).trans rfl
     have hcz17_1 : wr.cell? ⟨gb101,1,none⟩ = some (.int .u64 a1_1):=(z4 BK101.out 1).trans rfl
     have hfz17_0:=z6 BK101.out 0
     have hfz17_1:=z6 BK101.out 1
     go_wp2_with (first|((with_reducible refine zp (f:=62) rfl ?_);refine goesL_ (some 24) rfl rfl Try.func62 zz52 rfl #[.agg #[.int .u64 a1_0,.int .u64 a1_1],.int .i64 x6_2] rfl zz19 ?_;(with_reducible refine (z1t.calls a1_0 a1_1 x6_2 t106 _ A13.out).mono ?_);rintro e w18 ⟨rfl,hb⟩;refine ⟨_,rfl,?_⟩;have n0_:=z1.mk (zj (g:=gb101) (o:=.cells #[.int .u64 a1_0,.int .u64 a1_1] 38 (0,0)) zz22 hb);have n1_:=z1.mk (z8 zz16 hb);clear BK101;clear HB;have BK101:=n0_;have HB:=n1_;clear n0_ n1_;(try clear hb);(try clear hb2);(try clear hk);(try clear hi)))
     go_roundg k2
     case measure=>have:=HJ2.out;have:=HK2.out;omega
     case rel=>exact ⟨(wrap64 (x6_2 + 1)),zz50,H',⟨by have:=HJ2.out;have:=HK2.out;omega⟩,⟨by (with_reducible repeat (first|refine zc ?_ _|refine ze ?_|refine zb ?_ _));exact BK101.out⟩,⟨by repeat (first|(with_reducible first|exact HB.out|apply z7|apply z3|apply z5|refine zf ?_ GE101.out)|exact HB.out)⟩⟩
end Go.Proofs.Ytnhbdhgbmjcjdaa.P
/- Lists of elements: which are of a level, the same ones, the document's. Own text. -/
namespace Go.Proofs.Ytnhbdhgbmjcjdaa.Sp
open Go.RowKit Go.Proofs.YtnhbdhgbmjcjdaaW.PrintWords Go.Proofs.YtnhbdhgbmjcjdaaW.PrintMore Go.Proofs.Ytnhbdhgbmjcjdaa.P Go.Proofs.Ytnhbdhgbmjcjdaa.Ar Go.Proofs.Ytnhbdhgbmjcjdaa.Tw
set_option linter.unusedVariables false
set_option linter.unusedSimpArgs false
/-- Is there such a level? -/
def LvS (L : Int) : Prop := 0 ≤ L ∧ L ≤ 7
instance (L : Int) : Decidable (LvS L) := by unfold LvS; infer_instance
theorem wide_out {L : Int} (h : ¬ LvS L) : Ev (fun k => zV.f k L) 0 := by
  unfold zV.f
  by_cases h0 : L < 0
  · exact Ev.pos h0 (Ev.step (fun k => by rw [zV.j0]) (Ev.pos rfl (Ev.ret _)))
  · rw [decide_eq_true (show L > 7 by unfold LvS at h; omega)]
    exact Ev.neg h0 (Ev.step (fun k => by rw [zV.j0]) (Ev.pos rfl (Ev.ret _)))
theorem wide_in {L : Int} (h : LvS L) : ∃ v, v ≠ 0 ∧ Ev (fun k => zV.f k L) v := by
  obtain ⟨h0, h7⟩ := h
  obtain ⟨l, rfl⟩ := Int.eq_ofNat_of_zero_le h0
  have hstep : ∀ v, Ev (fun k => zV.j0 k (l : Int) false) v → Ev (fun k => zV.f k (l : Int)) v := by
    intro v hv
    unfold zV.f
    rw [decide_eq_false (show ¬ ((l : Int) > 7) by omega)]
    exact Ev.neg (by omega) hv
  by_cases c : (l : Int) ≤ 3
  · exact ⟨1, by decide, hstep 1 (Ev.step (fun k => by rw [zV.j0]) (Ev.neg (by decide) (Ev.pos c (Ev.ret _))))⟩
  · have e : wrap64 ((l : Int) - 3) = ((l - 3 : Nat) : Int) := by rw [z1P (by omega) (by omega)]; omega
    refine ⟨((2 ^ (l - 3) : Nat) : Int), by have := Nat.two_pow_pos (l - 3); omega, hstep _ (Ev.step (fun k => by rw [zV.j0]) (Ev.neg (by decide) (Ev.neg c ?_)))⟩
    rw [e]
    exact Ev.pos (Int.natCast_nonneg _) (Ev.ret' (z61 (l - 3) (by omega)))
theorem rdL (l : Nat) (h : l ≤ 7) : rd ([1, 2, 4, 8, 16, 32, 64, 128] : List Int) (l : Int) = ((2 ^ l : Nat) : Int) := by
  have : ∀ m, m ≤ 7 → rd ([1, 2, 4, 8, 16, 32, 64, 128] : List Int) ((m : Nat) : Int) = ((2 ^ m : Nat) : Int) := by decide
  exact this l h
theorem z3d (a n : Nat) (ha : a < 2 ^ 64) (hn : n ≤ 64) : Go.bits .and .u64 (shr .u64 (a : Int) (n : Int)) 1 = if a.testBit n then 1 else 0 := by
  rw [z46 a n hn]
  have hd : a / 2 ^ n < 2 ^ 64 := Nat.lt_of_le_of_lt (Nat.div_le_self _ _) ha
  rw [show (1 : Int) = ((1 : Nat) : Int) from rfl, z20 _ 1 hd (by decide), Nat.and_one_is_mod, Nat.testBit_eq_decide_div_mod_eq]
  by_cases c : a / 2 ^ n % 2 = 1
  · rw [c]; simp
  · rw [show a / 2 ^ n % 2 = 0 by omega]; simp
theorem z5Y (x : E) (n : Nat) (hn : n < 128) : z1t.f (hi x) (lo x) (n : Int) = some (if (val x).testBit n then 1 else 0) := by
  have hx1 := z1i x.1
  have hx2 := z1i x.2
  have hQ : Q 6 = 2 ^ 64 := rfl
  rw [hQ] at hx1 hx2
  have hv : val x = 2 ^ 64 * val x.1 + val x.2 := by rw [z1w, hQ, Nat.mul_comm]
  unfold z1t.f
  rw [hv, Nat.testBit_two_pow_mul_add _ hx2]
  unfold hi lo
  by_cases c : n < 64
  · have e : IntKind.u64.wrap (n : Int) = (n : Int) := z2e (by omega) (by omega)
    rw [if_neg (by omega), e, if_pos (Int.natCast_nonneg _), z3d _ _ hx2 (by omega), if_pos c]
  · have e : IntKind.u64.wrap (wrap64 ((n : Int) - 64)) = ((n - 64 : Nat) : Int) := by
      rw [z1P (by omega) (by omega), z2e (by omega) (by omega)]; omega
    rw [if_pos (by omega), e, if_pos (Int.natCast_nonneg _), z3d _ _ hx1 (by omega), if_neg c]
theorem refOf_l0 (x : E) : ∀ (d n : Nat), n + d = 128 → Ev (fun k => zw.l0 k (n : Int) (hi x) (lo x)) (decide (val x < 2 ^ n)) := by
  intro d
  induction d with
  | zero =>
    intro n hn
    have : n = 128 := by omega
    subst this
    have := z1i x; rw [z3P] at this
    rw [decide_eq_true this]
    exact Ev.step (fun k => by rw [zw.l0]) (Ev.neg (by decide) (Ev.ret _))
  | succ d ih =>
    intro n hn
    have hn' : n < 128 := by omega
    refine Ev.step (fun k => by rw [zw.l0]) (Ev.pos (by omega) (Ev.bnd0 (z5Y x n hn') ?_))
    simp only [z1D hn' (show 128 ≤ 4611686018427387904 by decide)]
    cases c : (val x).testBit n with
    | true =>
      refine Ev.pos (by simp) (Ev.ret' ?_)
      symm; rw [decide_eq_false_iff_not]
      intro h; rw [Nat.testBit_lt_two_pow h] at c; cases c
    | false =>
      refine Ev.neg (by simp) ?_
      have hih := ih (n + 1) (by omega)
      have e : decide (val x < 2 ^ (n + 1)) = decide (val x < 2 ^ n) := by
        rw [decide_eq_decide]
        constructor
        · intro h
          apply Nat.lt_pow_two_of_testBit
          intro i hi
          by_cases e : i = n
          · rw [e]; exact c
          · exact Nat.testBit_lt_two_pow (Nat.lt_of_lt_of_le h (Nat.pow_le_pow_right (by decide) (by omega)))
        · intro h; exact Nat.lt_of_lt_of_le h (Nat.pow_le_pow_right (by decide) (by omega))
      rw [← e]; exact hih
theorem refOf_ev (L : Int) (x : E) : Ev (fun k => zw.f k L (hi x) (lo x)) (decide (OfS L x)) := by
  unfold zw.f
  refine Ev.bnd0 (a := ([1, 2, 4, 8, 16, 32, 64, 128] : List Int)) rfl ?_
  by_cases h0 : L < 0
  · refine Ev.pos h0 (Ev.step (fun k => by rw [zw.j0]) (Ev.pos rfl (Ev.ret' ?_)))
    symm; rw [decide_eq_false_iff_not]; rintro ⟨h, _⟩; omega
  refine Ev.neg h0 ?_
  by_cases h7 : L > 7
  · rw [decide_eq_true h7]
    refine Ev.step (fun k => by rw [zw.j0]) (Ev.pos rfl (Ev.ret' ?_))
    symm; rw [decide_eq_false_iff_not]; rintro ⟨_, h, _⟩; omega
  rw [decide_eq_false h7]
  obtain ⟨l, rfl⟩ := Int.eq_ofNat_of_zero_le (show 0 ≤ L by omega)
  refine Ev.step (fun k => by rw [zw.j0]) (Ev.neg (by decide) (Ev.pos (Int.natCast_nonneg _) (Ev.pos (by simp; omega) ?_)))
  rw [rdL l (by omega)]
  have hp : 2 ^ l ≤ 128 := Nat.pow_le_pow_right (n := 2) (by decide) (show l ≤ 7 by omega)
  have := refOf_l0 x (128 - 2 ^ l) (2 ^ l) (by omega)
  have e : decide (val x < 2 ^ 2 ^ l) = decide (OfS (l : Int) x) := by
    rw [decide_eq_decide]; unfold OfS InL Q; rw [Int.toNat_natCast]
    exact ⟨fun h => ⟨by omega, by omega, h⟩, fun h => h.2.2⟩
  rw [← e]; exact this
/-- All of a level. -/
def AllS (L : Int) (X : List E) : Prop := ∀ x ∈ X, OfS L x
instance (L : Int) (X : List E) : Decidable (AllS L X) := by unfold AllS; infer_instance
theorem allS_drop {L : Int} {X : List E} {i : Nat} (h : i < X.length) : AllS L (X.drop i) ↔ OfS L (X.getD i 0) ∧ AllS L (X.drop (i + 1)) := by
  rw [List.drop_eq_getElem_cons h]
  have : X.getD i 0 = X[i] := by rw [List.getD_eq_getElem?_getD, List.getElem?_eq_getElem h]; rfl
  rw [this]
  exact List.forall_mem_cons
theorem z3Z {α β : Type} (f : α → β) (X : List α) (d : α) (i : Nat) (h : i < X.length) : (X.take (i + 1)).map f = (X.take i).map f ++ [f (X.getD i d)] := by
  rw [List.take_succ_eq_append_getElem h, List.map_append]
  have : X.getD i d = X[i] := by rw [List.getD_eq_getElem?_getD, List.getElem?_eq_getElem h]; rfl
  rw [this]; rfl
theorem Ref_l0 (X : List E) (hX : X.length ≤ 1000000) : ∀ (d i : Nat), i + d = X.length → Ev (fun k => zg.l0 k (X.map toS) ((X.take i).map toR) (i : Int)) (X.map toR) := by
  intro d
  induction d with
  | zero =>
    intro i hi
    refine Ev.step (fun k => by rw [zg.l0]) (Ev.neg (by rw [List.length_map]; omega) (Ev.ret' ?_))
    rw [List.take_of_length_le (by omega)]
  | succ d ih =>
    intro i hi
    have hi' : i < X.length := by omega
    refine Ev.step (fun k => by rw [zg.l0]) (Ev.pos (by rw [List.length_map]; omega) (Ev.pos (Int.natCast_nonneg _) (Ev.pos (by rw [List.length_map, List.length_take]; omega) ?_)))
    simp only [rdS, z4S, z4T, z1D hi' (show X.length ≤ 4611686018427387904 by omega)]
    have hih := ih (i + 1) (by omega)
    rw [z3Z toR X 0 i hi'] at hih
    exact hih
theorem Ref_ev (X : List E) (hX : X.length ≤ 1000000) : Ev (fun k => zg.f k (X.map toS)) (X.map toR) := Ref_l0 X hX X.length 0 (by omega)
theorem Same_l0 (X Y : List E) (hl : X.length = Y.length) (hX : X.length ≤ 1000000) : ∀ (d i : Nat), i + d = X.length → (∀ j, j < i → X.getD j 0 = Y.getD j 0) → Ev (fun k => z9.l0 k (X.map toS) (Y.map toR) (i : Int)) (decide (X = Y)) := by
  intro d
  induction d with
  | zero =>
    intro i hi h
    refine Ev.step (fun k => by rw [z9.l0]) (Ev.neg (by rw [List.length_map]; omega) (Ev.ret' ?_))
    symm; rw [decide_eq_true_eq]
    apply List.ext_getElem hl
    intro j h1 h2
    have := h j (by omega)
    simpa [List.getD_eq_getElem?_getD, h1, h2] using this
  | succ d ih =>
    intro i hid h
    have hi' : i < X.length := by omega
    refine Ev.step (fun k => by rw [z9.l0]) (Ev.pos (by rw [List.length_map]; omega) (Ev.pos (Int.natCast_nonneg _) (Ev.pos (by rw [List.length_map]; omega) ?_)))
    simp only [rdS, rdR, z4S, z4T, z63, z64, z1D hi' (show X.length ≤ 4611686018427387904 by omega)]
    by_cases c : X.getD i 0 = Y.getD i 0
    · refine Ev.neg (by rw [c]; simp) (ih (i + 1) (by omega) (fun j hj => ?_))
      by_cases e : j = i
      · rw [e]; exact c
      · exact h j (by omega)
    · refine Ev.pos ?_ (Ev.ret' ?_)
      · simp only [Bool.or_eq_true, Bool.not_eq_true', beq_eq_false_iff_ne]
        by_cases e : hi (X.getD i 0) = hi (Y.getD i 0)
        · right; intro e2; exact c (z4J e e2)
        · left; exact e
      · symm; rw [decide_eq_false_iff_not]
        rintro rfl; exact c rfl
theorem z5s (X Y : List E) (hX : X.length ≤ 1000000) : Ev (fun k => z9.f k (X.map toS) (Y.map toR)) (decide (X = Y)) := by
  unfold z9.f
  by_cases h : X.length = Y.length
  · exact Ev.pos (by rw [List.length_map, List.length_map]; omega) (Same_l0 X Y h hX X.length 0 (by omega) (fun j hj => by omega))
  · refine Ev.neg (by rw [List.length_map, List.length_map]; omega) (Ev.ret' ?_)
    symm; rw [decide_eq_false_iff_not]
    rintro rfl; exact h rfl
/-- The same element? as the program asks. -/
theorem eq_pair (x y : E) : (hi x == hi y && (lo x == lo y)) = decide (x = y) := by
  rw [Bool.eq_iff_iff, Bool.and_eq_true, beq_iff_eq, beq_iff_eq, decide_eq_true_eq]
  exact ⟨fun h => z4J h.1 h.2, fun h => by rw [h]; exact ⟨rfl, rfl⟩⟩
theorem eq_none (x : E) : (hi x == 0 && (lo x == 0)) = decide (x = 0) := by
  rw [← eq_pair, z2y, z2z]
end Go.Proofs.Ytnhbdhgbmjcjdaa.Sp
/- The bits of an element as the program tells them. Own text. -/
namespace Go.Proofs.Ytnhbdhgbmjcjdaa.Sp
open Go.RowKit Go.Proofs.YtnhbdhgbmjcjdaaW.PrintWords Go.Proofs.YtnhbdhgbmjcjdaaW.PrintMore Go.Proofs.Ytnhbdhgbmjcjdaa.P Go.Proofs.Ytnhbdhgbmjcjdaa.Ar Go.Proofs.Ytnhbdhgbmjcjdaa.Tw
set_option linter.unusedVariables false
theorem z3r (n : Nat) (hn : n < 128) : Ev (fun k => zN.f k (n : Int)) (hi (bitE n), lo (bitE n)) := by
  obtain ⟨h1, h2⟩ := z4y hn
  unfold zN.f
  refine Ev.pos (by omega) ?_
  by_cases c : n < 64
  · rw [if_pos c] at h1 h2
    rw [h1, h2, decide_eq_true (show (n : Int) < 64 by omega)]
    refine Ev.step (fun k => by rw [zN.j0]) (Ev.pos rfl (Ev.pos (Int.natCast_nonneg _) (Ev.ret' ?_)))
    rw [z2l n (by omega)]
  · rw [if_neg c] at h1 h2
    rw [h1, h2, decide_eq_false (show ¬ (n : Int) < 64 by omega)]
    have e : wrap64 ((n : Int) - 64) = ((n - 64 : Nat) : Int) := by rw [z1P (by omega) (by omega)]; omega
    refine Ev.step (fun k => by rw [zN.j0]) (Ev.neg (by decide) (Ev.pos (by omega) (Ev.pos (by omega) ?_)))
    rw [e]
    exact Ev.pos (Int.natCast_nonneg _) (Ev.ret' (by rw [z2l (n - 64) (by omega)]))
def bitsL (x : E) (n : Nat) : List Bool := (List.range n).map fun i => (val x).testBit i
end Go.Proofs.Ytnhbdhgbmjcjdaa.Sp
/- Pairs of elements: what is on the left, on the right, and the document's pairs. Own text. -/
namespace Go.Proofs.Ytnhbdhgbmjcjdaa.Sp
open Go.RowKit Go.Proofs.YtnhbdhgbmjcjdaaW.PrintWords Go.Proofs.YtnhbdhgbmjcjdaaW.PrintMore Go.Proofs.Ytnhbdhgbmjcjdaa.P Go.Proofs.Ytnhbdhgbmjcjdaa.Ar Go.Proofs.Ytnhbdhgbmjcjdaa.Tw
set_option linter.unusedVariables false
/-- The pair of x and y: y beside each bit that x has. -/
def pick (b : Bool) (y : E) : E := if b then y else 0
theorem z1s (y : E) : pick true y = y := if_pos rfl
theorem z1e (y : E) : pick false y = 0 := if_neg Bool.false_ne_true
def pairX (n : Nat) (x y : E) : List E := (List.range n).map fun i => pick ((val x).testBit i) y
theorem z2k (n : Nat) (x y : E) : (pairX n x y).length = n := by simp [pairX]
theorem z3f {α : Type} (f : Nat → α) (d : α) (n i : Nat) (h : i < n) : ((List.range n).map f).getD i d = f i := by
  rw [List.getD_eq_getElem?_getD, List.getElem?_map, List.getElem?_range h]; rfl
theorem z3k {α : Type} (f : Nat → α) (n : Nat) : (List.range (n + 1)).map f = (List.range n).map f ++ [f n] := by
  rw [List.range_succ, List.map_append]; rfl
theorem z5b (n : Nat) (x y : E) (i : Nat) (h : i < n) : (pairX n x y).getD i 0 = pick ((val x).testBit i) y := z3f (fun i => pick ((val x).testBit i) y) 0 n i h
theorem pairX_succ (n : Nat) (x y : E) : pairX (n + 1) x y = pairX n x y ++ [pick ((val x).testBit n) y] := z3k _ n
theorem w128 {l : Nat} (hl : l ≤ 7) : 2 ^ l ≤ 128 := Nat.pow_le_pow_right (n := 2) (by decide) hl
theorem lv_of {L : Int} {x : E} (h : OfS L x) : LvS L := ⟨h.1, h.2.1⟩
theorem rep_zero (n : Nat) : List.replicate n z35 = (List.replicate n (0 : E)).map toS := by rw [List.map_replicate, z4U]
/-- What stands on the left: x beside 1. -/
def leftO (L : Int) (x : E) : List E := if OfS L x then pairX (2 ^ L.toNat) x 1 else []
def rightO (L : Int) (x : E) : List E := if OfS L x then pairX (2 ^ L.toNat) 1 x else []
theorem one_bit (i : Nat) : (val (1 : E)).testBit i = decide (i = 0) := by
  rw [z2c, show (1 : Nat) = 2 ^ 0 from rfl, Nat.testBit_two_pow]
  simp [eq_comm]
theorem pairX_one (n : Nat) (x : E) (hn : 0 < n) : pairX n 1 x = (List.replicate n (0 : E)).set 0 x := by
  apply List.ext_getElem
  · rw [z2k]; simp
  · intro i h1 h2
    rw [z2k] at h1
    have e1 : (pairX n 1 x)[i] = (pairX n 1 x).getD i 0 := by rw [List.getD_eq_getElem?_getD, List.getElem?_eq_getElem (by rw [z2k]; exact h1)]; rfl
    rw [e1, z5b n 1 x i h1, one_bit, List.getElem_set]
    by_cases c : i = 0
    · subst c; simp [z1s]
    · rw [decide_eq_false c, z1e, if_neg (fun h => c h.symm), List.getElem_replicate]
end Go.Proofs.Ytnhbdhgbmjcjdaa.Sp
/- Sums of elements, weights and values of tables; lists of elements. Own text; nothing of the program in it. -/
namespace Go.Proofs.Ytnhbdhgbmjcjdaa.Sp
open Go.RowKit Go.Proofs.YtnhbdhgbmjcjdaaW.PrintWords Go.Proofs.YtnhbdhgbmjcjdaaW.PrintMore Go.Proofs.Ytnhbdhgbmjcjdaa.P Go.Proofs.Ytnhbdhgbmjcjdaa.Ar Go.Proofs.Ytnhbdhgbmjcjdaa.Tw
set_option linter.unusedVariables false
set_option linter.unusedSimpArgs false
/-- Sums. -/
def sumN (f : Nat → E) : Nat → E
  | 0 => 0
  | n + 1 => sumN f n + f n
theorem z1q {f g : Nat → E} : ∀ n, (∀ i, i < n → f i = g i) → sumN f n = sumN g n
  | 0, _ => rfl
  | n + 1, h => by rw [sumN, sumN, z1q n (fun i hi => h i (by omega)), h n (by omega)]
theorem z2r (f g : Nat → E) : ∀ n, sumN (fun i => f i + g i) n = sumN f n + sumN g n
  | 0 => (add_zero _).symm
  | n + 1 => by
    rw [sumN, sumN, sumN, z2r f g n]
    simp only [add_assoc, z1C]
theorem z4R (c : E) (f : Nat → E) : ∀ n, sumN (fun i => c * f i) n = c * sumN f n
  | 0 => (mul_zero _).symm
  | n + 1 => by rw [sumN, sumN, z4R c f n, mul_add]
theorem z3q : ∀ n, sumN (fun _ => (0 : E)) n = 0
  | 0 => rfl
  | n + 1 => by rw [sumN, z3q n, add_zero]
theorem z3o (f : Nat → E) : ∀ n, sumN f (2 * n) = sumN (fun i => f (2 * i) + f (2 * i + 1)) n
  | 0 => rfl
  | n + 1 => by
    rw [show 2 * (n + 1) = 2 * n + 1 + 1 by omega, sumN, sumN, sumN, z3o f n, add_assoc]
theorem z3L (f : Nat → E) (m : Nat) : ∀ n, sumN f (m + n) = sumN f m + sumN (fun i => f (m + i)) n
  | 0 => (add_zero _).symm
  | n + 1 => by rw [← Nat.add_assoc, sumN, sumN, z3L f m n, add_assoc]
/-- A corner's weight at a point. -/
def weight : List E → Nat → E
  | [], _ => 1
  | p :: ps, i => (if i % 2 = 1 then p else 1 + p) * weight ps (i / 2)
/-- A table's value at a point. -/
def value (X P : List E) : E := sumN (fun i => X.getD i 0 * weight P i) X.length
/-- A table bound in its first variable. -/
def first (r : E) (X : List E) : List E := (List.range (X.length / 2)).map fun i => X.getD (2 * i) 0 + r * (X.getD (2 * i) 0 + X.getD (2 * i + 1) 0)
def firsts : List E → List E → List E
  | [], X => X
  | r :: rs, X => firsts rs (first r X)
theorem z2g (r : E) (X : List E) : (first r X).length = X.length / 2 := by simp [first]
theorem z54 (r : E) (X : List E) (i : Nat) (h : i < X.length / 2) : (first r X).getD i 0 = X.getD (2 * i) 0 + r * (X.getD (2 * i) 0 + X.getD (2 * i + 1) 0) := by
  rw [List.getD_eq_getElem?_getD]; simp [first, h]
theorem z52 (a b r : E) : a + r * (a + b) = (1 + r) * a + r * b := by
  rw [add_mul, one_mul, mul_add, add_assoc]
theorem z4A (X : List E) (r : E) (P : List E) (h : X.length = 2 * (X.length / 2)) : value X (r :: P) = value (first r X) P := by
  unfold value
  rw [z2g]
  conv => lhs; rw [h]
  rw [z3o]
  apply z1q
  intro i hi
  rw [z54 r X i hi, weight, weight, if_neg (by omega), if_pos (by omega), show 2 * i / 2 = i by omega, show (2 * i + 1) / 2 = i by omega, z52]
  rw [← mul_assoc, ← mul_assoc, mul_comm (X.getD (2 * i) 0), mul_comm (X.getD (2 * i + 1) 0), ← add_mul]
theorem pow_len {X : List E} {k : Nat} (h : X.length = 2 ^ (k + 1)) : X.length = 2 * (X.length / 2) := by rw [h, Nat.pow_succ]; omega
theorem z2E : ∀ (R X : List E) (k : Nat), X.length = 2 ^ k → R.length ≤ k → (firsts R X).length = 2 ^ (k - R.length)
  | [], X, k, h, _ => by rw [firsts, h]; rfl
  | r :: rs, X, k, h, hk => by
    rw [List.length_cons] at hk
    obtain ⟨k', rfl⟩ : ∃ k', k = k' + 1 := ⟨k - 1, by omega⟩
    rw [firsts, z2E rs (first r X) k' (by rw [z2g, h, Nat.pow_succ]; omega) (by omega), List.length_cons]
    congr 1; omega
theorem z2U : ∀ (R X P : List E) (k : Nat), X.length = 2 ^ k → R.length ≤ k → value X (R ++ P) = value (firsts R X) P
  | [], X, P, k, _, _ => rfl
  | r :: rs, X, P, k, h, hk => by
    rw [List.length_cons] at hk
    obtain ⟨k', rfl⟩ : ∃ k', k = k' + 1 := ⟨k - 1, by omega⟩
    rw [List.cons_append, z4A X r (rs ++ P) (pow_len h), firsts]
    exact z2U rs (first r X) P k' (by rw [z2g, h, Nat.pow_succ]; omega) (by omega)
theorem z68 {X : List E} (h : X.length = 1) : value X [] = X.getD 0 0 := by
  unfold value; rw [h, sumN, sumN, zero_add, weight, mul_one]
theorem value_eq (X P : List E) (h : X.length = 2 ^ P.length) : value X P = (firsts P X).getD 0 0 := by
  have := z2U P X [] P.length h (Nat.le_refl _)
  rw [List.append_nil] at this
  rw [this, z68 (by rw [z2E P X P.length h (Nat.le_refl _), Nat.sub_self, Nat.pow_zero])]

/-- k of 2^k, as both tell it. -/
theorem map_set {α β : Type} (f : α → β) (X : List α) (i : Nat) (x : α) : (X.map f).set i (f x) = (X.set i x).map f := by rw [List.map_set]
theorem toS_mk (x : E) : (⟨hi x, lo x⟩ : S35) = toS x := rfl
theorem toR_mk (x : E) : (⟨hi x, lo x⟩ : S38) = toR x := rfl
theorem z3S {X : List E} {i : Nat} (h : i < X.length) (x : E) : (X.set i x).getD i 0 = x := by
  rw [List.getD_eq_getElem?_getD, List.getElem?_set_self h]; rfl
theorem getD_set_ne {X : List E} {i j : Nat} (h : i ≠ j) (x : E) : (X.set i x).getD j 0 = X.getD j 0 := by
  rw [List.getD_eq_getElem?_getD, List.getD_eq_getElem?_getD, List.getElem?_set_ne h]
theorem z2V {X Y : List E} (hl : X.length = Y.length) (h : ∀ i, i < X.length → X.getD i 0 = Y.getD i 0) : X = Y := by
  apply List.ext_getElem hl
  intro j h1 h2
  have := h j h1
  simpa [List.getD_eq_getElem?_getD, h1, h2] using this
theorem getD_take {X : List E} {i m : Nat} (h : i < m) : (X.take m).getD i 0 = X.getD i 0 := by
  rw [List.getD_eq_getElem?_getD, List.getD_eq_getElem?_getD, List.getElem?_take_of_lt h]
theorem z3c {l : Nat} {X : List E} (h : AllS (l : Int) X) (i : Nat) : InL l (X.getD i 0) := by
  rw [List.getD_eq_getElem?_getD]
  by_cases c : i < X.length
  · rw [List.getElem?_eq_getElem c]
    have := (h _ (List.getElem_mem c)).2.2
    rw [Int.toNat_natCast] at this; exact this
  · rw [List.getElem?_eq_none (by omega)]; exact z3X l
theorem allS_first {l : Nat} (hl : l ≤ 7) {X : List E} {r : E} (hX : AllS (l : Int) X) (hr : InL l r) : AllS (l : Int) (first r X) := by
  intro x hx
  unfold first at hx
  rw [List.mem_map] at hx
  obtain ⟨i, _, rfl⟩ := hx
  refine ⟨by omega, by omega, ?_⟩
  rw [Int.toNat_natCast]
  exact z3U (z3c hX _) (z3W hl hr (z3U (z3c hX _) (z3c hX _)))
theorem half_len (n : Nat) (h : n ≤ 1000000) : wrap64 ((n : Int) / 2) = ((n / 2 : Nat) : Int) := by rw [z1P (by omega) (by omega)]; omega
theorem w64_dbl {i : Nat} (h : i ≤ 1000000) : wrap64 (2 * (i : Int)) = ((2 * i : Nat) : Int) := by rw [z1P (by omega) (by omega)]; omega
end Go.Proofs.Ytnhbdhgbmjcjdaa.Sp
/- Sums of pairs of elements: bits of elements are sums, and a pair times an element on the left is the pair of the product. Own text; nothing of the program in it. -/
namespace Go.Proofs.Ytnhbdhgbmjcjdaa.Sp
open Go.RowKit Go.Proofs.YtnhbdhgbmjcjdaaW.PrintWords Go.Proofs.YtnhbdhgbmjcjdaaW.PrintMore Go.Proofs.Ytnhbdhgbmjcjdaa.P Go.Proofs.Ytnhbdhgbmjcjdaa.Ar Go.Proofs.Ytnhbdhgbmjcjdaa.Tw
set_option linter.unusedVariables false
theorem z2Y (b : Bool) (y z : E) : pick b (y + z) = pick b y + pick b z := by
  cases b
  · rw [z1e, z1e, z1e, add_zero]
  · rw [z1s, z1s, z1s]
theorem z44 (b : Bool) (y z : E) : pick b (y * z) = pick b y * z := by
  cases b
  · rw [z1e, z1e, zero_mul]
  · rw [z1s, z1s]
theorem z5X (b : Bool) : pick b (0 : E) = 0 := by
  cases b
  · exact z1e _
  · exact z1s _
theorem pick_xor (a b : Bool) (y : E) : pick (a ^^ b) y = pick a y + pick b y := by
  cases a <;> cases b
  · show pick false y = _; rw [z1e, add_zero]
  · show pick true y = _; rw [z1e, z1s, zero_add]
  · show pick true y = _; rw [z1e, z1s, add_zero]
  · show pick false y = _; rw [z1e, z1s, z1N]
theorem z5W (a b : Bool) (y : E) : pick a (pick b y) = pick b (pick a y) := by
  cases a <;> cases b <;> simp only [z1s, z1e]
/-- Has an element the bit? -/
def hasB (x : E) (k : Nat) : Bool := (val x).testBit k
theorem hasB_add (x y : E) (k : Nat) : hasB (x + y) k = (hasB x k ^^ hasB y k) := by
  unfold hasB; rw [z1u, Nat.testBit_xor]
theorem z4f (k : Nat) : hasB 0 k = false := by unfold hasB; rw [z1r, Nat.zero_testBit]
/-- What the bit k of z picks of y is a sum in z. -/
theorem z2F (x z y : E) (k : Nat) : pick (hasB (x + z) k) y = pick (hasB x k) y + pick (hasB z k) y := by rw [hasB_add, pick_xor]
theorem z2G (f : Nat → E) (y : E) (k : Nat) : ∀ n, pick (hasB (sumN f n) k) y = sumN (fun u => pick (hasB (f u) k) y) n
  | 0 => by rw [sumN, sumN, z4f, z1e]
  | n + 1 => by rw [sumN, sumN, z2F, z2G f y k n]
theorem z3z (b : Bool) (x y : E) (k : Nat) : pick (hasB (pick b x) k) y = pick b (pick (hasB x k) y) := by
  cases b
  · rw [z1e, z1e, z4f, z1e]
  · rw [z1s, z1s]
theorem z4O (b : Bool) (f : Nat → E) : ∀ n, pick b (sumN f n) = sumN (fun u => pick b (f u)) n
  | 0 => z5X b
  | n + 1 => by rw [sumN, sumN, z2Y, z4O b f n]
theorem z3p (c : E) (f : Nat → E) (n : Nat) : sumN (fun i => f i * c) n = sumN f n * c := by
  rw [mul_comm, ← z4R]
  exact z1q n (fun i _ => mul_comm _ _)
theorem z4r (f : Nat → Nat → E) (n : Nat) : ∀ m, sumN (fun i => sumN (fun j => f i j) m) n = sumN (fun j => sumN (fun i => f i j) n) m
  | 0 => z3q n
  | m + 1 => by
    rw [sumN, ← z4r f n m, ← z2r]
    exact z1q n (fun i _ => rfl)
theorem sumN_one (f : Nat → E) (n i : Nat) (hi : i < n) (h : ∀ j, j < n → j ≠ i → f j = 0) : sumN f n = f i := by
  induction n with
  | zero => omega
  | succ n ih =>
    rw [sumN]
    by_cases c : i = n
    · subst c
      have : sumN f i = 0 := by
        rw [z1q (g := fun _ => 0) i (fun j hj => h j (by omega) (by omega))]; exact z3q i
      rw [this, zero_add]
    · rw [ih (by omega) (fun j hj hne => h j (by omega) hne), h n (by omega) (fun e => c e.symm), add_zero]
theorem z2Z {n : Nat} (hn : n < 128) : val (bitE n) = 2 ^ n := by
  unfold bitE
  exact z1J 7 _ (by rw [z3P]; exact Nat.pow_lt_pow_right (by decide) hn)
theorem z4V (b : Bool) (x : E) : val (pick b x) = if b then val x else 0 := by
  cases b
  · rw [z1e, z1r]; rfl
  · rw [z1s]; rfl
/-- An element is the sum of its bits. -/
theorem z2Q (x : E) : ∀ n, n ≤ 128 → val (sumN (fun u => pick (hasB x u) (bitE u)) n) = val x % 2 ^ n
  | 0, _ => by rw [sumN, z1r, Nat.pow_zero, Nat.mod_one]
  | n + 1, h => by
    rw [sumN, z1u, z2Q x n (by omega), z4V, z2Z (by omega)]
    apply Nat.eq_of_testBit_eq
    intro j
    rw [Nat.testBit_xor, Nat.testBit_mod_two_pow, Nat.testBit_mod_two_pow]
    show _ = _
    unfold hasB
    generalize val x = v
    by_cases c : j = n
    · subst c
      cases hb : v.testBit j with
      | true => rw [if_pos rfl, Nat.testBit_two_pow_self]; simp
      | false => rw [if_neg Bool.false_ne_true, Nat.zero_testBit]; simp
    · have h2 : (if v.testBit n then 2 ^ n else 0 : Nat).testBit j = false := by
        cases v.testBit n with
        | true => rw [if_pos rfl, Nat.testBit_two_pow]; simp; omega
        | false => rw [if_neg Bool.false_ne_true, Nat.zero_testBit]
      rw [h2, Bool.xor_false]
      have : decide (j < n + 1) = decide (j < n) := by rw [decide_eq_decide]; omega
      rw [this]
theorem expand {l : Nat} (hl : l ≤ 7) {x : E} (hx : InL l x) : sumN (fun u => pick (hasB x u) (bitE u)) (2 ^ l) = x := by
  apply z22
  rw [z2Q x (2 ^ l) (w128 hl)]
  exact Nat.mod_eq_of_lt hx
theorem bitE_in {l u : Nat} (hl : l ≤ 7) (hu : u < 2 ^ l) : InL l (bitE u) := by
  unfold InL Q
  rw [z2Z (Nat.lt_of_lt_of_le hu (w128 hl))]
  exact Nat.pow_lt_pow_right (by decide) hu
theorem bitE_zero : bitE 0 = 1 := by
  apply z22; rw [z2Z (by decide), z2c]
/-- The bits of a product are sums of those of the products of bits. -/
theorem has_mul {l : Nat} (hl : l ≤ 7) {x : E} (hx : InL l x) (a y : E) (k : Nat) : sumN (fun u => pick (hasB x u) (pick (hasB (bitE u * a) k) y)) (2 ^ l) = pick (hasB (x * a) k) y := by
  have h1 : x * a = sumN (fun u => pick (hasB x u) (bitE u * a)) (2 ^ l) := by
    conv => lhs; rw [← expand hl hx]
    rw [← z3p]
    exact z1q _ (fun u _ => (z44 _ _ _).symm)
  rw [h1, z2G]
  exact z1q _ (fun u _ => (z3z _ _ _ _).symm)
/-- Part k of a tensor times an element on the left, its parts times another one. -/
def actT (n : Nat) (t : Nat → E) (a p : E) (k : Nat) : E := sumN (fun u => pick (hasB (bitE u * a) k) (t u * p)) n
theorem z5u {l : Nat} (hl : l ≤ 7) {x : E} (hx : InL l x) (y a p : E) (k : Nat) : actT (2 ^ l) (fun u => pick (hasB x u) y) a p k = pick (hasB (x * a) k) (y * p) := by
  unfold actT
  rw [← has_mul hl hx a (y * p) k]
  exact z1q _ (fun u _ => by rw [← z44, z5W])
theorem actT_congr (n : Nat) {t s : Nat → E} (a p : E) (k : Nat) (h : ∀ u, u < n → t u = s u) : actT n t a p k = actT n s a p k := by
  unfold actT; exact z1q _ (fun u hu => by rw [h u hu])
theorem actT_sum (n m : Nat) (t : Nat → Nat → E) (a p : E) (k : Nat) : actT n (fun u => sumN (fun i => t i u) m) a p k = sumN (fun i => actT n (t i) a p k) m := by
  unfold actT
  rw [z4r (fun i u => pick (hasB (bitE u * a) k) (t i u * p)) m n]
  exact z1q _ (fun u _ => by rw [← z3p, z4O])
theorem actT_add (n : Nat) (t s : Nat → E) (a p : E) (k : Nat) : actT n (fun u => t u + s u) a p k = actT n t a p k + actT n s a p k := by
  unfold actT
  rw [← z2r]
  exact z1q _ (fun u _ => by rw [add_mul, z2Y])
theorem pick_in {l : Nat} {x : E} (b : Bool) (h : InL l x) : InL l (pick b x) := by
  cases b
  · rw [z1e]; exact z3X l
  · rw [z1s]; exact h
theorem z62 {l : Nat} (f : Nat → E) : ∀ n, (∀ i, i < n → InL l (f i)) → InL l (sumN f n)
  | 0, _ => z3X l
  | n + 1, h => by rw [sumN]; exact z3U (z62 f n (fun i hi => h i (by omega))) (h n (by omega))
theorem actT_in {l : Nat} (hl : l ≤ 7) (n : Nat) (t : Nat → E) (a p : E) (k : Nat) (ht : ∀ u, u < n → InL l (t u)) (hp : InL l p) : InL l (actT n t a p k) :=
  z62 _ n (fun u hu => pick_in _ (z3W hl (ht u hu) hp))
/-- Weights, variable by variable from behind. -/
theorem z4s {l : Nat} (hl : l ≤ 7) : ∀ (P : List E) (i : Nat), (∀ p ∈ P, InL l p) → InL l (weight P i)
  | [], i, _ => z5G l
  | p :: ps, i, h => by
    have hp := h p List.mem_cons_self
    rw [weight]
    refine z3W hl ?_ (z4s hl ps (i / 2) (fun q hq => h q (List.mem_cons_of_mem _ hq)))
    split
    · exact hp
    · exact z3U (z5G l) hp
theorem z2A (p : E) : ∀ (P : List E) (i : Nat), weight (P ++ [p]) i = weight P i * (if i / 2 ^ P.length % 2 = 1 then p else 1 + p)
  | [], i => by
    show weight (p :: []) i = weight [] i * _
    rw [weight, weight, weight, mul_one, one_mul]
    simp
  | q :: Q, i => by
    show weight (q :: (Q ++ [p])) i = weight (q :: Q) i * _
    rw [weight, weight, z2A p Q (i / 2), mul_assoc, Nat.div_div_eq_div_mul, List.length_cons, Nat.pow_succ, Nat.mul_comm 2]
theorem z3v (b : Nat) : ∀ (P : List E) (i : Nat), i < 2 ^ P.length → weight P (2 ^ P.length * b + i) = weight P i
  | [], i, _ => rfl
  | q :: Q, i, h => by
    rw [List.length_cons, Nat.pow_succ] at h
    have e1 : (2 ^ (q :: Q).length * b + i) % 2 = i % 2 := by
      rw [List.length_cons, Nat.pow_succ, Nat.mul_comm (2 ^ Q.length) 2, Nat.mul_assoc]; omega
    have e2 : (2 ^ (q :: Q).length * b + i) / 2 = 2 ^ Q.length * b + i / 2 := by
      rw [List.length_cons, Nat.pow_succ, Nat.mul_comm (2 ^ Q.length) 2, Nat.mul_assoc]; omega
    rw [weight, weight, e1, e2, z3v b Q (i / 2) (by omega)]
theorem z3N (p : E) (P : List E) (i : Nat) (h : i < 2 ^ P.length) : weight (P ++ [p]) i = weight P i * (1 + p) := by
  rw [z2A, Nat.div_eq_of_lt h]; rfl
theorem z4t (p : E) (P : List E) (i : Nat) (h : i < 2 ^ P.length) : weight (P ++ [p]) (2 ^ P.length + i) = weight P i * p := by
  have h0 := z3v 1 P i h
  rw [Nat.mul_one] at h0
  have e : (2 ^ P.length + i) / 2 ^ P.length % 2 = 1 := by
    rw [Nat.add_div_left _ (Nat.two_pow_pos _), Nat.div_eq_of_lt h]
  rw [z2A, h0, e]; rfl
/-- How alike two points are, part by part. -/
def alikeX (P R : List E) (k : Nat) : E := sumN (fun i => pick (hasB (weight P i) k) (weight R i)) (2 ^ P.length)
theorem alikeX_nil (k : Nat) : alikeX [] [] k = pick (hasB 1 k) 1 := by
  unfold alikeX
  show sumN _ 1 = _
  rw [sumN, sumN, zero_add]; rfl
theorem alikeX_snoc {l : Nat} (hl : l ≤ 7) (P R : List E) (p r : E) (hP : ∀ x ∈ P, InL l x) (hlen : P.length = R.length) (k : Nat) :
    alikeX (P ++ [p]) (R ++ [r]) k = alikeX P R k + actT (2 ^ l) (alikeX P R) p 1 k + alikeX P R k * r := by
  have e1 : actT (2 ^ l) (alikeX P R) p 1 k = sumN (fun i => pick (hasB (weight P i * p) k) (weight R i)) (2 ^ P.length) := by
    unfold alikeX
    rw [actT_sum]
    exact z1q _ (fun i _ => by rw [z5u hl (z4s hl P i hP), mul_one])
  have e2 : alikeX P R k * r = sumN (fun i => pick (hasB (weight P i) k) (weight R i * r)) (2 ^ P.length) := by
    unfold alikeX
    rw [← z3p]
    exact z1q _ (fun i _ => (z44 _ _ _).symm)
  rw [e1, e2]
  unfold alikeX
  rw [← z2r, ← z2r, List.length_append, List.length_singleton, Nat.pow_succ, Nat.mul_two, z3L, ← z2r]
  apply z1q
  intro i hi
  have hi' : i < 2 ^ R.length := by rw [← hlen]; exact hi
  rw [z3N p P i hi, z4t p P i hi, z3N r R i hi', show 2 ^ P.length + i = 2 ^ R.length + i by rw [hlen], z4t r R i hi']
  generalize weight P i = w
  generalize weight R i = v
  rw [mul_add, mul_add, mul_one, mul_one, z2F, z2Y, z2Y]
  generalize pick (hasB w k) v = a
  generalize pick (hasB (w * p) k) v = b
  generalize pick (hasB w k) (v * r) = c
  generalize pick (hasB (w * p) k) (v * r) = d
  have : a + c + (b + d) + d = a + b + c := by
    rw [add_assoc (a + c), add_assoc b d d, z1N, add_zero, add_assoc a c b, add_comm c b, ← add_assoc]
  exact this
end Go.Proofs.Ytnhbdhgbmjcjdaa.Sp
/- The program's sums of pairs: a tensor times an element on the left, parts by another one, added to one. Own text. -/
namespace Go.Proofs.Ytnhbdhgbmjcjdaa.Sp
open Go.RowKit Go.Proofs.YtnhbdhgbmjcjdaaW.PrintWords Go.Proofs.YtnhbdhgbmjcjdaaW.PrintMore Go.Proofs.Ytnhbdhgbmjcjdaa.P Go.Proofs.Ytnhbdhgbmjcjdaa.Ar Go.Proofs.Ytnhbdhgbmjcjdaa.Tw
set_option linter.unusedVariables false
/-- A list of so many elements. -/
def tabL (n : Nat) (f : Nat → E) : List E := (List.range n).map f
theorem z1o (n : Nat) (f : Nat → E) : (tabL n f).length = n := by simp [tabL]
theorem z1U (n : Nat) (f : Nat → E) (i : Nat) (h : i < n) : (tabL n f).getD i 0 = f i := z3f f 0 n i h
theorem z2s (n : Nat) {f g : Nat → E} (h : ∀ i, i < n → f i = g i) : tabL n f = tabL n g := by
  unfold tabL
  apply List.map_congr_left
  intro i hi
  exact h i (List.mem_range.1 hi)
theorem tabL_self (X : List E) : tabL X.length (fun i => X.getD i 0) = X := by
  apply z2V (z1o _ _)
  intro i hi
  rw [z1o] at hi
  exact z1U _ _ i hi
theorem tabL_set (n : Nat) (f g : Nat → E) (i : Nat) (hi : i < n) (hg : ∀ k, k < n → k ≠ i → g k = f k) : (tabL n f).set i (g i) = tabL n g := by
  apply z2V
  · rw [List.length_set, z1o, z1o]
  · intro k hk
    rw [List.length_set, z1o] at hk
    rw [z1U n g k hk]
    by_cases c : i = k
    · subst c
      exact z3S (by rw [z1o]; exact hi) _
    · rw [getD_set_ne c, z1U n f k hk, hg k hk (fun e => c e.symm)]
theorem z3A (n : Nat) : List.replicate n (0 : E) = tabL n (fun _ => 0) := by
  apply z2V
  · rw [List.length_replicate, z1o]
  · intro i hi
    rw [List.length_replicate] at hi
    rw [z1U n _ i hi, List.getD_eq_getElem?_getD, List.getElem?_replicate, if_pos hi]; rfl
theorem tabL_all {l : Nat} (hl : l ≤ 7) (n : Nat) (f : Nat → E) (h : ∀ i, i < n → InL l (f i)) : AllS (l : Int) (tabL n f) := by
  intro x hx
  unfold tabL at hx
  obtain ⟨i, hi, rfl⟩ := List.mem_map.1 hx
  exact ⟨by omega, by omega, by rw [Int.toNat_natCast]; exact h i (List.mem_range.1 hi)⟩
theorem ofS_of {l : Nat} (hl : l ≤ 7) {x : E} (h : InL l x) : OfS (l : Int) x := ⟨by omega, by omega, by rw [Int.toNat_natCast]; exact h⟩
theorem inL_of {l : Nat} {x : E} (h : OfS (l : Int) x) : InL l x := by have := h.2.2; rwa [Int.toNat_natCast] at this
/-- One product's bits, each with y, added to what there is. -/
def bitAdd (f : Nat → E) (z y : E) (i k : Nat) : E := f k + pick (decide (k < i) && hasB z k) y
theorem z4x (f : Nat → E) (z y : E) (k : Nat) : bitAdd f z y 0 k = f k := by
  unfold bitAdd
  rw [decide_eq_false (Nat.not_lt_zero k), Bool.false_and, z1e, add_zero]
theorem z4b (f : Nat → E) (z y : E) (i : Nat) : bitAdd f z y i i = f i := by
  unfold bitAdd
  rw [decide_eq_false (Nat.lt_irrefl i), Bool.false_and, z1e, add_zero]
theorem z3e (f : Nat → E) (z y : E) (i k : Nat) (h : k ≠ i) : bitAdd f z y (i + 1) k = bitAdd f z y i k := by
  unfold bitAdd
  have : decide (k < i + 1) = decide (k < i) := by rw [decide_eq_decide]; omega
  rw [this]
theorem z3I (f : Nat → E) (z y : E) (i : Nat) : bitAdd f z y (i + 1) i = f i + pick (hasB z i) y := by
  unfold bitAdd
  rw [decide_eq_true (Nat.lt_succ_self i), Bool.true_and]
theorem z53 (f : Nat → E) (z y : E) (n k : Nat) (h : k < n) : bitAdd f z y n k = f k + pick (hasB z k) y := by
  unfold bitAdd
  rw [decide_eq_true h, Bool.true_and]
end Go.Proofs.Ytnhbdhgbmjcjdaa.Sp
/- Elements as rows of bits: the leading bit, whether bits stand below n, bits turned about. Own text. -/
namespace Go.Proofs.Ytnhbdhgbmjcjdaa.Sp
open Go.RowKit Go.Proofs.YtnhbdhgbmjcjdaaW.PrintWords Go.Proofs.YtnhbdhgbmjcjdaaW.PrintMore Go.Proofs.Ytnhbdhgbmjcjdaa.P Go.Proofs.Ytnhbdhgbmjcjdaa.Ar Go.Proofs.Ytnhbdhgbmjcjdaa.Tw
set_option linter.unusedVariables false
/-- How many bits a number has. -/
def blen (n : Nat) : Nat := if n = 0 then 0 else Nat.log2 n + 1
theorem z21 (n k : Nat) : blen n ≤ k ↔ n < 2 ^ k := by
  unfold blen
  by_cases h : n = 0
  · rw [if_pos h, h]
    exact ⟨fun _ => Nat.two_pow_pos k, fun _ => Nat.zero_le _⟩
  · rw [if_neg h, ← Nat.log2_lt h]
    exact ⟨fun h => h, fun h => h⟩
theorem z25 (n s : Nat) (h : 2 ^ s ≤ n) : blen n = blen (n / 2 ^ s) + s := by
  have key : ∀ k, blen n ≤ k + s ↔ blen (n / 2 ^ s) ≤ k := by
    intro k
    rw [z21, z21, Nat.div_lt_iff_lt_mul (Nat.two_pow_pos s), ← Nat.pow_add]
  have hs : s ≤ blen n := by
    apply Classical.byContradiction
    intro g
    have := (z21 n s).1 (by omega)
    omega
  have h1 := (key (blen (n / 2 ^ s))).2 (Nat.le_refl _)
  have h2 := (key (blen n - s)).1 (by omega)
  omega
def len8 : ByteArray := ⟨#[0, 1, 2, 2, 3, 3, 3, 3, 4, 4, 4, 4, 4, 4, 4, 4, 5, 5, 5, 5, 5, 5, 5, 5, 5, 5, 5, 5, 5, 5, 5, 5, 6, 6, 6, 6, 6, 6, 6, 6, 6, 6, 6, 6, 6, 6, 6, 6, 6, 6, 6, 6, 6, 6, 6, 6, 6, 6, 6, 6, 6, 6, 6, 6, 7, 7, 7, 7, 7, 7, 7, 7, 7, 7, 7, 7, 7, 7, 7, 7, 7, 7, 7, 7, 7, 7, 7, 7, 7, 7, 7, 7, 7, 7, 7, 7, 7, 7, 7, 7, 7, 7, 7, 7, 7, 7, 7, 7, 7, 7, 7, 7, 7, 7, 7, 7, 7, 7, 7, 7, 7, 7, 7, 7, 7, 7, 7, 7, 8, 8, 8, 8, 8, 8, 8, 8, 8, 8, 8, 8, 8, 8, 8, 8, 8, 8, 8, 8, 8, 8, 8, 8, 8, 8, 8, 8, 8, 8, 8, 8, 8, 8, 8, 8, 8, 8, 8, 8, 8, 8, 8, 8, 8, 8, 8, 8, 8, 8, 8, 8, 8, 8, 8, 8, 8, 8, 8, 8, 8, 8, 8, 8, 8, 8, 8, 8, 8, 8, 8, 8, 8, 8, 8, 8, 8, 8, 8, 8, 8, 8, 8, 8, 8, 8, 8, 8, 8, 8, 8, 8, 8, 8, 8, 8, 8, 8, 8, 8, 8, 8, 8, 8, 8, 8, 8, 8, 8, 8, 8, 8, 8, 8, 8, 8, 8, 8, 8, 8, 8, 8, 8, 8, 8, 8, 8, 8]⟩
theorem len8_eq : ∀ b : Nat, b < 256 → bt len8 (b : Int) = ((blen b : Nat) : Int) := by decide +kernel
theorem len_j0 (n : Nat) (hn : n < 2 ^ 32) (x : Nat) (hx : x ≤ 1000) : Ev (fun k => zJ.j0 k (n : Int) (x : Int)) ((x + blen n : Nat) : Int) := by
  have fin : ∀ (m y : Nat), m < 256 → y ≤ 2000 → wrap64 ((y : Int) + wrap64 (bt len8 (m : Int))) = ((y + blen m : Nat) : Int) := by
    intro m y hm hy
    have hb : blen m ≤ 8 := (z21 m 8).2 hm
    rw [len8_eq m hm, z1P (x := ((blen m : Nat) : Int)) (by omega) (by omega)]
    exact w64_add (by omega) (by omega)
  have e16 : wrap64 ((x : Int) + 16) = ((x + 16 : Nat) : Int) := by rw [z1P (by omega) (by omega)]; omega
  have e8 : wrap64 ((x : Int) + 8) = ((x + 8 : Nat) : Int) := by rw [z1P (by omega) (by omega)]; omega
  have e24 : wrap64 ((((x + 16 : Nat) : Int)) + 8) = ((x + 24 : Nat) : Int) := by rw [z1P (by omega) (by omega)]; omega
  refine Ev.step (fun k => by rw [zJ.j0]) ?_
  by_cases c1 : (n : Int) ≥ 65536
  · refine Ev.pos c1 ?_
    have hb := z25 n 16 (by omega)
    have q1 : (n : Int) / 65536 = ((n / 2 ^ 16 : Nat) : Int) := by omega
    rw [q1, e16, e24]
    generalize hq : n / 2 ^ 16 = q at hb
    have hq16 : q < 65536 := by omega
    by_cases c2 : (q : Int) ≥ 256
    · refine Ev.pos c2 ?_
      have hb2 := z25 q 8 (by omega)
      have q2 : ((q : Int) / 256) % 256 = ((q / 2 ^ 8 : Nat) : Int) := by omega
      rw [q2]
      refine Ev.pos (Int.natCast_nonneg _) (Ev.pos (by omega) (Ev.ret' ?_))
      have := fin (q / 2 ^ 8) (x + 24) (by omega) (by omega)
      refine this.trans ?_
      omega
    · refine Ev.neg c2 ?_
      have q2 : (q : Int) % 256 = (q : Int) := by omega
      rw [q2]
      refine Ev.pos (Int.natCast_nonneg _) (Ev.pos (by omega) (Ev.ret' ?_))
      have := fin q (x + 16) (by omega) (by omega)
      refine this.trans ?_
      omega
  · refine Ev.neg c1 ?_
    by_cases c2 : (n : Int) ≥ 256
    · refine Ev.pos c2 ?_
      have hb2 := z25 n 8 (by omega)
      have q2 : ((n : Int) / 256) % 256 = ((n / 2 ^ 8 : Nat) : Int) := by omega
      rw [q2, e8]
      refine Ev.pos (Int.natCast_nonneg _) (Ev.pos (by omega) (Ev.ret' ?_))
      have := fin (n / 2 ^ 8) (x + 8) (by omega) (by omega)
      refine this.trans ?_
      omega
    · refine Ev.neg c2 ?_
      have q2 : (n : Int) % 256 = (n : Int) := by omega
      rw [q2]
      refine Ev.pos (Int.natCast_nonneg _) (Ev.pos (by omega) (Ev.ret' ?_))
      exact fin n x (by omega) (by omega)
theorem z4B (n : Nat) (hn : n < 2 ^ 64) : Ev (fun k => zJ.f k (n : Int)) ((blen n : Nat) : Int) := by
  unfold zJ.f
  by_cases c : (n : Int) ≥ 4294967296
  · refine Ev.pos c ?_
    have q1 : (n : Int) / 4294967296 = ((n / 2 ^ 32 : Nat) : Int) := by omega
    have hb := z25 n 32 (by omega)
    rw [q1, hb, Nat.add_comm]
    exact len_j0 (n / 2 ^ 32) (by omega) 32 (by decide)
  · refine Ev.neg c ?_
    have := len_j0 n (by omega) 0 (by decide)
    rw [Nat.zero_add] at this
    exact this
/-- The leading bit. -/
theorem lead_ev (x : E) : Ev (fun k => z12.f k (hi x) (lo x)) (((blen (val x) : Nat) : Int) - 1) := by
  have h1 := hi_bd x
  have h2 := z59 x
  have hv := z3s x
  unfold z12.f
  obtain ⟨h, hh⟩ := Int.eq_ofNat_of_zero_le h1.1
  obtain ⟨l, hl⟩ := Int.eq_ofNat_of_zero_le h2.1
  rw [hh] at h1 hv ⊢
  rw [hl] at h2 hv ⊢
  rw [Int.toNat_natCast, Int.toNat_natCast] at hv
  by_cases c : (h : Int) = 0
  · refine Ev.pos c (Ev.bnd (z4B l (by omega)) (Ev.ret' ?_))
    have : val x = l := by omega
    rw [this]
    have hb : blen l ≤ 64 := (z21 l 64).2 (by omega)
    exact z1P (by omega) (by omega)
  · refine Ev.neg c (Ev.bnd (z4B h (by omega)) (Ev.ret' ?_))
    have hb : blen h ≤ 64 := (z21 h 64).2 (by omega)
    have hs := z25 (val x) 64 (by omega)
    have hd : val x / 2 ^ 64 = h := by omega
    rw [hd] at hs
    rw [hs, z1P (by omega) (by omega)]
    omega
/-- Do all elements have bits below n alone? -/
def InN (n : Nat) (X : List E) : Prop := ∀ x ∈ X, val x < 2 ^ n
instance (n : Nat) (X : List E) : Decidable (InN n X) := by unfold InN; infer_instance
theorem z3w (n : Nat) (hn : n ≤ 1000000) : ∀ (X : List E), Ev (fun k => zA.f k (X.map toS) (n : Int)) (decide (InN n X))
  | [] => by refine Ev.ret' ?_; symm; rw [decide_eq_true_eq]; intro x hx; cases hx
  | x :: xs => by
    show Ev (fun k => (zA.q.f k (n : Int) (toS x).f0 (toS x).f1).bind fun b => if b = true then zA.all k (n : Int) (xs.map toS) else some false) _
    have hq : Ev (fun k => zA.q.f k (n : Int) (hi x) (lo x)) (decide (val x < 2 ^ n)) := by
      unfold zA.q.f
      refine Ev.bnd (lead_ev x) (Ev.ret' ?_)
      have := z21 (val x) n
      by_cases c : val x < 2 ^ n
      · have h2 := this.2 c
        rw [decide_eq_true c, decide_eq_false (show ¬ (((blen (val x) : Nat) : Int) - 1 ≥ (n : Int)) by omega)]; rfl
      · have h2 : ¬ blen (val x) ≤ n := fun h => c (this.1 h)
        rw [decide_eq_false c, decide_eq_true (show ((blen (val x) : Nat) : Int) - 1 ≥ (n : Int) by omega)]; rfl
    refine Ev.bnd hq ?_
    have hd : InN n (x :: xs) ↔ val x < 2 ^ n ∧ InN n xs := List.forall_mem_cons
    by_cases c : val x < 2 ^ n
    · refine Ev.pos (decide_eq_true c) ((z3w n hn xs).eqn ?_)
      rw [decide_eq_decide, hd]; exact ⟨fun h => ⟨c, h⟩, fun h => h.2⟩
    · refine Ev.neg (by simpa using c) (Ev.ret' ?_)
      symm; rw [decide_eq_false_iff_not, hd]; exact fun h => c h.1
theorem z5i (x : E) (n : Nat) (hn : n < 128) : Ev (fun k => z19.f k (hi x) (lo x) (n : Int)) (hasB x n) := by
  unfold z19.f
  exact Ev.bnd (z3r n hn) (Ev.ret' (hasBits x n hn))
/-- Bits turned about, as far as one has come. -/
def turnN (X : List E) (m j : Nat) : E := sumN (fun i => pick (hasB (X.getD i 0) j) (bitE i)) m
def turnL (X : List E) (n : Nat) : List E := tabL n (turnN X X.length)
theorem turn_l1 (n : Nat) (hn : n ≤ 128) (f : Nat → E) (z : E) (i : Nat) (hi128 : i < 128) (XS : List S35) (m : Int) {R : List S35 × Int}
    (h : Ev (fun k => zq.l0 k (n : Int) ((tabL n (fun q => f q + pick (hasB z q) (bitE i))).map toS) XS m (wrap64 ((i : Int) + 1))) R) :
    ∀ (d j : Nat), j + d = n → Ev (fun k => zq.l1 k (n : Int) ((tabL n (bitAdd f z (bitE i) j)).map toS) (i : Int) XS m (i : Int) (n : Int) (j : Int) (hi z) (lo z)) R := by
  intro d
  induction d with
  | zero =>
    intro j hj
    have : j = n := by omega
    subst this
    refine Ev.step (fun k => by rw [zq.l1]) (Ev.neg (Int.lt_irrefl _) ?_)
    rw [z2s _ (fun q hq => z53 f z (bitE i) j q hq)]
    exact h
  | succ d ih =>
    intro j hj
    have hj' : j < n := by omega
    have hih := ih (j + 1) (by omega)
    have hg : (tabL n (bitAdd f z (bitE i) j)).getD j 0 = f j := by rw [z1U _ _ j hj', z4b]
    have c3 : (j : Int) < (((tabL n (bitAdd f z (bitE i) j)).map toS).length : Int) := by rw [List.length_map, z1o]; omega
    refine Ev.step (fun k => by rw [zq.l1]) (Ev.pos (by omega) (Ev.bnd (z5i z j (by omega)) ?_))
    cases c : hasB z j with
    | true =>
      refine Ev.pos rfl (Ev.pos (Int.natCast_nonneg _) (Ev.pos c3 (Ev.bnd (z3r i hi128) ?_)))
      simp only [rdS, hg, z4S, z4T]
      refine Ev.bnd0 (Add_eq _ _) ?_
      have e : ((tabL n (bitAdd f z (bitE i) j)).map toS).set (j : Int).toNat (⟨hi (f j + bitE i), lo (f j + bitE i)⟩ : S35) = (tabL n (bitAdd f z (bitE i) (j + 1))).map toS := by
        rw [Int.toNat_natCast, toS_mk, map_set]
        have hn2 := z3I f z (bitE i) j
        rw [c, z1s] at hn2
        rw [← hn2, tabL_set _ _ _ j hj' (fun q _ hne => z3e f z (bitE i) j q hne)]
      simp only [e, z1D hj' (show n ≤ 4611686018427387904 by omega)]
      exact hih
    | false =>
      refine Ev.neg Bool.false_ne_true ?_
      have e : tabL n (bitAdd f z (bitE i) (j + 1)) = tabL n (bitAdd f z (bitE i) j) := by
        apply z2s
        intro q _
        by_cases cq : q = j
        · subst cq; rw [z3I, c, z1e, add_zero, z4b]
        · exact z3e f z (bitE i) j q cq
      rw [z1D hj' (by omega), ← e]; exact hih
theorem turn_l0 (X : List E) (hX : X.length ≤ 128) (n : Nat) (hn : n ≤ 128) : ∀ (d i : Nat), i + d = X.length →
    Ev (fun k => zq.l0 k (n : Int) ((tabL n (turnN X i)).map toS) (X.map toS) (X.length : Int) (i : Int)) ((turnL X n).map toS, 0) := by
  intro d
  induction d with
  | zero =>
    intro i hid
    have : i = X.length := by omega
    subst this
    refine Ev.step (fun k => by rw [zq.l0]) ?_
    exact Ev.neg (Int.lt_irrefl _) (Ev.ret _)
  | succ d ih =>
    intro i hid
    have hi' : i < X.length := by omega
    have hih := ih (i + 1) (by omega)
    have c3 : (i : Int) < ((X.map toS).length : Int) := by rw [List.length_map]; omega
    refine Ev.step (fun k => by rw [zq.l0]) (Ev.pos (by omega) (Ev.pos (Int.natCast_nonneg _) (Ev.pos c3 ?_)))
    simp only [rdS, z4S, z4T]
    have e0 : tabL n (turnN X i) = tabL n (bitAdd (turnN X i) (X.getD i 0) (bitE i) 0) := z2s _ (fun q _ => (z4x _ _ _ q).symm)
    rw [e0]
    refine turn_l1 n hn (turnN X i) (X.getD i 0) i (by omega) _ _ ?_ n 0 (Nat.zero_add _)
    rw [z1D hi' (by omega)]
    have e1 : tabL n (fun q => turnN X i q + pick (hasB (X.getD i 0) q) (bitE i)) = tabL n (turnN X (i + 1)) := z2s _ (fun q _ => by
      show _ = sumN _ (i + 1)
      rw [sumN]; rfl)
    rw [e1]
    exact hih
theorem z5t (X : List E) (hX : X.length ≤ 128) (n : Nat) (hn : n ≤ 128) (hin : InN n X) : Ev (fun k => zq.f k (X.map toS) (n : Int)) ((turnL X n).map toS, 0) := by
  unfold zq.f
  rw [List.length_map]
  refine Ev.neg (by omega) (Ev.neg (by omega) ?_)
  rw [decide_eq_false (show ¬ ((n : Int) > 128) by omega)]
  refine Ev.step (fun k => by rw [zq.j0]) (Ev.neg (by decide) (Ev.bnd (z3w n (by omega) X) ?_))
  refine Ev.pos (decide_eq_true hin) ?_
  refine Ev.pos (Int.natCast_nonneg _) ?_
  refine Ev.pos (show ((n : Nat) : Int).toNat ≤ 17592186044416 by rw [Int.toNat_natCast]; omega) ?_
  rw [List.length_map, Int.toNat_natCast, rep_zero, z3A]
  have e0 : tabL n (fun _ => (0 : E)) = tabL n (turnN X 0) := rfl
  rw [e0]
  exact turn_l0 X hX n hn X.length 0 (Nat.zero_add _)
end Go.Proofs.Ytnhbdhgbmjcjdaa.Sp
/- What layer 4's document says of leading bits, maps and bits turned about; turned twice is as it was. Own text. -/
namespace Go.Proofs.Ytnhbdhgbmjcjdaa.Sp
open Go.RowKit Go.Proofs.YtnhbdhgbmjcjdaaW.PrintWords Go.Proofs.YtnhbdhgbmjcjdaaW.PrintMore Go.Proofs.Ytnhbdhgbmjcjdaa.P Go.Proofs.Ytnhbdhgbmjcjdaa.Ar Go.Proofs.Ytnhbdhgbmjcjdaa.Tw
set_option linter.unusedVariables false
def leadI (x : E) (i : Nat) : Int := ((blen (val x % 2 ^ i) : Nat) : Int) - 1
theorem z5M {x : E} {i : Nat} (h : (val x).testBit i = true) : leadI x (i + 1) = (i : Int) := by
  have h1 : val x / 2 ^ i % 2 = 1 := by rw [Nat.testBit_eq_decide_div_mod_eq] at h; exact of_decide_eq_true h
  have h2 : val x % 2 ^ (i + 1) = val x % 2 ^ i + 2 ^ i * (val x / 2 ^ i % 2) := Nat.mod_pow_succ
  rw [h1, Nat.mul_one] at h2
  have hlt : val x % 2 ^ i < 2 ^ i := Nat.mod_lt _ (Nat.two_pow_pos i)
  have hp : (2 : Nat) ^ (i + 1) = 2 ^ i + 2 ^ i := by rw [Nat.pow_succ, Nat.mul_two]
  have b1 : blen (val x % 2 ^ (i + 1)) ≤ i + 1 := (z21 _ _).2 (Nat.mod_lt _ (Nat.two_pow_pos _))
  have b2 : ¬ blen (val x % 2 ^ (i + 1)) ≤ i := fun g => by have := (z21 _ _).1 g; omega
  unfold leadI; omega
theorem z57 {x : E} {i : Nat} (h : (val x).testBit i = false) : leadI x (i + 1) = leadI x i := by
  have h1 : val x / 2 ^ i % 2 = 0 := by
    rw [Nat.testBit_eq_decide_div_mod_eq] at h
    have := of_decide_eq_false h; omega
  have h2 : val x % 2 ^ (i + 1) = val x % 2 ^ i + 2 ^ i * (val x / 2 ^ i % 2) := Nat.mod_pow_succ
  rw [h1, Nat.mul_zero] at h2
  have h3 : val x % 2 ^ (i + 1) = val x % 2 ^ i := h2.trans (Nat.add_zero _)
  unfold leadI
  rw [h3]
theorem z5L (x : E) : leadI x 128 = ((blen (val x) : Nat) : Int) - 1 := by
  have := z1i x
  rw [z3P] at this
  unfold leadI; rw [Nat.mod_eq_of_lt this]
theorem z58 (x : E) : leadI x 0 = -1 := by
  unfold leadI; rw [Nat.pow_zero, Nat.mod_one]; rfl
theorem z5h (x : E) : ∀ (d i : Nat), i + d = 128 → Ev (fun k => zv.l0 k (leadI x i) (i : Int) (hi x) (lo x)) (leadI x 128) := by
  intro d
  induction d with
  | zero =>
    intro i hid
    have : i = 128 := by omega
    subst this
    refine Ev.step (fun k => by rw [zv.l0]) ?_
    exact Ev.neg (by decide) (Ev.ret _)
  | succ d ih =>
    intro i hid
    have hi' : i < 128 := by omega
    have hih := ih (i + 1) (by omega)
    refine Ev.step (fun k => by rw [zv.l0]) (Ev.pos (by omega) (Ev.bnd (z5n x i hi') ?_))
    simp only [z1D hi' (show 128 ≤ 4611686018427387904 by decide)]
    cases c : (val x).testBit i with
    | true =>
      rw [z5M c] at hih
      exact Ev.pos rfl hih
    | false =>
      rw [z57 c] at hih
      exact Ev.neg Bool.false_ne_true hih
theorem z5g (x : E) : Ev (fun k => zv.f k (hi x) (lo x)) (((blen (val x) : Nat) : Int) - 1) := by
  unfold zv.f
  have := z5h x 128 0 (by decide)
  rw [z58, z5L] at this
  exact this
theorem z5f (n : Nat) (X : List E) (hX : X.length ≤ 1000000) : ∀ (d i : Nat), i + d = X.length → Ev (fun k => zu.l0 k (X.map toR) (n : Int) (i : Int)) (decide (InN n (X.drop i))) := by
  intro d
  induction d with
  | zero =>
    intro i hi
    refine Ev.step (fun k => by rw [zu.l0]) (Ev.neg (by rw [List.length_map]; omega) (Ev.ret' ?_))
    symm; rw [decide_eq_true_eq, List.drop_eq_nil_of_le (by omega)]
    intro x hx; cases hx
  | succ d ih =>
    intro i hid
    have hi' : i < X.length := by omega
    have hd : InN n (X.drop i) ↔ val (X.getD i 0) < 2 ^ n ∧ InN n (X.drop (i + 1)) := by
      rw [List.drop_eq_getElem_cons hi']
      have : X.getD i 0 = X[i] := by rw [List.getD_eq_getElem?_getD, List.getElem?_eq_getElem hi']; rfl
      rw [this]
      exact List.forall_mem_cons
    have c1 : (i : Int) < ((X.map toR).length : Int) := by rw [List.length_map]; omega
    have hb := z21 (val (X.getD i 0)) n
    refine Ev.step (fun k => by rw [zu.l0]) (Ev.pos c1 (Ev.pos (Int.natCast_nonneg _) ?_))
    simp only [rdR, z63, z64, z1D hi' (show X.length ≤ 4611686018427387904 by omega)]
    refine Ev.bnd (z5g _) ?_
    by_cases c : val (X.getD i 0) < 2 ^ n
    · have h2 := hb.2 c
      refine Ev.neg (by omega) ((ih (i + 1) (by omega)).eqn ?_)
      rw [decide_eq_decide, hd]; exact ⟨fun h => ⟨c, h⟩, fun h => h.2⟩
    · have h2 : ¬ blen (val (X.getD i 0)) ≤ n := fun h => c (hb.1 h)
      refine Ev.pos (by omega) (Ev.ret' ?_)
      symm; rw [decide_eq_false_iff_not, hd]; exact fun h => c h.1
theorem z5e (n : Nat) (X : List E) (hX : X.length ≤ 1000000) : Ev (fun k => zu.f k (X.map toR) (n : Int)) (decide (InN n X)) := by
  unfold zu.f
  exact z5f n X hX X.length 0 (Nat.zero_add _)
/-- Bits turned about, or the error. -/
def turnE (X : List E) (n : Int) : Int := if X.length > 128 ∨ n < 0 ∨ n > 128 then 1 else if InN n.toNat X then 0 else 6
def turnR (X : List E) (n : Int) : List E := if turnE X n = 0 then turnL X n.toNat else []
theorem z50 (X : List E) (n : Int) : Ev (fun k => zq.f k (X.map toS) n) ((turnR X n).map toS, turnE X n) := by
  have h1 : (X.length > 128 ∨ n < 0 ∨ n > 128) → Ev (fun k => zq.j0 k (X.map toS) n true) ((turnR X n).map toS, turnE X n) := by
    intro h
    have e : turnE X n = 1 := if_pos h
    have eo : turnR X n = [] := if_neg (by rw [e]; decide)
    rw [e, eo]
    refine Ev.step (fun k => by rw [zq.j0]) ?_
    exact Ev.pos rfl (Ev.ret _)
  by_cases c : X.length > 128 ∨ n < 0 ∨ n > 128
  · unfold zq.f
    rw [List.length_map]
    by_cases c1 : (X.length : Int) > 128
    · exact Ev.pos c1 (h1 c)
    refine Ev.neg c1 ?_
    by_cases c2 : n < 0
    · exact Ev.pos c2 (h1 c)
    refine Ev.neg c2 ?_
    rw [decide_eq_true (show n > 128 by omega)]
    exact h1 c
  obtain ⟨m, rfl⟩ := Int.eq_ofNat_of_zero_le (show 0 ≤ n by omega)
  by_cases ci : InN m X
  · have e : turnE X (m : Int) = 0 := by unfold turnE; rw [if_neg c, Int.toNat_natCast, if_pos ci]
    have eo : turnR X (m : Int) = turnL X m := by unfold turnR; rw [if_pos e, Int.toNat_natCast]
    rw [e, eo]
    exact z5t X (by omega) m (by omega) ci
  · have e : turnE X (m : Int) = 6 := by unfold turnE; rw [if_neg c, Int.toNat_natCast, if_neg ci]
    have eo : turnR X (m : Int) = [] := if_neg (by rw [e]; decide)
    rw [e, eo]
    unfold zq.f
    rw [List.length_map]
    refine Ev.neg (by omega) (Ev.neg (by omega) ?_)
    rw [decide_eq_false (show ¬ ((m : Int) > 128) by omega)]
    refine Ev.step (fun k => by rw [zq.j0]) (Ev.neg (by decide) (Ev.bnd (z3w m (by omega) X) ?_))
    exact Ev.neg (by rw [decide_eq_false ci]; exact Bool.false_ne_true) (Ev.ret _)
theorem z4p (X : List E) (hX : X.length ≤ 128) (n j : Nat) (hj : j < n) (hn : n ≤ 128) (out : List S38) (hout : out.length ≤ 128) {R : List S38 × Int}
    (h : Ev (fun k => za.l0 k (X.map toR) (n : Int) (out ++ [toR (turnN X X.length j)]) ((j + 1 : Nat) : Int)) R) :
    ∀ (d i : Nat), i + d = X.length → Ev (fun k => za.l1 k (X.map toR) (n : Int) out (j : Int) (i : Int) (hi (turnN X i j)) (lo (turnN X i j))) R := by
  intro d
  induction d with
  | zero =>
    intro i hid
    have : i = X.length := by omega
    subst this
    refine Ev.step (fun k => by rw [za.l1]) ?_
    rw [List.length_map]
    refine Ev.neg (Int.lt_irrefl _) ?_
    rw [z1D hj (by omega)]
    exact Ev.pos (by omega) h
  | succ d ih =>
    intro i hid
    have hi' : i < X.length := by omega
    have hih := ih (i + 1) (by omega)
    have hs : turnN X (i + 1) j = turnN X i j + pick (hasB (X.getD i 0) j) (bitE i) := by unfold turnN; rw [sumN]
    have c1 : (i : Int) < ((X.map toR).length : Int) := by rw [List.length_map]; omega
    have hh : Ev (fun k => zy.f k (hi (X.getD i 0)) (lo (X.getD i 0)) (j : Int)) (hasB (X.getD i 0) j) := z5n _ j (by omega)
    refine Ev.step (fun k => by rw [za.l1]) (Ev.pos c1 (Ev.pos (Int.natCast_nonneg _) ?_))
    simp only [rdR, z63, z64, z1D hi' (show X.length ≤ 4611686018427387904 by omega)]
    refine Ev.bnd hh ?_
    cases c : hasB (X.getD i 0) j with
    | true =>
      rw [c, z1s] at hs
      rw [hs] at hih
      exact Ev.pos rfl (Ev.bnd (z4m i (by omega)) (Ev.bnd0 (z4l _ _) hih))
    | false =>
      rw [c, z1e, add_zero] at hs
      rw [hs] at hih
      exact Ev.neg Bool.false_ne_true hih
theorem z4o (X : List E) (hX : X.length ≤ 128) (n : Nat) (hn : n ≤ 128) : ∀ (d j : Nat), j + d = n →
    Ev (fun k => za.l0 k (X.map toR) (n : Int) ((tabL j (turnN X X.length)).map toR) (j : Int)) ((turnL X n).map toR, 0) := by
  intro d
  induction d with
  | zero =>
    intro j hj
    have : j = n := by omega
    subst this
    refine Ev.step (fun k => by rw [za.l0]) ?_
    exact Ev.neg (Int.lt_irrefl _) (Ev.ret _)
  | succ d ih =>
    intro j hj
    have hj' : j < n := by omega
    have hih := ih (j + 1) (by omega)
    have hs : tabL (j + 1) (turnN X X.length) = tabL j (turnN X X.length) ++ [turnN X X.length j] := z3k _ j
    rw [hs, List.map_append] at hih
    refine Ev.step (fun k => by rw [za.l0]) (Ev.pos (by omega) ?_)
    have e0 : turnN X 0 j = 0 := rfl
    have := z4p X hX n j hj' hn ((tabL j (turnN X X.length)).map toR) (by rw [List.length_map, z1o]; omega) hih X.length 0 (Nat.zero_add _)
    rw [e0, z2y, z2z] at this
    exact this
theorem z4n (X : List E) (hX : X.length ≤ 1000000) (n : Int) : Ev (fun k => za.f k (X.map toR) n) ((turnR X n).map toR, turnE X n) := by
  have h1 : (X.length > 128 ∨ n < 0 ∨ n > 128) → Ev (fun k => za.j0 k (X.map toR) n [] true) ((turnR X n).map toR, turnE X n) := by
    intro h
    have e : turnE X n = 1 := if_pos h
    have eo : turnR X n = [] := if_neg (by rw [e]; decide)
    rw [e, eo]
    refine Ev.step (fun k => by rw [za.j0]) ?_
    exact Ev.pos rfl (Ev.ret _)
  unfold za.f
  rw [List.length_map]
  by_cases c : X.length > 128 ∨ n < 0 ∨ n > 128
  · by_cases c1 : (X.length : Int) > 128
    · exact Ev.pos c1 (h1 c)
    refine Ev.neg c1 ?_
    by_cases c2 : n < 0
    · exact Ev.pos c2 (h1 c)
    refine Ev.neg c2 ?_
    rw [decide_eq_true (show n > 128 by omega)]
    exact h1 c
  refine Ev.neg (by omega) (Ev.neg (by omega) ?_)
  obtain ⟨m, rfl⟩ := Int.eq_ofNat_of_zero_le (show 0 ≤ n by omega)
  rw [decide_eq_false (show ¬ ((m : Int) > 128) by omega)]
  refine Ev.step (fun k => by rw [za.j0]) (Ev.neg (by decide) (Ev.bnd (z5e m X hX) ?_))
  by_cases ci : InN m X
  · have e : turnE X (m : Int) = 0 := by unfold turnE; rw [if_neg c, Int.toNat_natCast, if_pos ci]
    have eo : turnR X (m : Int) = turnL X m := by unfold turnR; rw [if_pos e, Int.toNat_natCast]
    rw [e, eo]
    exact Ev.pos (decide_eq_true ci) (z4o X (by omega) m (by omega) m 0 (Nat.zero_add _))
  · have e : turnE X (m : Int) = 6 := by unfold turnE; rw [if_neg c, Int.toNat_natCast, if_neg ci]
    have eo : turnR X (m : Int) = [] := if_neg (by rw [e]; decide)
    rw [e, eo]
    exact Ev.neg (by rw [decide_eq_false ci]; exact Bool.false_ne_true) (Ev.ret _)
/-- The bits of a sum of bits. -/
theorem z2w (b : Nat → Bool) : ∀ n, n ≤ 128 → (val (sumN (fun u => pick (b u) (bitE u)) n) < 2 ^ n ∧ ∀ j, j < n → hasB (sumN (fun u => pick (b u) (bitE u)) n) j = b j)
  | 0, _ => ⟨by rw [sumN, z1r]; decide, fun j hj => by omega⟩
  | n + 1, h => by
    obtain ⟨h1, h2⟩ := z2w b n (by omega)
    have hp : (2 : Nat) ^ (n + 1) = 2 ^ n + 2 ^ n := by rw [Nat.pow_succ, Nat.mul_two]
    have hv : val (sumN (fun u => pick (b u) (bitE u)) (n + 1)) = val (sumN (fun u => pick (b u) (bitE u)) n) ^^^ (if b n then 2 ^ n else 0) := by
      rw [sumN, z1u, z4V, z2Z (by omega)]
    refine ⟨?_, fun j hj => ?_⟩
    · rw [hv]
      refine Nat.xor_lt_two_pow (by omega) ?_
      split <;> omega
    · have hj2 : hasB (sumN (fun u => pick (b u) (bitE u)) (n + 1)) j = (hasB (sumN (fun u => pick (b u) (bitE u)) n) j ^^ (if b n then 2 ^ n else 0 : Nat).testBit j) := by
        show (val _).testBit j = _
        rw [hv, Nat.testBit_xor]; rfl
      rw [hj2]
      by_cases c : j = n
      · subst c
        have h0 : hasB (sumN (fun u => pick (b u) (bitE u)) j) j = false := Nat.testBit_lt_two_pow h1
        rw [h0, Bool.false_xor]
        cases hb : b j with
        | true => rw [if_pos rfl, Nat.testBit_two_pow_self]
        | false => rw [if_neg Bool.false_ne_true, Nat.zero_testBit]
      · rw [h2 j (by omega)]
        have : (if b n then 2 ^ n else 0 : Nat).testBit j = false := by
          cases b n with
          | true => rw [if_pos rfl, Nat.testBit_two_pow]; simp; omega
          | false => rw [if_neg Bool.false_ne_true, Nat.zero_testBit]
        rw [this, Bool.xor_false]
theorem z5j (X : List E) (hX : X.length ≤ 128) (n : Nat) (hn : n ≤ 128) (hin : InN n X) : turnL (turnL X n) X.length = X ∧ InN X.length (turnL X n) := by
  have hl : (turnL X n).length = n := z1o _ _
  refine ⟨?_, ?_⟩
  · refine z2V (X := turnL (turnL X n) X.length) (Y := X) (z1o _ _) ?_
    intro i hi'
    have hi2 : i < X.length := by
      have : (turnL (turnL X n) X.length).length = X.length := z1o _ _
      omega
    have hg : X.getD i 0 ∈ X := by
      rw [List.getD_eq_getElem?_getD, List.getElem?_eq_getElem hi2]; exact List.getElem_mem hi2
    have h1 : (turnL (turnL X n) X.length).getD i 0 = turnN (turnL X n) (turnL X n).length i := z1U _ _ i hi2
    rw [h1, hl]
    have h2 : turnN (turnL X n) n i = sumN (fun j => pick (hasB (X.getD i 0) j) (bitE j)) n := by
      unfold turnN
      apply z1q
      intro j hj
      have h3 : (turnL X n).getD j 0 = turnN X X.length j := z1U _ _ j hj
      rw [h3]
      unfold turnN
      rw [(z2w (fun u => hasB (X.getD u 0) j) X.length hX).2 i hi2]
    rw [h2]
    apply z22
    rw [z2Q _ n hn, Nat.mod_eq_of_lt (hin _ hg)]
  · intro x hx
    unfold turnL tabL at hx
    obtain ⟨j, _, rfl⟩ := List.mem_map.1 hx
    exact (z2w (fun u => hasB (X.getD u 0) j) X.length hX).1
end Go.Proofs.Ytnhbdhgbmjcjdaa.Sp
namespace Go.Proofs.Ytnhbdhgbmjcjdaa.Sp
open Go.RowKit Go.Proofs.YtnhbdhgbmjcjdaaW.PrintWords Go.Proofs.YtnhbdhgbmjcjdaaW.PrintMore Go.Proofs.Ytnhbdhgbmjcjdaa.P Go.Proofs.Ytnhbdhgbmjcjdaa.Ar Go.Proofs.Ytnhbdhgbmjcjdaa.Tw
set_option linter.unusedVariables false
theorem z2O : Ev (fun k => zB.f k) true := Ev.of zB.mono (k := 140) (by decide +kernel)
theorem turns_j0 (X : List E) (n : Int) (hX : X.length ≤ 140) : Ev (fun k => zm.j0 k (X.map toS) ((turnR X n).map toS) (turnE X n) false) true := by
  refine Ev.step (fun k => by rw [zm.j0]) (Ev.neg (by decide) ?_)
  by_cases c : turnE X n = 0
  · refine Ev.pos c ?_
    have h1 : ¬ (X.length > 128 ∨ n < 0 ∨ n > 128) := fun h => by
      have e : turnE X n = 1 := if_pos h
      rw [e] at c; cases c
    obtain ⟨m, rfl⟩ := Int.eq_ofNat_of_zero_le (show 0 ≤ n by omega)
    have hin : InN m X := by
      apply Classical.byContradiction
      intro g
      have e : turnE X (m : Int) = 6 := by unfold turnE; rw [if_neg h1, Int.toNat_natCast, if_neg g]
      rw [e] at c; cases c
    have eo : turnR X (m : Int) = turnL X m := by unfold turnR; rw [if_pos c, Int.toNat_natCast]
    obtain ⟨t1, t2⟩ := z5j X (by omega) m (by omega) hin
    have hl : (turnL X m).length = m := z1o _ _
    have hT := z5t (turnL X m) (by omega) X.length (by omega) t2
    rw [t1] at hT
    rw [eo, List.length_map]
    refine Ev.bnd hT (Ev.bnd z2O (Ev.pos rfl (Ev.pos rfl ?_)))
    refine Ev.bnd (Ref_ev X (by omega)) (Ev.bnd (z5s X X (by omega)) (Ev.ret' ?_))
    simp
  · exact Ev.neg c (Ev.bnd z2O (Ev.ret _))
theorem z4q (X : List E) (n : Int) : Ev (fun k => zm.f k (X.map toS) n) true := by
  unfold zm.f
  rw [List.length_map]
  by_cases c : (X.length : Int) > 140
  · exact Ev.pos c (Ev.bnd z2O (Ev.ret _))
  refine Ev.neg c ?_
  have hl : (turnR X n).length ≤ 1000000 := by
    unfold turnR
    by_cases g : turnE X n = 0
    · rw [if_pos g]
      have : (turnL X n.toNat).length = n.toNat := z1o _ _
      have h1 : ¬ (X.length > 128 ∨ n < 0 ∨ n > 128) := fun h => by
        have e : turnE X n = 1 := if_pos h
        rw [e] at g; cases g
      omega
    · rw [if_neg g]; exact Nat.zero_le _
  refine Ev.bnd (z50 X n) (Ev.bnd (Ref_ev X (by omega)) (Ev.bnd (z4n X (by omega) n) (Ev.bnd (z5s _ _ hl) ?_)))
  refine Ev.pos (by simp) ?_
  have e : (turnE X n != turnE X n) = false := by simp
  simp only [e]
  exact turns_j0 X n (by omega)
end Go.Proofs.Ytnhbdhgbmjcjdaa.Sp
namespace Go.Proofs.Ytnhbdhgbmjcjdaa.Pure
open Go.RowKit Go.Proofs.YtnhbdhgbmjcjdaaW.PrintWords Go.Proofs.YtnhbdhgbmjcjdaaW.PrintMore Go.Proofs.Ytnhbdhgbmjcjdaa.P Go.Proofs.Ytnhbdhgbmjcjdaa.Ar Go.Proofs.Ytnhbdhgbmjcjdaa.Tw Go.Proofs.Ytnhbdhgbmjcjdaa.Sp
set_option linter.unusedVariables false
theorem SpanTurns : Stated.spanTurns.Pure := by
  intro x0 x1 h0 h1
  obtain ⟨X, rfl⟩ := list_of x0 h0.1
  exact Ev.rounds (z4q X x1)
end Go.Proofs.Ytnhbdhgbmjcjdaa.Pure
-- Own text, written by wip/tools/gen.py: the row of the law SpanTurns, out of its pure statement (PureSpanTurns) and the walk.
namespace Go.Proofs.Ytnhbdhgbmjcjdaa.spanTurns
open Go.ChangeShapes Go.WideShapes Go.ChangeAt Go.RowKit Go.Proofs.YtnhbdhgbmjcjdaaW.PrintWords Go.Proofs.Ytnhbdhgbmjcjdaa.P Go.Proofs.Ytnhbdhgbmjcjdaa.Reads
set_option linter.unusedVariables false
set_option linter.unusedSimpArgs false
theorem own : ownKnob Try.prog.godebug = none := by kernel_rfl
theorem laidOut : laidOutB Try.prog = true := by kernel_rfl
theorem op35 : ReadsAs Try.prog 35 k35 (fun x => ((Lit.int .u64 x.f0).wf = true) ∧ ((Lit.int .u64 x.f1).wf = true)) :=
  (z5S (fun x : S35 => (x.f0, x.f1)) (fun a => ⟨⟨a.1, a.2⟩, rfl⟩) Try.underlying35 rfl (by kernel_rfl) (z5T (by kernel_rfl) (by kernel_rfl) (z5R Try.underlying33) (z5U (by kernel_rfl) (by kernel_rfl) (z5R Try.underlying33)) (by intro g hg; simp only [List.mem_cons, List.not_mem_nil, or_false] at hg; rcases hg with rfl <;> exact of_decide_eq_true (by kernel_rfl))))
theorem op22 : ReadsAs Try.prog 22 (Kd.slice 35 k35) (fun l => (∀ x_ ∈ l, ((Lit.int .u64 x_.f0).wf = true) ∧ ((Lit.int .u64 x_.f1).wf = true)) ∧ l.length ≤ maxLen) := op_slice Try.underlying22 (by kernel_rfl) op35
set_option maxRecDepth 100000 in
theorem lifted (os : Os) (started : os.Started) (H : Type) (enc : TypeId × Value → H) :
    ReturnsInHanded {} Try.checked os 3 .any (Rows.spanTurnsSpec.pre6 enc Try.prog Try.f3 Rows.spanTurnsRow.domain false) (Rows.spanTurnsSpec.post enc Try.prog Try.f3 false true false false) := by
  refine returnsInHanded_of_change_sized (C := Try.checked) own started (by kernel_rfl) Try.func3
    (ChangeSpec.witness6 (enc := enc) (C := Try.checked) false ⟨#[], #[.slice none 0 0, .int .i64 0], []⟩ 8 (by kernel_rfl) (by kernel_rfl) (by kernel_rfl) (by kernel_rfl)) ?_
  intro W base args ds gs before hval0 hW hcnd hsz0 _
  have hval : ∀ (j : Nat) t v, Try.f3.params[j]? = some t → args[j]? = some v → Value.okWide Try.prog W .any base t v := hval0
  have hW' := hW
  obtain ⟨p, q, hA0, hV, rfl, hfz, hnd⟩ := hW
  have hA : DataW.TrodAll enc Try.prog W 0 (fun _ => true) true Try.f3.params.toList args.toList ds p := hA0
  rw [Try.params3] at hA hval
  obtain ⟨v0, vs0, d0, ds0, p0, q0, hargs, rfl, rfl, h0, r0⟩ := trodAll_cons hA
  obtain ⟨v1, vs1, d1, ds1, p1, q1, rfl, rfl, rfl, h1, r1⟩ := trodAll_cons r0
  obtain ⟨rfl, rfl, rfl⟩ := trodAll_nil r1
  obtain rfl : args = #[v0, v1] := by cases args; simp_all
  obtain ⟨rfl, rfl⟩ := trodVars_none hV
  have k0 := h0
  have lt0 : ∀ x ∈ p0, x.block < W.heap.size := by obtain ⟨m, hm⟩ := k0; exact DataW.trod_lt m _ _ _ hm
  obtain ⟨x0, A0, c0, rfl, hc0, hr0, g0⟩ := z5w op22 Try.underlying22 (hval 0 22 v0 rfl rfl) h0
  have k1 := h1
  have lt1 : ∀ x ∈ p1, x.block < W.heap.size := by obtain ⟨m, hm⟩ := k1; exact DataW.trod_lt m _ _ _ hm
  obtain ⟨x1, rfl, g1⟩ := arg_int Try.underlying3 (hval 1 3 v1 rfl rfl) h1
  clear hA0 hval0 hsz0
  obtain ⟨k, hpure⟩ := Pure.SpanTurns x0 x1 g0 g1
  refine (zm.calls k _ _ x0 x1 true W hr0 hc0 hpure).mono fun e W' hh => ?_
  obtain ⟨rfl, bel0⟩ := hh
  have bel : Below W.heap.size W W' := bel0
  exact ⟨_, rfl, _, _, _, [], _, [], hW', trodAll_mk1 (shut_bool Try.underlying4 _), (trodAll_cons_mk (Below.trod laidOut (by kernel_rfl) (of_decide_eq_true (by kernel_rfl)) k0 bel lt0) (trodAll_cons_mk (Below.trod laidOut (by kernel_rfl) (of_decide_eq_true (by kernel_rfl)) k1 bel lt1) trodAll_mk0)), rfl, bel.frame _, fun h => by cases h⟩
theorem over : Rows.spanTurnsRow.holds Try.pinned (OpenSpec.ofChange Rows.spanTurnsSpec) :=
  OpenClaim.holds_of_wide 3 Try.f3 rfl rfl rfl rfl rfl rfl rfl ⟨rfl, rfl, rfl, rfl, rfl⟩ rfl rfl rfl rfl rfl (by kernel_rfl) Try.func3 (by kernel_rfl)
    (of_decide_eq_true (by kernel_rfl)) (by unfold Func.isWrapper; first | (rw [if_pos (by decide +kernel)]; kernel_rfl) | (rw [if_neg (by decide +kernel)]; exact ⟨rfl, rfl⟩))
    (fun os started H enc _ => lifted os started H enc)
theorem proved : Rows.SpanTurnsSaid := over
#print axioms proved
end Go.Proofs.Ytnhbdhgbmjcjdaa.spanTurns
namespace Go.Proofs.Ytnhbdhgbmjcjdaa
/-- The row, under a short name, for the claim. -/
theorem spanTurns_holds : Rows.SpanTurnsSaid := spanTurns.proved
end Go.Proofs.Ytnhbdhgbmjcjdaa
